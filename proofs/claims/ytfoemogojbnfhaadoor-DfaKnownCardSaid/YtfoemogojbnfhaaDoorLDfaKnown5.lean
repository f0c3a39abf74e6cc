/- My own library for walks through the translated code, and the walks of the functions that the law DfaKnown comes to, part 6; no conditions but those that each contract tells. -/
import Derived.ProofKit
import Derived.OpenShut
import Derived.ShutString
import Derived.ChangeOld
import Derived.Below
import Derived.DataElems
import Derived.Test.YtfoemogojbnfhaaDoorTie
import Derived.Test.YtfoemogojbnfhaaDoorCards
import Derived.LaidMore
import Derived.Stop.Joined
import Derived.MakeChecks
import Derived.Test.YtfoemogojbnfhaaDoorLDfaKnown4
namespace Gx
open Go Go.RowKit
set_option linter.unusedSimpArgs false
set_option linter.unusedSectionVars false
set_option linter.unusedVariables false
def Opens {α : Type} (P : Program) (k : Kd α) (t : TypeId) : Prop :=
  ∀ {H : Type} {enc : TypeId × Value → H} {w : World} {spare : Nat → Bool} {held : Bool} {fuel : Nat} {cs : List Value} {x : DataW H × List MemPlace}, DataW.trod enc P w 0 spare held fuel t cs = some x → ∃ m, k.rep (hp w) m cs
section
variable {P : Program} {t e : TypeId}
theorem inK_wf {k : IntKind} {n : Int} (h : (Lit.int k n).wf = true) : inK k n := by
  simp only [Lit.wf, Bool.and_eq_true, decide_eq_true_eq] at h
  exact h
theorem Opens.int {k : IntKind} (ht : P.underlying t = some (.int k)) : Opens P (Kd.int k) t := fun h => by
  obtain ⟨n, rfl, _, hw⟩ := DataW.trod_int ht h
  exact ⟨n, rfl, inK_wf hw⟩
theorem Opens.bool (ht : P.underlying t = some .bool) : Opens P Kd.bool t := fun h => by
  obtain ⟨b, rfl, _⟩ := DataW.trod_bool ht h
  exact ⟨b, rfl, trivial⟩
theorem Opens.string (ht : P.underlying t = some .string) : Opens P Kd.string t := fun h => by
  obtain ⟨s, rfl, _, hs⟩ := DataW.trod_string ht h
  exact ⟨s, rfl, hs⟩
theorem exists_list {α : Type} {Q : Nat → α → Prop} : ∀ (n : Nat), (∀ i, i < n → ∃ m, Q i m) → ∃ l : List α, l.length = n ∧ ∀ i m, l[i]? = some m → Q i m
  | 0, _ => ⟨[], rfl, fun i m h => by simp at h⟩
  | n + 1, h => by
    obtain ⟨l, hl, hq⟩ := exists_list n fun i hi => h i (by omega)
    obtain ⟨m, hm⟩ := h n (by omega)
    refine ⟨l ++ [m], by simp [hl], fun i y hy => ?_⟩
    rw [List.getElem?_append] at hy
    split at hy
    · exact hq i y hy
    · rename_i hi
      have e : i - l.length = 0 := by
        rcases Nat.eq_zero_or_pos (i - l.length) with h0 | h0
        · exact h0
        · rw [List.getElem?_eq_none (by simp; omega)] at hy; cases hy
      rw [e] at hy
      simp at hy
      subst hy
      have : i = n := by omega
      rw [this]; exact hm
theorem Opens.ints {k : IntKind} {n : Nat} (hn : 0 < n) (ht : P.underlying t = some (.array n e)) (he : P.underlying e = some (.int k)) (hc : P.cellsOf e = 1) (hct : P.cellsOf t = n) : Opens P (kInts k n hn) t := fun {H enc w spare held fuel cs x} h => by
  obtain ⟨xs, m, _, _, hl, hx, hel⟩ := DataW.trod_array ht h
  rw [hct] at hl
  have h1 : ∀ i, i < n → ∃ z : Int, cs[i]? = some (.int k z) ∧ inK k z := fun i hi => by
    have h2 := hel i hi
    rw [hc, Nat.mul_one, List.getElem?_eq_getElem (by omega)] at h2
    obtain ⟨z, hz, _, hw⟩ := DataW.trod_int he h2
    refine ⟨z, ?_, inK_wf hw⟩
    have h3 := congrArg (fun l : List Value => l[0]?) hz
    simpa [List.getElem?_take, List.getElem?_drop] using h3
  obtain ⟨l, hll, hq⟩ := exists_list n h1
  refine ⟨l, ?_, hll, fun z hz => ?_⟩
  · apply List.ext_getElem?
    intro i
    rw [zbb, List.getElem?_map]
    by_cases hi : i < n
    · have h4 := hq i (l[i]'(by omega)) (List.getElem?_eq_getElem _)
      rw [h4.1, List.getElem?_eq_getElem (by omega)]; rfl
    · rw [List.getElem?_eq_none (by omega), List.getElem?_eq_none (by omega)]; rfl
  · obtain ⟨i, hi⟩ := List.mem_iff_getElem?.1 hz
    exact (hq i z hi).2
theorem Opens.set (ht : P.underlying t = some (.array 4 e)) (he : P.underlying e = some (.int .u64)) (hc : P.cellsOf e = 1) (hct : P.cellsOf t = 4) : Opens P kSet t := fun h => by
  obtain ⟨l, hl, hok⟩ := Opens.ints (n := 4) (by omega) ht he hc hct h
  exact ⟨zca l, by rw [hl, encSet_of hok], trivial⟩
theorem Opens.slice {α : Type} {k : Kd α} (ht : P.underlying t = some (.slice e)) (hc : P.cellsOf e = k.sz) (ho : Opens P k e) : Opens P k.slice t := fun {H enc w spare held fuel cs x} h => by
  rcases DataW.trod_slice ht h with ⟨rfl, _⟩ | ⟨a, len, cap, elems, rest, n, _, rfl, _, _, hl, hm, hlen, hel, _, _⟩
  · exact ⟨[], none, 0, rfl, Nat.le_refl _, by simp [maxLen], fun hne => (hne rfl).elim⟩
  · rw [hc] at hel
    have h1 : ∀ i, i < len → ∃ m, ∃ seg, k.rep (hp w) m seg ∧ ∀ j v, seg[j]? = some v → zeg (hp w) (a.add (i * k.sz + j)) = some v := fun i hi => by
      have h2 := hel i hi
      rw [List.getElem?_eq_getElem (by omega)] at h2
      obtain ⟨seg, hseg, hd⟩ := Option.bind_eq_some_iff.1 h2
      obtain ⟨m, hr⟩ := ho hd
      refine ⟨m, seg, hr, fun j v hj => ?_⟩
      obtain ⟨_, hlen2, hcell⟩ := World.cells?_some hseg
      have hjl : j < k.sz := by
        have := (List.getElem?_eq_some_iff.1 hj).1
        rw [k.len hr] at this; exact this
      have h5 := hcell j hjl
      rw [hj] at h5
      rw [Addr.add_add] at h5
      show zeg (hp w) _ = _
      unfold zeg hp
      unfold World.cell? at h5
      exact h5
    obtain ⟨l, hll, hq⟩ := exists_list len h1
    refine ⟨l, some a, cap, by rw [hll], by omega, hm, fun _ => ⟨a, rfl, hq⟩⟩
end
end Gx
namespace Gx
open Go Go.RowKit
set_option linter.unusedSimpArgs false
set_option linter.unusedSectionVars false
set_option linter.unusedVariables false
section
variable {P : Program} {t : TypeId}
theorem trod_field {H : Type} {enc : TypeId × Value → H} {w : World} {spare : Nat → Bool} {held : Bool} {fuel : Nat} {cs : List Value} {x : DataW H × List MemPlace} {α : Type} {k : Kd α} {q o ft : Nat} (hf : zb5 P t q = some (o, ft)) (hc : P.cellsOf ft = k.sz) (ho : Opens P k ft) (h : DataW.trod enc P w 0 spare held fuel t cs = some x) : ∃ m, k.rep (hp w) m ((cs.drop o).take k.sz) := by
  obtain ⟨fs, fd, hu, hq, rfl, rfl⟩ := fieldInfo_parts hf
  obtain ⟨xs, n, _, _, _, hl, hp⟩ := DataW.trod_struct hu h
  have h1 := hp q fd hq
  have hlt : q < fs.size := (Array.getElem?_eq_some_iff.1 hq).1
  rw [hc, List.getElem?_eq_getElem (by omega)] at h1
  exact ho h1
theorem trod_len {H : Type} {enc : TypeId × Value → H} {w : World} {spare : Nat → Bool} {held : Bool} {fuel : Nat} {cs : List Value} {x : DataW H × List MemPlace} {q o ft : Nat} (hf : zb5 P t q = some (o, ft)) (h : DataW.trod enc P w 0 spare held fuel t cs = some x) : cs.length = P.cellsOf t := by
  obtain ⟨fs, fd, hu, hq, rfl, rfl⟩ := fieldInfo_parts hf
  obtain ⟨xs, n, _, _, hl, _, _⟩ := DataW.trod_struct hu h
  exact hl
theorem Opens.spot {a b : TypeId} (h0 : zb5 P t 0 = some (0, a)) (h1 : zb5 P t 1 = some (4, b)) (hc : P.cellsOf t = 5) (ha : P.cellsOf a = 4) (hb : P.cellsOf b = 1) (oa : Opens P kSet a) (ob : Opens P (Kd.int .u8) b) : Opens P kSpot t := fun {H enc w spare held fuel cs x} h => by
  obtain ⟨s, e0, _⟩ := trod_field h0 ha oa h
  obtain ⟨n, e1, hn⟩ := trod_field h1 hb ob h
  have hl := trod_len h0 h
  rw [hc] at hl
  refine ⟨⟨s, n⟩, ?_, hn⟩
  have e2 : cs = (cs.drop 0).take 4 ++ (cs.drop 4).take 1 := by
    rw [List.drop_zero, List.take_of_length_le (l := cs.drop 4) (by simp; omega), List.take_append_drop]
  rw [e2]
  show (cs.drop 0).take kSet.sz ++ (cs.drop 4).take (Kd.int .u8).sz = _
  rw [e0, e1]; rfl
end
end Gx
namespace Gx
open Go Go.RowKit
set_option linter.unusedSimpArgs false
set_option linter.unusedSectionVars false
set_option linter.unusedVariables false
section
variable {P : Program} {t : TypeId}
theorem parts_of {cs : List Value} {n m : Nat} (h : cs.length = n + m) : cs = (cs.drop 0).take n ++ (cs.drop n).take m := by
  rw [List.drop_zero, List.take_of_length_le (l := cs.drop n) (by simp; omega), List.take_append_drop]
theorem Opens.part {a b : TypeId} (h0 : zb5 P t 0 = some (0, a)) (h1 : zb5 P t 1 = some (256, b)) (hc : P.cellsOf t = 257) (ha : P.cellsOf a = 256) (hb : P.cellsOf b = 1) (oa : Opens P (kInts .u8 256 (by decide)) a) (ob : Opens P (Kd.int .i64) b) : Opens P kPart t := fun {H enc w spare held fuel cs x} h => by
  obtain ⟨l, e0, ok⟩ := trod_field (k := kInts .u8 256 (by decide)) h0 ha oa h
  obtain ⟨n, e1, hn⟩ := trod_field h1 hb ob h
  have hl := trod_len h0 h
  rw [hc] at hl
  refine ⟨⟨l, n⟩, ?_, ok, hn⟩
  rw [parts_of (n := 256) (m := 1) hl]
  show (cs.drop 0).take (kInts .u8 256 (by decide)).sz ++ (cs.drop 256).take (Kd.int .i64).sz = _
  rw [e0, e1]; rfl
def kDfa : Kd Dfa where
  sz := 259
  pos := by omega
  rep := fun h d cs => ∃ A1 c1 A2 c2, cs = zad d.part ++ [.slice A1 d.next.length c1, .slice A2 d.final.length c2] ∧ okPart d.part ∧
    ((d.next.length ≤ c1 ∧ c1 ≤ maxLen) ∧ zbz (Kd.int .i64).slice h A1 d.next) ∧ ((d.final.length ≤ c2 ∧ c2 ≤ maxLen) ∧ zbz Kd.bool h A2 d.final)
  mono := fun hl ⟨A1, c1, A2, c2, e, o, h1, h2⟩ => ⟨A1, c1, A2, c2, e, o, ⟨h1.1, h1.2.mono hl⟩, ⟨h2.1, h2.2.mono hl⟩⟩
  len := fun ⟨_, _, _, _, e, o, _⟩ => by rw [e, List.length_append, zaf o]; rfl
  one := fun ⟨_, _, _, _, e, _⟩ u hu => by
    rw [e] at hu
    rcases List.mem_append.1 hu with hu | hu
    · exact zaz _ u hu
    · exact zb8 rfl (zb8 rfl zdc) u hu
theorem Opens.dfa {t0 t1 t2 : TypeId} (h0 : zb5 P t 0 = some (0, t0)) (h1 : zb5 P t 1 = some (257, t1)) (h2 : zb5 P t 2 = some (258, t2)) (hc : P.cellsOf t = 259) (c0 : P.cellsOf t0 = 257) (c1 : P.cellsOf t1 = 1) (c2 : P.cellsOf t2 = 1)
    (o0 : Opens P kPart t0) (o1 : Opens P (Kd.int .i64).slice.slice t1) (o2 : Opens P Kd.bool.slice t2) : Opens P kDfa t := fun {H enc w spare held fuel cs x} h => by
  obtain ⟨m0, e0, ok⟩ := trod_field (k := kPart) h0 c0 o0 h
  obtain ⟨m1, A1, d1, e1, b1, b1', l1⟩ := trod_field h1 c1 o1 h
  obtain ⟨m2, A2, d2, e2, b2, b2', l2⟩ := trod_field h2 c2 o2 h
  have hl := trod_len h0 h
  rw [hc] at hl
  refine ⟨⟨m0, m1, m2⟩, A1, d1, A2, d2, ?_, ok, ⟨⟨b1, b1'⟩, l1⟩, ⟨⟨b2, b2'⟩, l2⟩⟩
  have p2 : (cs.drop 257) = ((cs.drop 257).drop 0).take 1 ++ ((cs.drop 257).drop 1).take 1 := parts_of (n := 1) (m := 1) (by rw [List.length_drop]; omega)
  have p1 : cs = (cs.drop 0).take 257 ++ cs.drop 257 := by rw [List.drop_zero, List.take_append_drop]
  rw [p1, p2, List.drop_drop, List.drop_drop]
  have e0' : (cs.drop 0).take 257 = zad m0 := e0
  have e1' : (cs.drop 257).take 1 = [.slice A1 m1.length d1] := e1
  have e2' : (cs.drop 258).take 1 = [.slice A2 m2.length d2] := e2
  rw [e0', show 257 + 0 = 257 from rfl, show 257 + 1 = 258 from rfl, e1', e2']; rfl
end
end Gx
namespace Go.Proofs.YtfoemogojbnfhaaDoor
open Go Go.RowKit Gx
set_option maxHeartbeats 1000000
set_option linter.unusedVariables false
set_option linter.unusedSimpArgs false
set_option maxRecDepth 8000
attribute [local irreducible] zb6 count first someIn has zbx wbits Lib.ctz badQ zd0 zb7 goD runD notD errD notTo zcd zde howB zdv zae errO zb9 nextC outTo zek rowIn zdh lastB zbd zds zaa errB fitsP madeM allM bfs zdf putB beginB okB zd3 zcu rowOk tab markP intoP zej runTo endsIn runM anyTo allTo lettersP sameR
theorem dfaKnown_calls (w : World) (tb : Block 0 tzTab w) :
    Calls Tryd.prog 9 #[] w fun e w' => ∃ v, e = .returned v ∧ ∃ (hn : Ghost), St w.heap.size w hn w' [] ∧ v = .bool true := by
 refine zas Tryd.func9 rfl Tryd.ntmps9 rfl ?_
 have S0 := St.init w
 have hk1_ : (bK.next.length : Int) ≤ 1048577 := by rw [zdy]; decide
 have hk3_ : (xB.next.length : Int) = 5 := by rw [k_xB]; decide
 have hk4_ : (xB.final.length : Int) = 5 := by rw [k_xB]; decide
 have hk7_ : ((zae bK bK (3)).next.length : Int) = 5 := hk3_
 have hk8_ : ((zae bK bK (3)).final.length : Int) = 5 := hk4_
 have hk5_ : ((zaa zep (zap ([] : List BSet))).next.length : Int) = 2 := k_one2
 have hk6_ : ((zaa zep (zap ([] : List BSet))).next.length : Int) ≤ 1048577 := by omega
 refine zag <| zah (l := [0]) rfl <| p_v (v := .bool false) rfl rfl rfl (zaj rfl) <| zac <| zag <| zah (l := [0, 1, 2, 3, 4, 5, 6, 7, 8]) rfl <| p_c rfl rfl rfl (zba (args := []) ca46 rfl rfl) (some10_calls w ) ?_
 rintro _ w1 ⟨h1, v1_0, v1_1, v1_2, v1_3, T1, rfl⟩
 obtain ⟨k1, lk1, ll1, U1⟩ := zch S0 T1
 have S2 := U1
 dsimp only [lAa, lAn, lA0, lAs] at S2
 obtain ⟨h3, le3, T3, rp3⟩ := S2.freeze (i := 0) rfl
 have lf3_0 := (lk1).trans le3
 have S4 := T3.fx 0 (emp) rfl
 dsimp only [lAa, lAn, lA0, lAs] at S4
 obtain ⟨A3, c3, e3, lc3, cm3, ld3⟩ := rp3
 injection e3 with e3 _; subst e3
 have cn3 := cm3; simp only [maxLen] at cn3
 obtain ⟨h5, le5, T5, rp5⟩ := S4.freeze (i := 1) rfl
 have lf5_0 := (lf3_0).trans le5
 have lf5_1 := (le3).trans le5
 have S6 := T5.fx 1 (emp) rfl
 dsimp only [lAa, lAn, lA0, lAs] at S6
 obtain ⟨A5, c5, e5, lc5, cm5, ld5⟩ := rp5
 injection e5 with e5 _; subst e5
 have cn5 := cm5; simp only [maxLen] at cn5
 obtain ⟨h7, le7, T7, rp7⟩ := S6.freeze (i := 2) rfl
 have lf7_0 := (lf5_0).trans le7
 have lf7_1 := (lf5_1).trans le7
 have lf7_2 := (le5).trans le7
 have S8 := T7.fx 2 (emp) rfl
 dsimp only [lAa, lAn, lA0, lAs] at S8
 obtain ⟨A7, c7, e7, lc7, cm7, ld7⟩ := rp7
 injection e7 with e7 _; subst e7
 have cn7 := cm7; simp only [maxLen] at cn7
 obtain ⟨h9, le9, T9, rp9⟩ := S8.freeze (i := 3) rfl
 have lf9_0 := (lf7_0).trans le9
 have lf9_1 := (lf7_1).trans le9
 have lf9_2 := (lf7_2).trans le9
 have lf9_3 := (le7).trans le9
 have S10 := T9.fx 3 (emp) rfl
 dsimp only [lAa, lAn, lA0, lAs] at S10
 obtain ⟨A9, c9, e9, lc9, cm9, ld9⟩ := rp9
 injection e9 with e9 _; subst e9
 have cn9 := cm9; simp only [maxLen] at cn9
 refine p_c rfl rfl rfl (zba (args := []) ca47 rfl rfl) (letters_calls w1 ) ?_
 rintro _ w11 ⟨h11, T11, rfl, ok11_0⟩
 have S12 := S10.keep (Chg.of_below T11.below)
 refine p_c rfl rfl rfl (zba (args := [.agg #[.slice A3 zab.spots.length c3, .slice A5 zab.first.length c5, .slice A7 zab.follow.length c7, .slice A9 zab.last.length c9, .bool zab.empty], .agg (zad lettersP).toArray, .pointer none]) ca21 rfl rfl) (build_calls w11 zab A3 c3 (And.intro lc3 cm3) (ld3.mono (lf9_2.trans S12.ghost)) A5 c5 (And.intro lc5 cm5) (ld5.mono (lf9_3.trans S12.ghost)) A7 c7 (And.intro lc7 cm7) (ld7.mono (le9.trans S12.ghost)) A9 c9 (And.intro lc9 cm9) (ld9.mono ((Le.refl _).trans S12.ghost)) lettersP ok11_0 () (by first | assumption | omega | decide) (Block.st S12 tb)) ?_
 rintro _ w13 ⟨h13, v13_0, v13_1, T13, rfl, ok13_0, in13_1⟩
 obtain ⟨k13, lk13, ll13, U13⟩ := zch S12 T13
 have lc13_0 := (lf9_0).trans lk13
 have lc13_1 := (lf9_1).trans lk13
 have lc13_2 := (lf9_2).trans lk13
 have lc13_3 := (lf9_3).trans lk13
 have lc13_4 := (le9).trans lk13
 have S14 := U13
 dsimp only [lAa, lAn, lA0, lAs] at S14
 have lo_in13_1 := zbf in13_1; have hi_in13_1 := zbg in13_1
 obtain ⟨h15, le15, T15, rp15⟩ := S14.freeze (i := 4) rfl
 have lf15_0 := (lc13_0).trans le15
 have lf15_1 := (lc13_1).trans le15
 have lf15_2 := (lc13_2).trans le15
 have lf15_3 := (lc13_3).trans le15
 have lf15_4 := (lc13_4).trans le15
 have lf15_5 := (lk13).trans le15
 have S16 := T15.fx 4 (emp) rfl
 dsimp only [lAa, lAn, lA0, lAs] at S16
 obtain ⟨A15, c15, e15, lc15, cm15, ld15⟩ := rp15
 injection e15 with e15 _; subst e15
 have cn15 := cm15; simp only [maxLen] at cn15
 obtain ⟨h17, le17, T17, rp17⟩ := S16.freeze (i := 5) rfl
 have lf17_0 := (lf15_0).trans le17
 have lf17_1 := (lf15_1).trans le17
 have lf17_2 := (lf15_2).trans le17
 have lf17_3 := (lf15_3).trans le17
 have lf17_4 := (lf15_4).trans le17
 have lf17_5 := (lf15_5).trans le17
 have lf17_6 := (le15).trans le17
 have S18 := T17.fx 5 (emp) rfl
 dsimp only [lAa, lAn, lA0, lAs] at S18
 obtain ⟨A17, c17, e17, lc17, cm17, ld17⟩ := rp17
 injection e17 with e17 _; subst e17
 have cn17 := cm17; simp only [maxLen] at cn17
 refine p_v (v := .tuple #[.agg ((zad (bK.part)) ++ ([.slice A15 (bK.next).length c15, .slice A17 (bK.final).length c17] : List Value)).toArray, .int .i64 (errB zab lettersP)]) rfl rfl rfl (zai rfl) <| p_v (v := .agg ((zad (bK.part)) ++ ([.slice A15 (bK.next).length c15, .slice A17 (bK.final).length c17] : List Value)).toArray) rfl rfl rfl (zb1 (vs := [.agg ((zad (bK.part)) ++ ([.slice A15 (bK.next).length c15, .slice A17 (bK.final).length c17] : List Value)).toArray, .int .i64 (errB zab lettersP)]) rfl rfl) <| p_v (v := .int .i64 (errB zab lettersP)) rfl rfl rfl (zb1 (vs := [.agg ((zad (bK.part)) ++ ([.slice A15 (bK.next).length c15, .slice A17 (bK.final).length c17] : List Value)).toArray, .int .i64 (errB zab lettersP)]) rfl rfl) ?_
 obtain ⟨b19, w19, r19, g19, T19⟩ := zb0 (P := Tryd.prog) S18 35 (v := zv35) ((zad zPart) ++ ([.slice none 0 0, .slice none 0 0] : List Value)) (by kernel_rfl)
 have S20 := T19
 dsimp only [lAa, lAn, lA0, lAs] at S20
 refine p_v (v := .pointer (some ⟨b19, 0, none⟩)) rfl rfl rfl (zbr ty35 r19) ?_
 obtain ⟨w21, r21, g21, T21⟩ := za7 (P := Tryd.prog) (v := .agg ((zad (bK.part)) ++ ([.slice A15 (bK.next).length c15, .slice A17 (bK.final).length c17] : List Value)).toArray) (vs := ((zad (bK.part)) ++ ([.slice A15 (bK.next).length c15, .slice A17 (bK.final).length c17] : List Value))) (cs := ((zad zPart) ++ ([.slice none 0 0, .slice none 0 0] : List Value))) S20 ty35 rfl (zal (zaf ok13_0) rfl) (zal (zaf (zao)) rfl) (j := 6) rfl (zcc (zaz _) (by simp [Value.oneCell']))
 have S22 := T21.fx 6 (box b19 35 ((zad (bK.part)) ++ ([.slice A15 (bK.next).length c15, .slice A17 (bK.final).length c17] : List Value))) rfl
 dsimp only [lAa, lAn, lA0, lAs] at S22
 refine p_s rfl rfl (za2 rfl rfl r21) <| p_v (v := .int .i64 (errB zab lettersP)) rfl rfl rfl (zaj rfl) <| zac <| zag <| zah (l := [0, 1, 2, 3, 4, 5, 6, 7, 8, 9]) rfl ?_
 obtain ⟨v23, w23, r23, g23, T23⟩ := za5 (kd := (Kd.int .i64)) (xs := ([1, 2, 1, 1] : List Int)) (len := 4) [.int .i64 1, .int .i64 2, .int .i64 1, .int .i64 1] S22 u23 ty3 rfl rfl rfl rfl rfl (za0 rfl (za0 rfl (za0 rfl (za0 rfl zb4)))) ([.int .i64 1] ++ ([.int .i64 2] ++ ([.int .i64 1] ++ ([.int .i64 1])))) (zbp.cons (k := (Kd.int .i64)) (h := h17) (x := 1) (cs := [.int .i64 1]) ⟨rfl, (zar (by first|omega|(simp;omega)|assumption|simp) (by first|omega|(simp;omega)|assumption|simp))⟩ (zbp.cons (k := (Kd.int .i64)) (h := h17) (x := 2) (cs := [.int .i64 2]) ⟨rfl, (zar (by first|omega|(simp;omega)|assumption|simp) (by first|omega|(simp;omega)|assumption|simp))⟩ (zbp.cons (k := (Kd.int .i64)) (h := h17) (x := 1) (cs := [.int .i64 1]) ⟨rfl, (zar (by first|omega|(simp;omega)|assumption|simp) (by first|omega|(simp;omega)|assumption|simp))⟩ (zbp.single (k := (Kd.int .i64)) (h := h17) (x := 1) (cs := [.int .i64 1]) ⟨rfl, (zar (by first|omega|(simp;omega)|assumption|simp) (by first|omega|(simp;omega)|assumption|simp))⟩)))) rfl
 have S24 := T23
 dsimp only [lAa, lAn, lA0, lAs] at S24
 refine p_v (v := v23) rfl rfl rfl (zat (pv := [(0, .int .i64 1), (1, .int .i64 2), (2, .int .i64 1), (3, .int .i64 1)]) rfl r23) ?_
 obtain ⟨v25, w25, r25, g25, T25⟩ := za5 (kd := (Kd.int .i64)) (xs := ([1, 1, 1, 1] : List Int)) (len := 4) [.int .i64 1, .int .i64 1, .int .i64 1, .int .i64 1] S24 u23 ty3 rfl rfl rfl rfl rfl (za0 rfl (za0 rfl (za0 rfl (za0 rfl zb4)))) ([.int .i64 1] ++ ([.int .i64 1] ++ ([.int .i64 1] ++ ([.int .i64 1])))) (zbp.cons (k := (Kd.int .i64)) (h := h17) (x := 1) (cs := [.int .i64 1]) ⟨rfl, (zar (by first|omega|(simp;omega)|assumption|simp) (by first|omega|(simp;omega)|assumption|simp))⟩ (zbp.cons (k := (Kd.int .i64)) (h := h17) (x := 1) (cs := [.int .i64 1]) ⟨rfl, (zar (by first|omega|(simp;omega)|assumption|simp) (by first|omega|(simp;omega)|assumption|simp))⟩ (zbp.cons (k := (Kd.int .i64)) (h := h17) (x := 1) (cs := [.int .i64 1]) ⟨rfl, (zar (by first|omega|(simp;omega)|assumption|simp) (by first|omega|(simp;omega)|assumption|simp))⟩ (zbp.single (k := (Kd.int .i64)) (h := h17) (x := 1) (cs := [.int .i64 1]) ⟨rfl, (zar (by first|omega|(simp;omega)|assumption|simp) (by first|omega|(simp;omega)|assumption|simp))⟩)))) rfl
 have S26 := T25
 dsimp only [lAa, lAn, lA0, lAs] at S26
 refine p_v (v := v25) rfl rfl rfl (zat (pv := [(0, .int .i64 1), (1, .int .i64 1), (2, .int .i64 1), (3, .int .i64 1)]) rfl r25) ?_
 obtain ⟨v27, w27, r27, g27, T27⟩ := za5 (kd := (Kd.int .i64)) (xs := ([1, 1, 3, 4] : List Int)) (len := 4) [.int .i64 1, .int .i64 1, .int .i64 3, .int .i64 4] S26 u23 ty3 rfl rfl rfl rfl rfl (za0 rfl (za0 rfl (za0 rfl (za0 rfl zb4)))) ([.int .i64 1] ++ ([.int .i64 1] ++ ([.int .i64 3] ++ ([.int .i64 4])))) (zbp.cons (k := (Kd.int .i64)) (h := h17) (x := 1) (cs := [.int .i64 1]) ⟨rfl, (zar (by first|omega|(simp;omega)|assumption|simp) (by first|omega|(simp;omega)|assumption|simp))⟩ (zbp.cons (k := (Kd.int .i64)) (h := h17) (x := 1) (cs := [.int .i64 1]) ⟨rfl, (zar (by first|omega|(simp;omega)|assumption|simp) (by first|omega|(simp;omega)|assumption|simp))⟩ (zbp.cons (k := (Kd.int .i64)) (h := h17) (x := 3) (cs := [.int .i64 3]) ⟨rfl, (zar (by first|omega|(simp;omega)|assumption|simp) (by first|omega|(simp;omega)|assumption|simp))⟩ (zbp.single (k := (Kd.int .i64)) (h := h17) (x := 4) (cs := [.int .i64 4]) ⟨rfl, (zar (by first|omega|(simp;omega)|assumption|simp) (by first|omega|(simp;omega)|assumption|simp))⟩)))) rfl
 have S28 := T27
 dsimp only [lAa, lAn, lA0, lAs] at S28
 refine p_v (v := v27) rfl rfl rfl (zat (pv := [(0, .int .i64 1), (1, .int .i64 1), (2, .int .i64 3), (3, .int .i64 4)]) rfl r27) ?_
 obtain ⟨v29, w29, r29, g29, T29⟩ := za5 (kd := (Kd.int .i64)) (xs := ([1, 1, 1, 1] : List Int)) (len := 4) [.int .i64 1, .int .i64 1, .int .i64 1, .int .i64 1] S28 u23 ty3 rfl rfl rfl rfl rfl (za0 rfl (za0 rfl (za0 rfl (za0 rfl zb4)))) ([.int .i64 1] ++ ([.int .i64 1] ++ ([.int .i64 1] ++ ([.int .i64 1])))) (zbp.cons (k := (Kd.int .i64)) (h := h17) (x := 1) (cs := [.int .i64 1]) ⟨rfl, (zar (by first|omega|(simp;omega)|assumption|simp) (by first|omega|(simp;omega)|assumption|simp))⟩ (zbp.cons (k := (Kd.int .i64)) (h := h17) (x := 1) (cs := [.int .i64 1]) ⟨rfl, (zar (by first|omega|(simp;omega)|assumption|simp) (by first|omega|(simp;omega)|assumption|simp))⟩ (zbp.cons (k := (Kd.int .i64)) (h := h17) (x := 1) (cs := [.int .i64 1]) ⟨rfl, (zar (by first|omega|(simp;omega)|assumption|simp) (by first|omega|(simp;omega)|assumption|simp))⟩ (zbp.single (k := (Kd.int .i64)) (h := h17) (x := 1) (cs := [.int .i64 1]) ⟨rfl, (zar (by first|omega|(simp;omega)|assumption|simp) (by first|omega|(simp;omega)|assumption|simp))⟩)))) rfl
 have S30 := T29
 dsimp only [lAa, lAn, lA0, lAs] at S30
 refine p_v (v := v29) rfl rfl rfl (zat (pv := [(0, .int .i64 1), (1, .int .i64 1), (2, .int .i64 1), (3, .int .i64 1)]) rfl r29) ?_
 obtain ⟨v31, w31, r31, g31, T31⟩ := za5 (kd := (Kd.int .i64)) (xs := ([1, 1, 1, 1] : List Int)) (len := 4) [.int .i64 1, .int .i64 1, .int .i64 1, .int .i64 1] S30 u23 ty3 rfl rfl rfl rfl rfl (za0 rfl (za0 rfl (za0 rfl (za0 rfl zb4)))) ([.int .i64 1] ++ ([.int .i64 1] ++ ([.int .i64 1] ++ ([.int .i64 1])))) (zbp.cons (k := (Kd.int .i64)) (h := h17) (x := 1) (cs := [.int .i64 1]) ⟨rfl, (zar (by first|omega|(simp;omega)|assumption|simp) (by first|omega|(simp;omega)|assumption|simp))⟩ (zbp.cons (k := (Kd.int .i64)) (h := h17) (x := 1) (cs := [.int .i64 1]) ⟨rfl, (zar (by first|omega|(simp;omega)|assumption|simp) (by first|omega|(simp;omega)|assumption|simp))⟩ (zbp.cons (k := (Kd.int .i64)) (h := h17) (x := 1) (cs := [.int .i64 1]) ⟨rfl, (zar (by first|omega|(simp;omega)|assumption|simp) (by first|omega|(simp;omega)|assumption|simp))⟩ (zbp.single (k := (Kd.int .i64)) (h := h17) (x := 1) (cs := [.int .i64 1]) ⟨rfl, (zar (by first|omega|(simp;omega)|assumption|simp) (by first|omega|(simp;omega)|assumption|simp))⟩)))) rfl
 have S32 := T31
 dsimp only [lAa, lAn, lA0, lAs] at S32
 refine p_v (v := v31) rfl rfl rfl (zat (pv := [(0, .int .i64 1), (1, .int .i64 1), (2, .int .i64 1), (3, .int .i64 1)]) rfl r31) ?_
 obtain ⟨h34, le34, T34, rp34⟩ := S32.freeze (i := 7) rfl
 have lf34_0 := (lf17_0).trans le34
 have lf34_1 := (lf17_1).trans le34
 have lf34_2 := (lf17_2).trans le34
 have lf34_3 := (lf17_3).trans le34
 have lf34_4 := (lf17_4).trans le34
 have lf34_5 := (lf17_5).trans le34
 have lf34_6 := (lf17_6).trans le34
 have lf34_7 := (le17).trans le34
 have S35 := T34.fx 7 (emp) rfl
 dsimp only [lAa, lAn, lA0, lAs] at S35
 obtain ⟨A34, c34, e34, lc34, cm34, ld34⟩ := rp34
 injection e34 with e34 _; subst e34
 have cn34 := cm34; simp only [maxLen] at cn34
 obtain ⟨h36, le36, T36, rp36⟩ := S35.freeze (i := 8) rfl
 have lf36_0 := (lf34_0).trans le36
 have lf36_1 := (lf34_1).trans le36
 have lf36_2 := (lf34_2).trans le36
 have lf36_3 := (lf34_3).trans le36
 have lf36_4 := (lf34_4).trans le36
 have lf36_5 := (lf34_5).trans le36
 have lf36_6 := (lf34_6).trans le36
 have lf36_7 := (lf34_7).trans le36
 have lf36_8 := (le34).trans le36
 have S37 := T36.fx 8 (emp) rfl
 dsimp only [lAa, lAn, lA0, lAs] at S37
 obtain ⟨A36, c36, e36, lc36, cm36, ld36⟩ := rp36
 injection e36 with e36 _; subst e36
 have cn36 := cm36; simp only [maxLen] at cn36
 obtain ⟨h38, le38, T38, rp38⟩ := S37.freeze (i := 9) rfl
 have lf38_0 := (lf36_0).trans le38
 have lf38_1 := (lf36_1).trans le38
 have lf38_2 := (lf36_2).trans le38
 have lf38_3 := (lf36_3).trans le38
 have lf38_4 := (lf36_4).trans le38
 have lf38_5 := (lf36_5).trans le38
 have lf38_6 := (lf36_6).trans le38
 have lf38_7 := (lf36_7).trans le38
 have lf38_8 := (lf36_8).trans le38
 have lf38_9 := (le36).trans le38
 have S39 := T38.fx 9 (emp) rfl
 dsimp only [lAa, lAn, lA0, lAs] at S39
 obtain ⟨A38, c38, e38, lc38, cm38, ld38⟩ := rp38
 injection e38 with e38 _; subst e38
 have cn38 := cm38; simp only [maxLen] at cn38
 obtain ⟨h40, le40, T40, rp40⟩ := S39.freeze (i := 10) rfl
 have lf40_0 := (lf38_0).trans le40
 have lf40_1 := (lf38_1).trans le40
 have lf40_2 := (lf38_2).trans le40
 have lf40_3 := (lf38_3).trans le40
 have lf40_4 := (lf38_4).trans le40
 have lf40_5 := (lf38_5).trans le40
 have lf40_6 := (lf38_6).trans le40
 have lf40_7 := (lf38_7).trans le40
 have lf40_8 := (lf38_8).trans le40
 have lf40_9 := (lf38_9).trans le40
 have lf40_10 := (le38).trans le40
 have S41 := T40.fx 10 (emp) rfl
 dsimp only [lAa, lAn, lA0, lAs] at S41
 obtain ⟨A40, c40, e40, lc40, cm40, ld40⟩ := rp40
 injection e40 with e40 _; subst e40
 have cn40 := cm40; simp only [maxLen] at cn40
 obtain ⟨h42, le42, T42, rp42⟩ := S41.freeze (i := 11) rfl
 have lf42_0 := (lf40_0).trans le42
 have lf42_1 := (lf40_1).trans le42
 have lf42_2 := (lf40_2).trans le42
 have lf42_3 := (lf40_3).trans le42
 have lf42_4 := (lf40_4).trans le42
 have lf42_5 := (lf40_5).trans le42
 have lf42_6 := (lf40_6).trans le42
 have lf42_7 := (lf40_7).trans le42
 have lf42_8 := (lf40_8).trans le42
 have lf42_9 := (lf40_9).trans le42
 have lf42_10 := (lf40_10).trans le42
 have lf42_11 := (le40).trans le42
 have S43 := T42.fx 11 (emp) rfl
 dsimp only [lAa, lAn, lA0, lAs] at S43
 obtain ⟨A42, c42, e42, lc42, cm42, ld42⟩ := rp42
 injection e42 with e42 _; subst e42
 have cn42 := cm42; simp only [maxLen] at cn42
 obtain ⟨v33, w33, r33, g33, T33⟩ := za5 (kd := (Kd.int .i64).slice) (xs := ([([1, 2, 1, 1] : List Int), ([1, 1, 1, 1] : List Int), ([1, 1, 3, 4] : List Int), ([1, 1, 1, 1] : List Int), ([1, 1, 1, 1] : List Int)] : List (List Int))) (len := 5) [.slice A34 ([1, 2, 1, 1] : List Int).length c34, .slice A36 ([1, 1, 1, 1] : List Int).length c36, .slice A38 ([1, 1, 3, 4] : List Int).length c38, .slice A40 ([1, 1, 1, 1] : List Int).length c40, .slice A42 ([1, 1, 1, 1] : List Int).length c42] S43 u24 ty23 rfl rfl rfl rfl rfl (za0 rfl (za0 rfl (za0 rfl (za0 rfl (za0 rfl zb4))))) ([.slice A34 ([1, 2, 1, 1] : List Int).length c34] ++ ([.slice A36 ([1, 1, 1, 1] : List Int).length c36] ++ ([.slice A38 ([1, 1, 3, 4] : List Int).length c38] ++ ([.slice A40 ([1, 1, 1, 1] : List Int).length c40] ++ ([.slice A42 ([1, 1, 1, 1] : List Int).length c42]))))) (zbp.cons (k := (Kd.int .i64).slice) (h := h42) (x := ([1, 2, 1, 1] : List Int)) (cs := [.slice A34 ([1, 2, 1, 1] : List Int).length c34]) ⟨_, _, rfl, (And.intro lc34 cm34).1, (And.intro lc34 cm34).2, ld34.mono lf42_9⟩ (zbp.cons (k := (Kd.int .i64).slice) (h := h42) (x := ([1, 1, 1, 1] : List Int)) (cs := [.slice A36 ([1, 1, 1, 1] : List Int).length c36]) ⟨_, _, rfl, (And.intro lc36 cm36).1, (And.intro lc36 cm36).2, ld36.mono lf42_10⟩ (zbp.cons (k := (Kd.int .i64).slice) (h := h42) (x := ([1, 1, 3, 4] : List Int)) (cs := [.slice A38 ([1, 1, 3, 4] : List Int).length c38]) ⟨_, _, rfl, (And.intro lc38 cm38).1, (And.intro lc38 cm38).2, ld38.mono lf42_11⟩ (zbp.cons (k := (Kd.int .i64).slice) (h := h42) (x := ([1, 1, 1, 1] : List Int)) (cs := [.slice A40 ([1, 1, 1, 1] : List Int).length c40]) ⟨_, _, rfl, (And.intro lc40 cm40).1, (And.intro lc40 cm40).2, ld40.mono le42⟩ (zbp.single (k := (Kd.int .i64).slice) (h := h42) (x := ([1, 1, 1, 1] : List Int)) (cs := [.slice A42 ([1, 1, 1, 1] : List Int).length c42]) ⟨_, _, rfl, (And.intro lc42 cm42).1, (And.intro lc42 cm42).2, ld42.mono (Le.refl _)⟩))))) rfl
 have S44 := T33
 dsimp only [lAa, lAn, lA0, lAs] at S44
 refine p_v (v := v33) rfl rfl rfl (zat (pv := [(0, .slice A34 ([1, 2, 1, 1] : List Int).length c34), (1, .slice A36 ([1, 1, 1, 1] : List Int).length c36), (2, .slice A38 ([1, 1, 3, 4] : List Int).length c38), (3, .slice A40 ([1, 1, 1, 1] : List Int).length c40), (4, .slice A42 ([1, 1, 1, 1] : List Int).length c42)]) rfl r33) ?_
 obtain ⟨v45, w45, r45, g45, T45⟩ := za5 (kd := Kd.bool) (xs := ([true, false, false, true, false] : List Bool)) (len := 5) [.bool true, .bool false, .bool false, .bool true, .bool false] S44 u25 ty4 rfl rfl rfl rfl rfl (za0 rfl (za0 rfl (za0 rfl (za0 rfl (za0 rfl zb4))))) ([.bool true] ++ ([.bool false] ++ ([.bool false] ++ ([.bool true] ++ ([.bool false]))))) (zbp.cons (k := Kd.bool) (h := h42) (x := true) (cs := [.bool true]) ⟨rfl, trivial⟩ (zbp.cons (k := Kd.bool) (h := h42) (x := false) (cs := [.bool false]) ⟨rfl, trivial⟩ (zbp.cons (k := Kd.bool) (h := h42) (x := false) (cs := [.bool false]) ⟨rfl, trivial⟩ (zbp.cons (k := Kd.bool) (h := h42) (x := true) (cs := [.bool true]) ⟨rfl, trivial⟩ (zbp.single (k := Kd.bool) (h := h42) (x := false) (cs := [.bool false]) ⟨rfl, trivial⟩))))) rfl
 have S46 := T45
 dsimp only [lAa, lAn, lA0, lAs] at S46
 refine p_v (v := v45) rfl rfl rfl (zat (pv := [(0, .bool true), (1, .bool false), (2, .bool false), (3, .bool true), (4, .bool false)]) rfl r45) <| p_v (v := .agg #[.slice none 0 0, v33, v45]) rfl rfl rfl (zc4 (pv := [(1, v33), (2, v45)]) rfl (za9 pl47 ty47 rfl (cs := [.slice none 0 0, v33, v45]) (fill_any (vc := [v33]) rfl (zcn S46 (j := 12) rfl) rfl rfl (fill_any (vc := [v45]) rfl (zcn S46 (j := 13) rfl) rfl rfl (fill_end rfl))))) ?_
 obtain ⟨b47, w47, r47, g47, T47⟩ := zb0 (P := Tryd.prog) S46 47 (v := (.agg #[.slice none 0 0, .slice none 0 0, .slice none 0 0])) [.slice none 0 0, .slice none 0 0, .slice none 0 0] rfl
 have S48 := T47
 dsimp only [lAa, lAn, lA0, lAs] at S48
 refine p_v (v := .pointer (some ⟨b47, 0, none⟩)) rfl rfl rfl (zbr ty47 r47) ?_
 have oc50 := zcp S48 (j := 12) rfl
 have oc51 := zcp S48 (j := 13) rfl
 obtain ⟨w49, r49, g49, T49⟩ := zcj (P := Tryd.prog) (off := 0) (v := .agg #[.slice none 0 0, v33, v45]) (vs := [.slice none 0 0, v33, v45]) S48 ty47 rfl rfl (j := 14) rfl (by first | decide | exact Nat.le_of_ble_eq_true rfl) (zb8 rfl (zb8 oc50 (zb8 oc51 zdc)))
 have S52 := T49.fx 14 (box b47 47 [.slice none 0 0, v33, v45]) rfl
 dsimp only [lAa, lAn, lA0, lAs] at S52
 refine p_s rfl rfl (za2 rfl rfl r49) <| zac <| zag <| zah (l := [0, 1, 2, 3, 4, 5, 6, 7]) rfl <| p_v (v := .agg ((zad (bK.part)) ++ ([.slice A15 (bK.next).length c15, .slice A17 (bK.final).length c17] : List Value)).toArray) rfl rfl rfl (zam (seg := ((zad (bK.part)) ++ ([.slice A15 (bK.next).length c15, .slice A17 (bK.final).length c17] : List Value))) ty35 (zal (zaf ok13_0) rfl) (by simp) rfl (CF.box (m := 259) (S52.box_at (j := 6) rfl) (zaw (zal (zaf ok13_0) rfl)))) <| p_c rfl rfl rfl (zba (args := [.agg ((zad (bK.part)) ++ ([.slice A15 (bK.next).length c15, .slice A17 (bK.final).length c17] : List Value)).toArray]) ca23 rfl rfl) (notD_calls w49 bK ok13_0 A15 c15 (And.intro lc15 cm15) (ld15.mono (lf42_7.trans S52.ghost)) A17 c17 (And.intro lc17 cm17) (ld17.mono (lf42_8.trans S52.ghost)) (by first | assumption | omega)) ?_
 rintro _ w53 ⟨h53, v53_0, v53_1, T53, rfl, ok53_0, in53_1⟩
 obtain ⟨k53, lk53, ll53, U53⟩ := zch S52 T53
 have lc53_0 := (lf42_0).trans lk53
 have lc53_1 := (lf42_1).trans lk53
 have lc53_2 := (lf42_2).trans lk53
 have lc53_3 := (lf42_3).trans lk53
 have lc53_4 := (lf42_4).trans lk53
 have lc53_5 := (lf42_5).trans lk53
 have lc53_6 := (lf42_6).trans lk53
 have lc53_7 := (lf42_7).trans lk53
 have lc53_8 := (lf42_8).trans lk53
 have lc53_9 := (lf42_9).trans lk53
 have lc53_10 := (lf42_10).trans lk53
 have lc53_11 := (lf42_11).trans lk53
 have lc53_12 := (le42).trans lk53
 have S54 := U53
 dsimp only [lAa, lAn, lA0, lAs] at S54
 have lo_in53_1 := zbf in53_1; have hi_in53_1 := zbg in53_1
 obtain ⟨h55, le55, T55, rp55⟩ := S54.freeze (i := 15) rfl
 have lf55_0 := (lc53_0).trans le55
 have lf55_1 := (lc53_1).trans le55
 have lf55_2 := (lc53_2).trans le55
 have lf55_3 := (lc53_3).trans le55
 have lf55_4 := (lc53_4).trans le55
 have lf55_5 := (lc53_5).trans le55
 have lf55_6 := (lc53_6).trans le55
 have lf55_7 := (lc53_7).trans le55
 have lf55_8 := (lc53_8).trans le55
 have lf55_9 := (lc53_9).trans le55
 have lf55_10 := (lc53_10).trans le55
 have lf55_11 := (lc53_11).trans le55
 have lf55_12 := (lc53_12).trans le55
 have lf55_13 := (lk53).trans le55
 have S56 := T55.fx 15 (emp) rfl
 dsimp only [lAa, lAn, lA0, lAs] at S56
 obtain ⟨A55, c55, e55, lc55, cm55, ld55⟩ := rp55
 injection e55 with e55 _; subst e55
 have cn55 := cm55; simp only [maxLen] at cn55
 obtain ⟨h57, le57, T57, rp57⟩ := S56.freeze (i := 16) rfl
 have lf57_0 := (lf55_0).trans le57
 have lf57_1 := (lf55_1).trans le57
 have lf57_2 := (lf55_2).trans le57
 have lf57_3 := (lf55_3).trans le57
 have lf57_4 := (lf55_4).trans le57
 have lf57_5 := (lf55_5).trans le57
 have lf57_6 := (lf55_6).trans le57
 have lf57_7 := (lf55_7).trans le57
 have lf57_8 := (lf55_8).trans le57
 have lf57_9 := (lf55_9).trans le57
 have lf57_10 := (lf55_10).trans le57
 have lf57_11 := (lf55_11).trans le57
 have lf57_12 := (lf55_12).trans le57
 have lf57_13 := (lf55_13).trans le57
 have lf57_14 := (le55).trans le57
 have S58 := T57.fx 16 (emp) rfl
 dsimp only [lAa, lAn, lA0, lAs] at S58
 obtain ⟨A57, c57, e57, lc57, cm57, ld57⟩ := rp57
 injection e57 with e57 _; subst e57
 have cn57 := cm57; simp only [maxLen] at cn57
 refine p_v (v := .tuple #[.agg ((zad ((notD bK).part)) ++ ([.slice A55 ((notD bK).next).length c55, .slice A57 ((notD bK).final).length c57] : List Value)).toArray, .int .i64 (errD bK)]) rfl rfl rfl (zai rfl) <| p_v (v := .agg ((zad ((notD bK).part)) ++ ([.slice A55 ((notD bK).next).length c55, .slice A57 ((notD bK).final).length c57] : List Value)).toArray) rfl rfl rfl (zb1 (vs := [.agg ((zad ((notD bK).part)) ++ ([.slice A55 ((notD bK).next).length c55, .slice A57 ((notD bK).final).length c57] : List Value)).toArray, .int .i64 (errD bK)]) rfl rfl) <| p_v (v := .int .i64 (errD bK)) rfl rfl rfl (zb1 (vs := [.agg ((zad ((notD bK).part)) ++ ([.slice A55 ((notD bK).next).length c55, .slice A57 ((notD bK).final).length c57] : List Value)).toArray, .int .i64 (errD bK)]) rfl rfl) ?_
 obtain ⟨b59, w59, r59, g59, T59⟩ := zb0 (P := Tryd.prog) S58 35 (v := zv35) ((zad zPart) ++ ([.slice none 0 0, .slice none 0 0] : List Value)) (by kernel_rfl)
 have S60 := T59
 dsimp only [lAa, lAn, lA0, lAs] at S60
 refine p_v (v := .pointer (some ⟨b59, 0, none⟩)) rfl rfl rfl (zbr ty35 r59) ?_
 obtain ⟨w61, r61, g61, T61⟩ := za7 (P := Tryd.prog) (v := .agg ((zad ((notD bK).part)) ++ ([.slice A55 ((notD bK).next).length c55, .slice A57 ((notD bK).final).length c57] : List Value)).toArray) (vs := ((zad ((notD bK).part)) ++ ([.slice A55 ((notD bK).next).length c55, .slice A57 ((notD bK).final).length c57] : List Value))) (cs := ((zad zPart) ++ ([.slice none 0 0, .slice none 0 0] : List Value))) S60 ty35 rfl (zal (zaf ok53_0) rfl) (zal (zaf (zao)) rfl) (j := 17) rfl (zcc (zaz _) (by simp [Value.oneCell']))
 have S62 := T61.fx 17 (box b59 35 ((zad ((notD bK).part)) ++ ([.slice A55 ((notD bK).next).length c55, .slice A57 ((notD bK).final).length c57] : List Value))) rfl
 dsimp only [lAa, lAn, lA0, lAs] at S62
 refine p_s rfl rfl (za2 rfl rfl r61) <| p_v (v := .int .i64 (errD bK)) rfl rfl rfl (zaj rfl) <| zac <| zag <| zah (l := [0, 1, 2, 3, 4, 5, 6, 7, 8]) rfl <| p_v (v := .agg ((zad (bK.part)) ++ ([.slice A15 (bK.next).length c15, .slice A17 (bK.final).length c17] : List Value)).toArray) rfl rfl rfl (zam (seg := ((zad (bK.part)) ++ ([.slice A15 (bK.next).length c15, .slice A17 (bK.final).length c17] : List Value))) ty35 (zal (zaf ok13_0) rfl) (by simp) rfl (CF.box (m := 259) (S62.box_at (j := 6) rfl) (zaw (zal (zaf ok13_0) rfl)))) <| p_v (v := .agg ((zad (bK.part)) ++ ([.slice A15 (bK.next).length c15, .slice A17 (bK.final).length c17] : List Value)).toArray) rfl rfl rfl (zam (seg := ((zad (bK.part)) ++ ([.slice A15 (bK.next).length c15, .slice A17 (bK.final).length c17] : List Value))) ty35 (zal (zaf ok13_0) rfl) (by simp) rfl (CF.box (m := 259) (S62.box_at (j := 6) rfl) (zaw (zal (zaf ok13_0) rfl)))) <| p_c rfl rfl rfl (zba (args := [.agg ((zad (bK.part)) ++ ([.slice A15 (bK.next).length c15, .slice A17 (bK.final).length c17] : List Value)).toArray, .agg ((zad (bK.part)) ++ ([.slice A15 (bK.next).length c15, .slice A17 (bK.final).length c17] : List Value)).toArray, .int .u8 3, .pointer none]) ca28 rfl rfl) (both_calls w61 bK ok13_0 A15 c15 (And.intro lc15 cm15) (ld15.mono (lf57_7.trans S62.ghost)) A17 c17 (And.intro lc17 cm17) (ld17.mono (lf57_8.trans S62.ghost)) bK ok13_0 A15 c15 (And.intro lc15 cm15) (ld15.mono (lf57_7.trans S62.ghost)) A17 c17 (And.intro lc17 cm17) (ld17.mono (lf57_8.trans S62.ghost)) 3 (in_u8 (by first|omega|(simp;omega)|assumption|simp) (by first|omega|(simp;omega)|assumption|simp)) () (by first | assumption | exact ⟨by assumption, by assumption⟩)) ?_
 rintro _ w63 ⟨h63, v63_0, v63_1, T63, rfl, ok63_0, in63_1⟩
 obtain ⟨k63, lk63, ll63, U63⟩ := zch S62 T63
 have lc63_0 := (lf57_0).trans lk63
 have lc63_1 := (lf57_1).trans lk63
 have lc63_2 := (lf57_2).trans lk63
 have lc63_3 := (lf57_3).trans lk63
 have lc63_4 := (lf57_4).trans lk63
 have lc63_5 := (lf57_5).trans lk63
 have lc63_6 := (lf57_6).trans lk63
 have lc63_7 := (lf57_7).trans lk63
 have lc63_8 := (lf57_8).trans lk63
 have lc63_9 := (lf57_9).trans lk63
 have lc63_10 := (lf57_10).trans lk63
 have lc63_11 := (lf57_11).trans lk63
 have lc63_12 := (lf57_12).trans lk63
 have lc63_13 := (lf57_13).trans lk63
 have lc63_14 := (lf57_14).trans lk63
 have lc63_15 := (le57).trans lk63
 have S64 := U63
 dsimp only [lAa, lAn, lA0, lAs] at S64
 have lo_in63_1 := zbf in63_1; have hi_in63_1 := zbg in63_1
 obtain ⟨h65, le65, T65, rp65⟩ := S64.freeze (i := 18) rfl
 have lf65_0 := (lc63_0).trans le65
 have lf65_1 := (lc63_1).trans le65
 have lf65_2 := (lc63_2).trans le65
 have lf65_3 := (lc63_3).trans le65
 have lf65_4 := (lc63_4).trans le65
 have lf65_5 := (lc63_5).trans le65
 have lf65_6 := (lc63_6).trans le65
 have lf65_7 := (lc63_7).trans le65
 have lf65_8 := (lc63_8).trans le65
 have lf65_9 := (lc63_9).trans le65
 have lf65_10 := (lc63_10).trans le65
 have lf65_11 := (lc63_11).trans le65
 have lf65_12 := (lc63_12).trans le65
 have lf65_13 := (lc63_13).trans le65
 have lf65_14 := (lc63_14).trans le65
 have lf65_15 := (lc63_15).trans le65
 have lf65_16 := (lk63).trans le65
 have S66 := T65.fx 18 (emp) rfl
 dsimp only [lAa, lAn, lA0, lAs] at S66
 obtain ⟨A65, c65, e65, lc65, cm65, ld65⟩ := rp65
 injection e65 with e65 _; subst e65
 have cn65 := cm65; simp only [maxLen] at cn65
 obtain ⟨h67, le67, T67, rp67⟩ := S66.freeze (i := 19) rfl
 have lf67_0 := (lf65_0).trans le67
 have lf67_1 := (lf65_1).trans le67
 have lf67_2 := (lf65_2).trans le67
 have lf67_3 := (lf65_3).trans le67
 have lf67_4 := (lf65_4).trans le67
 have lf67_5 := (lf65_5).trans le67
 have lf67_6 := (lf65_6).trans le67
 have lf67_7 := (lf65_7).trans le67
 have lf67_8 := (lf65_8).trans le67
 have lf67_9 := (lf65_9).trans le67
 have lf67_10 := (lf65_10).trans le67
 have lf67_11 := (lf65_11).trans le67
 have lf67_12 := (lf65_12).trans le67
 have lf67_13 := (lf65_13).trans le67
 have lf67_14 := (lf65_14).trans le67
 have lf67_15 := (lf65_15).trans le67
 have lf67_16 := (lf65_16).trans le67
 have lf67_17 := (le65).trans le67
 have S68 := T67.fx 19 (emp) rfl
 dsimp only [lAa, lAn, lA0, lAs] at S68
 obtain ⟨A67, c67, e67, lc67, cm67, ld67⟩ := rp67
 injection e67 with e67 _; subst e67
 have cn67 := cm67; simp only [maxLen] at cn67
 refine p_v (v := .tuple #[.agg ((zad (xB.part)) ++ ([.slice A65 (xB.next).length c65, .slice A67 (xB.final).length c67] : List Value)).toArray, .int .i64 (errO bK bK 3)]) rfl rfl rfl (zai rfl) <| p_v (v := .agg ((zad (xB.part)) ++ ([.slice A65 (xB.next).length c65, .slice A67 (xB.final).length c67] : List Value)).toArray) rfl rfl rfl (zb1 (vs := [.agg ((zad (xB.part)) ++ ([.slice A65 (xB.next).length c65, .slice A67 (xB.final).length c67] : List Value)).toArray, .int .i64 (errO bK bK 3)]) rfl rfl) <| p_v (v := .int .i64 (errO bK bK 3)) rfl rfl rfl (zb1 (vs := [.agg ((zad (xB.part)) ++ ([.slice A65 (xB.next).length c65, .slice A67 (xB.final).length c67] : List Value)).toArray, .int .i64 (errO bK bK 3)]) rfl rfl) ?_
 obtain ⟨b69, w69, r69, g69, T69⟩ := zb0 (P := Tryd.prog) S68 35 (v := zv35) ((zad zPart) ++ ([.slice none 0 0, .slice none 0 0] : List Value)) (by kernel_rfl)
 have S70 := T69
 dsimp only [lAa, lAn, lA0, lAs] at S70
 refine p_v (v := .pointer (some ⟨b69, 0, none⟩)) rfl rfl rfl (zbr ty35 r69) ?_
 obtain ⟨w71, r71, g71, T71⟩ := za7 (P := Tryd.prog) (v := .agg ((zad (xB.part)) ++ ([.slice A65 (xB.next).length c65, .slice A67 (xB.final).length c67] : List Value)).toArray) (vs := ((zad (xB.part)) ++ ([.slice A65 (xB.next).length c65, .slice A67 (xB.final).length c67] : List Value))) (cs := ((zad zPart) ++ ([.slice none 0 0, .slice none 0 0] : List Value))) S70 ty35 rfl (zal (zaf ok63_0) rfl) (zal (zaf (zao)) rfl) (j := 20) rfl (zcc (zaz _) (by simp [Value.oneCell']))
 have S72 := T71.fx 20 (box b69 35 ((zad (xB.part)) ++ ([.slice A65 (xB.next).length c65, .slice A67 (xB.final).length c67] : List Value))) rfl
 dsimp only [lAa, lAn, lA0, lAs] at S72
 refine p_s rfl rfl (za2 rfl rfl r71) <| p_v (v := .int .i64 (errO bK bK 3)) rfl rfl rfl (zaj rfl) <| zac <| zag <| zag ?_
 have hc73 : ¬ ((errB zab lettersP) ≠ 0) := by
  exact fun h => h some_1
 have hf74 : (CFs ⟨b19, 0, none⟩ ((zad (bK.part)) ++ ([.slice A15 (bK.next).length c15, .slice A17 (bK.final).length c17] : List Value))).1 w71 := (CF.box (m := 259) (S72.box_at (j := 6) rfl) (zaw (zal (zaf ok13_0) rfl)))
 have hf75 : (CFs ⟨b47, 0, none⟩ [.slice none 0 0, v33, v45]).1 w71 := (CF.box (m := 3) (S72.box_at (j := 14) rfl) rfl)
 refine daS (hkC 3 hf74 (hkC 5 hf75 (hkN (w := w71)))) 35 rfl mixed ?_
 intro wd76 gd76 hd76
 have S77 := S72.keep gd76
 have hf78 := spUp gd76 hf74
 have hf79 := spUp gd76 hf75
 refine qd0 (i := 0) (v := .int .i64 (errB zab lettersP)) rfl (by decide +kernel) rfl rfl (zai rfl) (zan rfl) <| qd0 (i := 1) (v := .bool (decide ((errB zab lettersP) ≠ 0))) rfl (by decide +kernel) rfl rfl (x_neq rfl rfl) (zan rfl) <| qd0 (i := 2) (v := .bool (decide ((errB zab lettersP) ≠ 0))) rfl (by decide +kernel) rfl rfl (zai rfl) (zan rfl) <| qd1 0 (i := 3) (v := .agg ((zad (bK.part)) ++ ([.slice A15 (bK.next).length c15, .slice A17 (bK.final).length c17] : List Value)).toArray) rfl rfl (by decide +kernel) (wo 2 55 rfl rfl (bF hc73) rfl) rfl (fun wq hq => (zam (seg := ((zad (bK.part)) ++ ([.slice A15 (bK.next).length c15, .slice A17 (bK.final).length c17] : List Value))) ty35 (zal (zaf ok13_0) rfl) (by simp) rfl hq)) (zbm hf78 (zan rfl)) <| qd1 1 (i := 5) (v := .agg #[.slice none 0 0, v33, v45]) rfl rfl (by decide +kernel) (wo 2 55 rfl rfl (bF hc73) rfl) rfl (fun wq hq => (zam (seg := [.slice none 0 0, v33, v45]) ty47 rfl (by simp) rfl hq)) (za8 rfl (zbm hf79 (zan rfl))) <| zbo (i := 4) (by decide +kernel) ?_
 intro wd80 gd80
 have S81 := S77.keep gd80
 have hf82 := spUp gd80 hf78
 have hf83 := spUp gd80 hf79
 refine d_i rfl (wo 2 55 rfl rfl (bF hc73) rfl) rfl (zba (args := [.agg ((zad (bK.part)) ++ ([.slice A15 (bK.next).length c15, .slice A17 (bK.final).length c17] : List Value)).toArray]) ca31 rfl rfl) (zas Tryd.func31 rfl Tryd.ntmps31 rfl ?_)
 refine zag <| zah (l := [0, 1]) rfl ?_
 obtain ⟨b84, w84, r84, g84, T84⟩ := zb0 (P := Tryd.prog) S81 35 (v := .agg ((zad (bK.part)) ++ ([.slice A15 (bK.next).length c15, .slice A17 (bK.final).length c17] : List Value)).toArray) ((zad (bK.part)) ++ ([.slice A15 (bK.next).length c15, .slice A17 (bK.final).length c17] : List Value)) rfl
 have S85 := T84
 dsimp only [lAa, lAn, lA0, lAs] at S85
 refine p_v (v := .pointer (some ⟨b84, 0, none⟩)) rfl rfl rfl (zdi rfl r84) ?_
 obtain ⟨b86, w86, r86, g86, T86⟩ := zb0 (P := Tryd.prog) S85 47 (v := (.agg #[.slice none 0 0, .slice none 0 0, .slice none 0 0])) [.slice none 0 0, .slice none 0 0, .slice none 0 0] rfl
 have S87 := T86
 dsimp only [lAa, lAn, lA0, lAs] at S87
 refine p_v (v := .pointer (some ⟨b86, 0, none⟩)) rfl rfl rfl (zbr ty47 r86) <| zac <| zag <| zah (l := [0, 1, 2, 3, 4, 5]) rfl <| p_v (v := .pointer (some ⟨b84, 257, none⟩)) rfl rfl rfl (zaq zef ty24 rfl rfl) <| p_v (v := .slice A15 (bK.next).length c15) rfl rfl rfl (zam (seg := [.slice A15 (bK.next).length c15]) ty24 rfl (by simp) rfl (CF.box (m := 1) (S87.box_at (j := 21) rfl) (zbc (a := (zad (bK.part))) (pre := []) (seg := [.slice A15 (bK.next).length c15]) (post := [.slice A17 (bK.final).length c17]) (zaf ok13_0) rfl rfl))) <| p_v (v := .pointer (some ⟨b84, 258, none⟩)) rfl rfl rfl (zaq fd35_2 ty25 rfl rfl) <| p_v (v := .slice A17 (bK.final).length c17) rfl rfl rfl (zam (seg := [.slice A17 (bK.final).length c17]) ty25 rfl (by simp) rfl (CF.box (m := 1) (S87.box_at (j := 21) rfl) (zbc (a := (zad (bK.part))) (pre := [.slice A15 (bK.next).length c15]) (seg := [.slice A17 (bK.final).length c17]) (post := []) (zaf ok13_0) rfl rfl))) <| p_v (v := .agg #[.slice none 0 0, .slice A15 (bK.next).length c15, .slice A17 (bK.final).length c17]) rfl rfl rfl (zc4 (pv := [(1, .slice A15 (bK.next).length c15), (2, .slice A17 (bK.final).length c17)]) rfl (za9 pl47 ty47 rfl (cs := [.slice none 0 0, .slice A15 (bK.next).length c15, .slice A17 (bK.final).length c17]) rfl)) ?_
 obtain ⟨w88, r88, g88, T88⟩ := zcj (P := Tryd.prog) (off := 0) (v := .agg #[.slice none 0 0, .slice A15 (bK.next).length c15, .slice A17 (bK.final).length c17]) (vs := [.slice none 0 0, .slice A15 (bK.next).length c15, .slice A17 (bK.final).length c17]) S87 ty47 rfl rfl (j := 22) rfl (by first | decide | exact Nat.le_of_ble_eq_true rfl) (by simp [Value.oneCell'])
 have S89 := T88.fx 22 (box b86 47 [.slice none 0 0, .slice A15 (bK.next).length c15, .slice A17 (bK.final).length c17]) rfl
 dsimp only [lAa, lAn, lA0, lAs] at S89
 refine p_s rfl rfl (za2 rfl rfl r88) <| zac <| zax Tryd.func31 (res1 rfl (zcz S89 ty47 rfl (j := 22) rfl rfl (by simp) rfl)) ?_
 refine ⟨_, rfl, ?_⟩
 have hf90 : (CFs ⟨b19, 0, none⟩ ((zad (bK.part)) ++ ([.slice A15 (bK.next).length c15, .slice A17 (bK.final).length c17] : List Value))).1 w88 := (CF.box (m := 259) (S89.box_at (j := 6) rfl) (zaw (zal (zaf ok13_0) rfl)))
 have hf91 : (CFs ⟨b47, 0, none⟩ [.slice none 0 0, v33, v45]).1 w88 := (CF.box (m := 3) (S89.box_at (j := 14) rfl) rfl)
 refine ⟨.inr (zbu hf90 (zbu hf91 trivial)), ?_⟩
 refine zbo (i := 6) (by decide +kernel) ?_
 intro wd92 gd92
 have S93 := S89.keep gd92
 have hf94 := spUp gd92 hf90
 have hf95 := spUp gd92 hf91
 obtain ⟨A96, c96, ev96, lc96, cm96⟩ := S93.row_val (j := 12) rfl
 obtain ⟨A97, c97, ev97, lc97, cm97⟩ := S93.row_val (j := 13) rfl
 refine d_c rfl (wo 2 55 rfl rfl (bF hc73) rfl) rfl (zba (args := [.agg #[.slice none 0 0, .slice A15 (bK.next).length c15, .slice A17 (bK.final).length c17], .agg #[.slice none 0 0, .slice A96 ([([1, 2, 1, 1] : List Int), ([1, 1, 1, 1] : List Int), ([1, 1, 3, 4] : List Int), ([1, 1, 1, 1] : List Int), ([1, 1, 1, 1] : List Int)] : List (List Int)).length c96, .slice A97 ([true, false, false, true, false] : List Bool).length c97]]) ca30 rfl (zd5 rfl (zd5 (Eq.trans (b := .agg #[.slice none 0 0, v33, v45]) rfl (by rw [ev96, ev97])) rfl))) (sameR_calls wd92 (⟨([] : List Int), bK.next, bK.final⟩ : RefD) none 0 (by simp [maxLen]) (zd7 _ _) A15 c15 (And.intro lc15 cm15) (ld15.mono (lf67_7.trans S93.ghost)) A17 c17 (And.intro lc17 cm17) (ld17.mono (lf67_8.trans S93.ghost)) (⟨([] : List Int), ([([1, 2, 1, 1] : List Int), ([1, 1, 1, 1] : List Int), ([1, 1, 3, 4] : List Int), ([1, 1, 1, 1] : List Int), ([1, 1, 1, 1] : List Int)] : List (List Int)), ([true, false, false, true, false] : List Bool)⟩ : RefD) none 0 (by simp [maxLen]) (zd7 _ _) A96 c96 (And.intro lc96 cm96) (zc9 S93 (j := 12) rfl ev96) A97 c97 (And.intro lc97 cm97) (zc9 S93 (j := 13) rfl ev97)) ?_
 rintro _ w98 ⟨h98, T98, rfl⟩
 have S99 := S93.keep (Chg.of_below T98.below)
 have hf100 := spUp (Chg.of_below T98.below) hf94
 have hf101 := spUp (Chg.of_below T98.below) hf95
 refine ⟨.inl (Chg.of_below T98.below), ?_⟩
 have hc102 : (sameR (⟨([] : List Int), bK.next, bK.final⟩ : RefD) (⟨([] : List Int), ([([1, 2, 1, 1] : List Int), ([1, 1, 1, 1] : List Int), ([1, 1, 3, 4] : List Int), ([1, 1, 1, 1] : List Int), ([1, 1, 1, 1] : List Int)] : List (List Int)), ([true, false, false, true, false] : List Bool)⟩ : RefD)) = true := by
  exact sameR_yes (by rw [zdy]; rfl) (by rw [zdy]; rfl)
 have hc103 : ¬ ((errD bK) ≠ 0) := by
  rw [zdy]; exact fun h => h (errD_yes k_right)
 have hc105 : (runD (notD bK) (⟨#[]⟩ : ByteArray)) = false := by
  rw [zdy]; exact k_n1
 have hc107 : (runD (notD bK) (⟨#[97]⟩ : ByteArray)) = true := by
  rw [zdy]; exact k_n2
 have hc109 : (runD (notD bK) (⟨#[97, 98]⟩ : ByteArray)) = false := by
  rw [zdy]; exact k_n3
 have hc111 : (runD (notD bK) (⟨#[97, 99]⟩ : ByteArray)) = true := by
  rw [zdy]; exact k_n4
 have hf112 : (CFs ⟨b59, 0, none⟩ ((zad ((notD bK).part)) ++ ([.slice A55 ((notD bK).next).length c55, .slice A57 ((notD bK).final).length c57] : List Value))).1 w98 := (CF.box (m := 259) (S99.box_at (j := 17) rfl) (zaw (zal (zaf ok53_0) rfl)))
 have hf113 : (zcm (Kd.int .i64).slice A55 ((notD bK).next)).1 w98 := (ld55.mono (lf67_15.trans S99.ghost))
 have hf114 : (zcm Kd.bool A57 ((notD bK).final)).1 w98 := (ld57.mono (lf67_16.trans S99.ghost))
 have hf115 : (CFs ⟨b59, 0, none⟩ ((zad ((notD bK).part)) ++ ([.slice A55 ((notD bK).next).length c55, .slice A57 ((notD bK).final).length c57] : List Value))).1 w98 := (CF.box (m := 259) (S99.box_at (j := 17) rfl) (zaw (zal (zaf ok53_0) rfl)))
 have hf116 : (zcm (Kd.int .i64).slice A55 ((notD bK).next)).1 w98 := (ld55.mono (lf67_15.trans S99.ghost))
 have hf117 : (zcm Kd.bool A57 ((notD bK).final)).1 w98 := (ld57.mono (lf67_16.trans S99.ghost))
 have hf118 : (CFs ⟨b59, 0, none⟩ ((zad ((notD bK).part)) ++ ([.slice A55 ((notD bK).next).length c55, .slice A57 ((notD bK).final).length c57] : List Value))).1 w98 := (CF.box (m := 259) (S99.box_at (j := 17) rfl) (zaw (zal (zaf ok53_0) rfl)))
 have hf119 : (zcm (Kd.int .i64).slice A55 ((notD bK).next)).1 w98 := (ld55.mono (lf67_15.trans S99.ghost))
 have hf120 : (zcm Kd.bool A57 ((notD bK).final)).1 w98 := (ld57.mono (lf67_16.trans S99.ghost))
 have hf121 : (CFs ⟨b59, 0, none⟩ ((zad ((notD bK).part)) ++ ([.slice A55 ((notD bK).next).length c55, .slice A57 ((notD bK).final).length c57] : List Value))).1 w98 := (CF.box (m := 259) (S99.box_at (j := 17) rfl) (zaw (zal (zaf ok53_0) rfl)))
 have hf122 : (zcm (Kd.int .i64).slice A55 ((notD bK).next)).1 w98 := (ld55.mono (lf67_15.trans S99.ghost))
 have hf123 : (zcm Kd.bool A57 ((notD bK).final)).1 w98 := (ld57.mono (lf67_16.trans S99.ghost))
 refine raMo (hkC 14 hf112 (hkC 15 hf113 (hkC 15 hf114 (hkC 18 hf115 (hkC 19 hf116 (hkC 19 hf117 (hkC 23 hf118 (hkC 24 hf119 (hkC 24 hf120 (hkC 27 hf121 (hkC 28 hf122 (hkC 28 hf123 (hkN (w := w98)))))))))))))) <| qd0 (i := 7) (v := .bool (!(sameR (⟨([] : List Int), bK.next, bK.final⟩ : RefD) (⟨([] : List Int), ([([1, 2, 1, 1] : List Int), ([1, 1, 1, 1] : List Int), ([1, 1, 3, 4] : List Int), ([1, 1, 1, 1] : List Int), ([1, 1, 1, 1] : List Int)] : List (List Int)), ([true, false, false, true, false] : List Bool)⟩ : RefD)))) rfl (by decide +kernel) (wo 2 55 rfl rfl (bF hc73) rfl) rfl (x_not rfl) (zan rfl) <| qd0 (i := 8) (v := .bool (!(sameR (⟨([] : List Int), bK.next, bK.final⟩ : RefD) (⟨([] : List Int), ([([1, 2, 1, 1] : List Int), ([1, 1, 1, 1] : List Int), ([1, 1, 3, 4] : List Int), ([1, 1, 1, 1] : List Int), ([1, 1, 1, 1] : List Int)] : List (List Int)), ([true, false, false, true, false] : List Bool)⟩ : RefD)))) rfl (by decide +kernel) rfl rfl (zck (bF hc73) rfl) (zan rfl) <| qd0 (i := 9) (v := .bool (!(sameR (⟨([] : List Int), bK.next, bK.final⟩ : RefD) (⟨([] : List Int), ([([1, 2, 1, 1] : List Int), ([1, 1, 1, 1] : List Int), ([1, 1, 3, 4] : List Int), ([1, 1, 1, 1] : List Int), ([1, 1, 1, 1] : List Int)] : List (List Int)), ([true, false, false, true, false] : List Bool)⟩ : RefD)))) rfl (by decide +kernel) rfl rfl (zai rfl) (zan rfl) <| qd0 (i := 10) (v := .int .i64 (errD bK)) rfl (by decide +kernel) (wo 9 62 rfl rfl (congrArg (fun z => Value.bool (!z)) hc102) rfl) rfl (zai rfl) (zan rfl) <| qd0 (i := 11) (v := .bool (decide ((errD bK) ≠ 0))) rfl (by decide +kernel) (wo 9 62 rfl rfl (congrArg (fun z => Value.bool (!z)) hc102) rfl) rfl (x_neq rfl rfl) (zan rfl) <| qd0 (i := 12) (v := .bool (decide ((errD bK) ≠ 0))) rfl (by decide +kernel) rfl rfl (zck (congrArg (fun z => Value.bool (!z)) hc102) rfl) (zan rfl) <| qd0 (i := 13) (v := .bool (decide ((errD bK) ≠ 0))) rfl (by decide +kernel) rfl rfl (zai rfl) (zan rfl) <| qd1 0 (i := 14) (v := .agg ((zad ((notD bK).part)) ++ ([.slice A55 ((notD bK).next).length c55, .slice A57 ((notD bK).final).length c57] : List Value)).toArray) rfl rfl (by decide +kernel) (wo 13 66 rfl rfl (bF hc103) rfl) rfl (fun wq hq => (zam (seg := ((zad ((notD bK).part)) ++ ([.slice A55 ((notD bK).next).length c55, .slice A57 ((notD bK).final).length c57] : List Value))) ty35 (zal (zaf ok53_0) rfl) (by simp) rfl hq)) (zbm hf112 (zan rfl)) <| d_m (i := 15) (v := .bool (runD (notD bK) (⟨#[]⟩ : ByteArray))) (fun wf => zbz (Kd.int .i64).slice (hp wf) A55 ((notD bK).next) ∧ zbz Kd.bool (hp wf) A57 ((notD bK).final)) (fun _ ho => ⟨ho _ (List.mem_of_getElem? (i := 1) rfl) rfl, ho _ (List.mem_of_getElem? (i := 2) rfl) rfl⟩) rfl (by decide +kernel) (by decide +kernel) (by decide +kernel) (wo 13 66 rfl rfl (bF hc103) rfl) rfl (fun wq => (zba (args := [.agg ((zad ((notD bK).part)) ++ ([.slice A55 ((notD bK).next).length c55, .slice A57 ((notD bK).final).length c57] : List Value)).toArray, .string (⟨#[]⟩ : ByteArray)]) ca24 rfl rfl)) (fun wq hq => (zd8 wq (notD bK) ok53_0 A55 c55 (And.intro lc55 cm55) hq.1 A57 c57 (And.intro lc57 cm57) hq.2 (⟨#[]⟩ : ByteArray) (by decide)).mono fun e w2 he => by obtain ⟨_, rfl, _, T, rfl⟩ := he; exact ⟨rfl, Chg.of_below T.below⟩) (za8 rfl (zbm hf113 (zbm hf114 (zan rfl)))) <| qd0 (i := 16) (v := .bool (runD (notD bK) (⟨#[]⟩ : ByteArray))) rfl (by decide +kernel) rfl rfl (zck (bF hc103) rfl) (zan rfl) <| qd0 (i := 17) (v := .bool (runD (notD bK) (⟨#[]⟩ : ByteArray))) rfl (by decide +kernel) rfl rfl (zai rfl) (zan rfl) ?_
 refine qd1 3 (i := 18) (v := .agg ((zad ((notD bK).part)) ++ ([.slice A55 ((notD bK).next).length c55, .slice A57 ((notD bK).final).length c57] : List Value)).toArray) rfl rfl (by decide +kernel) (wo 17 70 rfl rfl (congrArg Value.bool hc105) rfl) rfl (fun wq hq => (zam (seg := ((zad ((notD bK).part)) ++ ([.slice A55 ((notD bK).next).length c55, .slice A57 ((notD bK).final).length c57] : List Value))) ty35 (zal (zaf ok53_0) rfl) (by simp) rfl hq)) (za8 rfl (za8 rfl (za8 rfl (zbm hf115 (zan rfl))))) <| d_m (i := 19) (v := .bool (runD (notD bK) (⟨#[97]⟩ : ByteArray))) (fun wf => zbz (Kd.int .i64).slice (hp wf) A55 ((notD bK).next) ∧ zbz Kd.bool (hp wf) A57 ((notD bK).final)) (fun _ ho => ⟨ho _ (List.mem_of_getElem? (i := 4) rfl) rfl, ho _ (List.mem_of_getElem? (i := 5) rfl) rfl⟩) rfl (by decide +kernel) (by decide +kernel) (by decide +kernel) (wo 17 70 rfl rfl (congrArg Value.bool hc105) rfl) rfl (fun wq => (zba (args := [.agg ((zad ((notD bK).part)) ++ ([.slice A55 ((notD bK).next).length c55, .slice A57 ((notD bK).final).length c57] : List Value)).toArray, .string (⟨#[97]⟩ : ByteArray)]) ca24 rfl rfl)) (fun wq hq => (zd8 wq (notD bK) ok53_0 A55 c55 (And.intro lc55 cm55) hq.1 A57 c57 (And.intro lc57 cm57) hq.2 (⟨#[97]⟩ : ByteArray) (by decide)).mono fun e w2 he => by obtain ⟨_, rfl, _, T, rfl⟩ := he; exact ⟨rfl, Chg.of_below T.below⟩) (za8 rfl (za8 rfl (za8 rfl (za8 rfl (zbm hf116 (zbm hf117 (zan rfl))))))) <| qd0 (i := 20) (v := .bool (!(runD (notD bK) (⟨#[97]⟩ : ByteArray)))) rfl (by decide +kernel) (wo 17 70 rfl rfl (congrArg Value.bool hc105) rfl) rfl (x_not rfl) (zan rfl) <| qd0 (i := 21) (v := .bool (!(runD (notD bK) (⟨#[97]⟩ : ByteArray)))) rfl (by decide +kernel) rfl rfl (zck (congrArg Value.bool hc105) rfl) (zan rfl) <| qd0 (i := 22) (v := .bool (!(runD (notD bK) (⟨#[97]⟩ : ByteArray)))) rfl (by decide +kernel) rfl rfl (zai rfl) (zan rfl) <| qd1 6 (i := 23) (v := .agg ((zad ((notD bK).part)) ++ ([.slice A55 ((notD bK).next).length c55, .slice A57 ((notD bK).final).length c57] : List Value)).toArray) rfl rfl (by decide +kernel) (wo 22 75 rfl rfl (congrArg (fun z => Value.bool (!z)) hc107) rfl) rfl (fun wq hq => (zam (seg := ((zad ((notD bK).part)) ++ ([.slice A55 ((notD bK).next).length c55, .slice A57 ((notD bK).final).length c57] : List Value))) ty35 (zal (zaf ok53_0) rfl) (by simp) rfl hq)) (za8 rfl (za8 rfl (za8 rfl (za8 rfl (za8 rfl (za8 rfl (zbm hf118 (zan rfl)))))))) <| d_m (i := 24) (v := .bool (runD (notD bK) (⟨#[97, 98]⟩ : ByteArray))) (fun wf => zbz (Kd.int .i64).slice (hp wf) A55 ((notD bK).next) ∧ zbz Kd.bool (hp wf) A57 ((notD bK).final)) (fun _ ho => ⟨ho _ (List.mem_of_getElem? (i := 7) rfl) rfl, ho _ (List.mem_of_getElem? (i := 8) rfl) rfl⟩) rfl (by decide +kernel) (by decide +kernel) (by decide +kernel) (wo 22 75 rfl rfl (congrArg (fun z => Value.bool (!z)) hc107) rfl) rfl (fun wq => (zba (args := [.agg ((zad ((notD bK).part)) ++ ([.slice A55 ((notD bK).next).length c55, .slice A57 ((notD bK).final).length c57] : List Value)).toArray, .string (⟨#[97, 98]⟩ : ByteArray)]) ca24 rfl rfl)) (fun wq hq => (zd8 wq (notD bK) ok53_0 A55 c55 (And.intro lc55 cm55) hq.1 A57 c57 (And.intro lc57 cm57) hq.2 (⟨#[97, 98]⟩ : ByteArray) (by decide)).mono fun e w2 he => by obtain ⟨_, rfl, _, T, rfl⟩ := he; exact ⟨rfl, Chg.of_below T.below⟩) (za8 rfl (za8 rfl (za8 rfl (za8 rfl (za8 rfl (za8 rfl (za8 rfl (zbm hf119 (zbm hf120 (zan rfl)))))))))) <| qd0 (i := 25) (v := .bool (runD (notD bK) (⟨#[97, 98]⟩ : ByteArray))) rfl (by decide +kernel) rfl rfl (zck (congrArg (fun z => Value.bool (!z)) hc107) rfl) (zan rfl) <| qd0 (i := 26) (v := .bool (runD (notD bK) (⟨#[97, 98]⟩ : ByteArray))) rfl (by decide +kernel) rfl rfl (zai rfl) (zan rfl) <| qd1 9 (i := 27) (v := .agg ((zad ((notD bK).part)) ++ ([.slice A55 ((notD bK).next).length c55, .slice A57 ((notD bK).final).length c57] : List Value)).toArray) rfl rfl (by decide +kernel) (wo 26 79 rfl rfl (congrArg Value.bool hc109) rfl) rfl (fun wq hq => (zam (seg := ((zad ((notD bK).part)) ++ ([.slice A55 ((notD bK).next).length c55, .slice A57 ((notD bK).final).length c57] : List Value))) ty35 (zal (zaf ok53_0) rfl) (by simp) rfl hq)) (za8 rfl (za8 rfl (za8 rfl (za8 rfl (za8 rfl (za8 rfl (za8 rfl (za8 rfl (za8 rfl (zbm hf121 (zan rfl))))))))))) <| d_m (i := 28) (v := .bool (runD (notD bK) (⟨#[97, 99]⟩ : ByteArray))) (fun wf => zbz (Kd.int .i64).slice (hp wf) A55 ((notD bK).next) ∧ zbz Kd.bool (hp wf) A57 ((notD bK).final)) (fun _ ho => ⟨ho _ (List.mem_of_getElem? (i := 10) rfl) rfl, ho _ (List.mem_of_getElem? (i := 11) rfl) rfl⟩) rfl (by decide +kernel) (by decide +kernel) (by decide +kernel) (wo 26 79 rfl rfl (congrArg Value.bool hc109) rfl) rfl (fun wq => (zba (args := [.agg ((zad ((notD bK).part)) ++ ([.slice A55 ((notD bK).next).length c55, .slice A57 ((notD bK).final).length c57] : List Value)).toArray, .string (⟨#[97, 99]⟩ : ByteArray)]) ca24 rfl rfl)) (fun wq hq => (zd8 wq (notD bK) ok53_0 A55 c55 (And.intro lc55 cm55) hq.1 A57 c57 (And.intro lc57 cm57) hq.2 (⟨#[97, 99]⟩ : ByteArray) (by decide)).mono fun e w2 he => by obtain ⟨_, rfl, _, T, rfl⟩ := he; exact ⟨rfl, Chg.of_below T.below⟩) (za8 rfl (za8 rfl (za8 rfl (za8 rfl (za8 rfl (za8 rfl (za8 rfl (za8 rfl (za8 rfl (za8 rfl (zbm hf122 (zbm hf123 (zan rfl))))))))))))) <| qd0 (i := 29) (v := .bool (!(runD (notD bK) (⟨#[97, 99]⟩ : ByteArray)))) rfl (by decide +kernel) (wo 26 79 rfl rfl (congrArg Value.bool hc109) rfl) rfl (x_not rfl) (zan rfl) ?_
 refine qd0 (i := 30) (v := .bool (!(runD (notD bK) (⟨#[97, 99]⟩ : ByteArray)))) rfl (by decide +kernel) rfl rfl (zck (congrArg Value.bool hc109) rfl) (zan rfl) <| qd0 (i := 31) (v := .bool (!(runD (notD bK) (⟨#[97, 99]⟩ : ByteArray)))) rfl (by decide +kernel) rfl rfl (zai rfl) (zan rfl) <| qd0 (i := 32) (v := .int .i64 (errO bK bK 3)) rfl (by decide +kernel) (wo 31 84 rfl rfl (congrArg (fun z => Value.bool (!z)) hc111) rfl) rfl (zai rfl) (zan rfl) <| qd0 (i := 33) (v := .bool (decide ((errO bK bK 3) ≠ 0))) rfl (by decide +kernel) (wo 31 84 rfl rfl (congrArg (fun z => Value.bool (!z)) hc111) rfl) rfl (x_neq rfl rfl) (zan rfl) <| qd0 (i := 34) (v := .bool (decide ((errO bK bK 3) ≠ 0))) rfl (by decide +kernel) rfl rfl (zck (congrArg (fun z => Value.bool (!z)) hc111) rfl) (zan rfl) <| zcb (by decide +kernel) ?_
 intro wd124 gd124
 have S125 := S99.keep gd124
 have hc126 : ¬ ((errO bK bK 3) ≠ 0) := by
  rw [zdy]; exact fun h => h (errO_iff.2 k_ok)
 refine zcy (b := false) (bF hc126) ?_
 simp only [if_true, if_false, Bool.false_eq_true]
 refine za6 <| zag <| zag <| zah (l := [0]) rfl <| p_v (v := .int .i64 0) rfl rfl rfl (zaj rfl) <| zac <| zay <| zce (S := Int) (fun (q_ : Int) ρ w' => match q_ with | i => ∃ (h : Ghost), Le h67 h ∧ St w.heap.size w h w' [box b19 35 ((zad (bK.part)) ++ ([.slice A15 (bK.next).length c15, .slice A17 (bK.final).length c17] : List Value)), box b69 35 ((zad (xB.part)) ++ ([.slice A65 (xB.next).length c65, .slice A67 (xB.final).length c67] : List Value))] ∧ ρ 1 = .pointer (some ⟨b19, 0, none⟩) ∧ ρ 6 = .pointer (some ⟨b69, 0, none⟩) ∧ ρ 8 = .int .i64 i ∧ inK .i64 i ∧ (0 ≤ i)) (fun q_ => match q_ with | i => (5 - i).toNat) (0) ⟨h67, Le.refl _, S125.sub [6, 20] (by decide) rfl _ rfl, rfl, rfl, rfl, (zar (by first|omega|(simp;omega)|assumption|simp) (by first|omega|(simp;omega)|assumption|simp)), (by omega)⟩ ?_
 rintro i ih127 ρ127 w127 ⟨h127, le127, S127, r127_1, r127_6, r127_8, f127_0, hI127⟩
 have lf127_0 := zbf f127_0; have hf127_0 := zbg f127_0
 refine zag <| zag <| zah (l := [0, 1, 2, 3, 4]) rfl <| p_v (v := .int .i64 i) rfl rfl rfl (zai r127_8) <| p_v (v := .pointer (some ⟨b69, 258, none⟩)) rfl rfl rfl (zaq fd35_2 ty25 rfl r127_6) <| p_v (v := .slice A67 (xB.final).length c67) rfl rfl rfl (zam (seg := [.slice A67 (xB.final).length c67]) ty25 rfl (by simp) rfl (CF.box (m := 1) (S127.box_at (j := 1) rfl) (zbc (a := (zad (xB.part))) (pre := [.slice A65 (xB.next).length c65]) (seg := [.slice A67 (xB.final).length c67]) (post := []) (zaf ok63_0) rfl rfl))) <| p_v (v := .int .i64 ((xB.final).length : Int)) rfl rfl rfl (zbe u25 rfl) <| p_v (v := .bool (decide (i < ((xB.final).length : Int)))) rfl rfl rfl (zd6 rfl rfl) <| zac ?_
 refine zau (p := i < ((xB.final).length : Int)) rfl (fun hc128 => ?_) (fun hc128 => ?_)
 ·skip
  refine za6 <| zag <| zay <| zag <| zah (l := [0, 1, 2, 3, 4]) rfl <| p_v (v := .pointer (some ⟨b69, 258, none⟩)) rfl rfl rfl (zaq fd35_2 ty25 rfl r127_6) <| p_v (v := .slice A67 (xB.final).length c67) rfl rfl rfl (zam (seg := [.slice A67 (xB.final).length c67]) ty25 rfl (by simp) rfl (CF.box (m := 1) (S127.box_at (j := 1) rfl) (zbc (a := (zad (xB.part))) (pre := [.slice A65 (xB.next).length c65]) (seg := [.slice A67 (xB.final).length c67]) (post := []) (zaf ok63_0) rfl rfl))) <| p_v (v := .int .i64 i) rfl rfl rfl (zai r127_8) ?_
  obtain ⟨ad129, seg129, a129, rp129, ce129⟩ := zbj (q := i) (m := 1) ld67 rfl (by first|omega|(simp;omega)|assumption|simp) (by first|omega|(simp;omega)|assumption|simp)
  refine p_v (v := .pointer (some ad129)) rfl rfl rfl (zbi u25 ty4 rfl rfl a129 (by first|omega|(simp;omega)|assumption|simp) (by first|omega|(simp;omega)|assumption|simp)) ?_
  obtain ⟨rfl, _⟩ := rp129
  refine p_v (v := .bool (at_ (xB.final) i)) rfl rfl rfl (zam (seg := [.bool (at_ (xB.final) i)]) ty4 rfl (by simp) rfl (CF.ghost ce129 (le127.trans S127.ghost))) <| zac ?_
  have hc130 : (at_ (xB.final) i) = false := by
   rw [k_xB]; exact k_xf hI127 (by omega)
  refine zcy (b := false) (congrArg Value.bool hc130) ?_
  simp only [if_true, if_false, Bool.false_eq_true]
  refine za6 <| za3 <| zah (l := [0, 1, 2]) rfl <| p_v (v := .int .i64 i) rfl rfl rfl (zai r127_8) <| p_v (v := .int .i64 (i + 1)) rfl rfl rfl (zdj rfl rfl (zar (by first|omega|(simp;omega)|assumption|simp) (by first|omega|(simp;omega)|assumption|simp))) <| p_v (v := .int .i64 (i + 1)) rfl rfl rfl (zaj rfl) <| zac ?_
  refine ih127 (i + 1) _ _ (by dsimp only; omega) ⟨h127, le127, S127.sub [0, 1] (by decide) rfl _ rfl, r127_1, r127_6, rfl, (zar (by first|omega|(simp;omega)|assumption|simp) (by first|omega|(simp;omega)|assumption|simp)), (by omega)⟩
 refine zcf rfl <| zag <| zag <| zah (l := [0, 1, 2]) rfl <| p_v (v := .agg ((zad (bK.part)) ++ ([.slice A15 (bK.next).length c15, .slice A17 (bK.final).length c17] : List Value)).toArray) rfl rfl rfl (zam (seg := ((zad (bK.part)) ++ ([.slice A15 (bK.next).length c15, .slice A17 (bK.final).length c17] : List Value))) ty35 (zal (zaf ok13_0) rfl) (by simp) r127_1 (CF.box (m := 259) (S127.box_at (j := 0) rfl) (zaw (zal (zaf ok13_0) rfl)))) <| p_c rfl rfl rfl (zba (args := [.agg ((zad (bK.part)) ++ ([.slice A15 (bK.next).length c15, .slice A17 (bK.final).length c17] : List Value)).toArray]) ca48 rfl rfl) (zea w127 bK ok13_0 A15 c15 (And.intro lc15 cm15) (ld15.mono (((lf67_7).trans le127).trans S127.ghost)) A17 c17 (And.intro lc17 cm17) (ld17.mono (((lf67_8).trans le127).trans S127.ghost))) ?_
 rintro _ w131 ⟨h131, T131, rfl⟩
 have S132 := S127.keep (Chg.of_below T131.below)
 refine p_v (v := .bool (!(zb7 bK))) rfl rfl rfl (x_not rfl) <| zac ?_
 have hc133 : (zb7 bK) = true := by
  rw [zdy]; exact k_right
 refine zcy (b := false) (congrArg (fun z => Value.bool (!z)) hc133) ?_
 simp only [if_true, if_false, Bool.false_eq_true]
 refine za6 <| zag ?_
 have hf134 : (CFs ⟨b69, 0, none⟩ ((zad (xB.part)) ++ ([.slice A65 (xB.next).length c65, .slice A67 (xB.final).length c67] : List Value))).1 w131 := (CF.box (m := 259) (S132.box_at (j := 1) rfl) (zaw (zal (zaf ok63_0) rfl)))
 have hf135 : (CFs ⟨b69, 0, none⟩ ((zad (xB.part)) ++ ([.slice A65 (xB.next).length c65, .slice A67 (xB.final).length c67] : List Value))).1 w131 := (CF.box (m := 259) (S132.box_at (j := 1) rfl) (zaw (zal (zaf ok63_0) rfl)))
 have hf136 : (CFs ⟨b69, 0, none⟩ ((zad (xB.part)) ++ ([.slice A65 (xB.next).length c65, .slice A67 (xB.final).length c67] : List Value))).1 w131 := (CF.box (m := 259) (S132.box_at (j := 1) rfl) (zaw (zal (zaf ok63_0) rfl)))
 refine daS (hkC 0 hf134 (hkC 1 hf135 (hkC 2 hf136 (hkN (w := w131))))) 9 rfl mixed ?_
 intro wd137 gd137 hd137
 have S138 := S132.keep gd137
 have hf139 := spUp gd137 hf134
 have hf140 := spUp gd137 hf135
 have hf141 := spUp gd137 hf136
 refine qd1 0 (i := 0) (v := .agg ((zad (xB.part)) ++ ([.slice A65 (xB.next).length c65, .slice A67 (xB.final).length c67] : List Value)).toArray) rfl rfl (by decide +kernel) rfl rfl (fun wq hq => (zam (seg := ((zad (xB.part)) ++ ([.slice A65 (xB.next).length c65, .slice A67 (xB.final).length c67] : List Value))) ty35 (zal (zaf ok63_0) rfl) (by simp) r127_6 hq)) (zbm hf139 (zan rfl)) <| qd1 1 (i := 1) (v := .agg ((zad (xB.part)) ++ ([.slice A65 (xB.next).length c65, .slice A67 (xB.final).length c67] : List Value)).toArray) rfl rfl (by decide +kernel) rfl rfl (fun wq hq => (zam (seg := ((zad (xB.part)) ++ ([.slice A65 (xB.next).length c65, .slice A67 (xB.final).length c67] : List Value))) ty35 (zal (zaf ok63_0) rfl) (by simp) r127_6 hq)) (za8 rfl (zbm hf140 (zan rfl))) <| qd1 2 (i := 2) (v := .agg ((zad (xB.part)) ++ ([.slice A65 (xB.next).length c65, .slice A67 (xB.final).length c67] : List Value)).toArray) rfl rfl (by decide +kernel) rfl rfl (fun wq hq => (zam (seg := ((zad (xB.part)) ++ ([.slice A65 (xB.next).length c65, .slice A67 (xB.final).length c67] : List Value))) ty35 (zal (zaf ok63_0) rfl) (by simp) r127_6 hq)) (za8 rfl (za8 rfl (zbm hf141 (zan rfl)))) ?_
 refine ra_join (fun ρ w' => ∃ (h : Ghost) (j204_b147 : Nat) (j204_b157 : Nat) (j204_b167 : Nat), Le h127 h ∧ St w.heap.size w h w' [box b19 35 ((zad (bK.part)) ++ ([.slice A15 (bK.next).length c15, .slice A17 (bK.final).length c17] : List Value)), box b69 35 ((zad (xB.part)) ++ ([.slice A65 (xB.next).length c65, .slice A67 (xB.final).length c67] : List Value)), box j204_b147 35 ((zad (xB.part)) ++ ([.slice A65 (xB.next).length c65, .slice A67 (xB.final).length c67] : List Value)), box j204_b157 35 ((zad (xB.part)) ++ ([.slice A65 (xB.next).length c65, .slice A67 (xB.final).length c67] : List Value)), box j204_b167 35 ((zad (xB.part)) ++ ([.slice A65 (xB.next).length c65, .slice A67 (xB.final).length c67] : List Value))] ∧ ρ 1 = .pointer (some ⟨b19, 0, none⟩) ∧ ρ 6 = .pointer (some ⟨b69, 0, none⟩) ∧ ρ 9 = .pointer (some ⟨j204_b147, 0, none⟩) ∧ ρ 10 = .pointer (some ⟨j204_b157, 0, none⟩) ∧ ρ 11 = .pointer (some ⟨j204_b167, 0, none⟩) ∧ okPart (bK.part) ∧ okPart (xB.part) ∧ okPart (xB.part) ∧ okPart (xB.part) ∧ okPart (xB.part)) ?_ (fun jn204 => ?_)
 ·skip
  rintro ρj204 wj204 ⟨hj204, j204_b147, j204_b157, j204_b167, lej204, Sj204, rj204_1, rj204_6, rj204_9, rj204_10, rj204_11, jf204_0, jf204_1, jf204_2, jf204_3, jf204_4⟩
  refine zag <| zah (l := [0, 1, 2, 3, 4, 5, 6, 7]) rfl ?_
  obtain ⟨v205, w205, r205, g205, T205⟩ := za5 (kd := (Kd.int .i64)) (xs := ([0, 0, 0, 9] : List Int)) (len := 4) [.int .i64 0, .int .i64 0, .int .i64 0, .int .i64 9] Sj204 u23 ty3 rfl rfl rfl rfl rfl (za0 rfl (za0 rfl (za0 rfl (za0 rfl zb4)))) ([.int .i64 0] ++ ([.int .i64 0] ++ ([.int .i64 0] ++ ([.int .i64 9])))) (zbp.cons (k := (Kd.int .i64)) (h := hj204) (x := 0) (cs := [.int .i64 0]) ⟨rfl, (zar (by first|omega|(simp;omega)|assumption|simp) (by first|omega|(simp;omega)|assumption|simp))⟩ (zbp.cons (k := (Kd.int .i64)) (h := hj204) (x := 0) (cs := [.int .i64 0]) ⟨rfl, (zar (by first|omega|(simp;omega)|assumption|simp) (by first|omega|(simp;omega)|assumption|simp))⟩ (zbp.cons (k := (Kd.int .i64)) (h := hj204) (x := 0) (cs := [.int .i64 0]) ⟨rfl, (zar (by first|omega|(simp;omega)|assumption|simp) (by first|omega|(simp;omega)|assumption|simp))⟩ (zbp.single (k := (Kd.int .i64)) (h := hj204) (x := 9) (cs := [.int .i64 9]) ⟨rfl, (zar (by first|omega|(simp;omega)|assumption|simp) (by first|omega|(simp;omega)|assumption|simp))⟩)))) rfl
  have S206 := T205
  dsimp only [lAa, lAn, lA0, lAs] at S206
  refine p_v (v := v205) rfl rfl rfl (zat (pv := [(0, .int .i64 0), (1, .int .i64 0), (2, .int .i64 0), (3, .int .i64 9)]) rfl r205) ?_
  obtain ⟨h208, le208, T208, rp208⟩ := S206.freeze (i := 5) rfl
  have lf208_0 := (((((lf67_0).trans le127)).trans lej204)).trans le208
  have lf208_1 := (((((lf67_1).trans le127)).trans lej204)).trans le208
  have lf208_2 := (((((lf67_2).trans le127)).trans lej204)).trans le208
  have lf208_3 := (((((lf67_3).trans le127)).trans lej204)).trans le208
  have lf208_4 := (((((lf67_4).trans le127)).trans lej204)).trans le208
  have lf208_5 := (((((lf67_5).trans le127)).trans lej204)).trans le208
  have lf208_6 := (((((lf67_6).trans le127)).trans lej204)).trans le208
  have lf208_7 := (((((lf67_7).trans le127)).trans lej204)).trans le208
  have lf208_8 := (((((lf67_8).trans le127)).trans lej204)).trans le208
  have lf208_9 := (((((lf67_9).trans le127)).trans lej204)).trans le208
  have lf208_10 := (((((lf67_10).trans le127)).trans lej204)).trans le208
  have lf208_11 := (((((lf67_11).trans le127)).trans lej204)).trans le208
  have lf208_12 := (((((lf67_12).trans le127)).trans lej204)).trans le208
  have lf208_13 := (((((lf67_13).trans le127)).trans lej204)).trans le208
  have lf208_14 := (((((lf67_14).trans le127)).trans lej204)).trans le208
  have lf208_15 := (((((lf67_15).trans le127)).trans lej204)).trans le208
  have lf208_16 := (((((lf67_16).trans le127)).trans lej204)).trans le208
  have lf208_17 := (((((lf67_17).trans le127)).trans lej204)).trans le208
  have lf208_18 := (((((le67).trans le127)).trans lej204)).trans le208
  have lf208_19 := (((le127).trans lej204)).trans le208
  have lf208_20 := (lej204).trans le208
  have S209 := T208.fx 5 (emp) rfl
  dsimp only [lAa, lAn, lA0, lAs] at S209
  obtain ⟨A208, c208, e208, lc208, cm208, ld208⟩ := rp208
  injection e208 with e208 _; subst e208
  have cn208 := cm208; simp only [maxLen] at cn208
  obtain ⟨v207, w207, r207, g207, T207⟩ := za5 (kd := (Kd.int .i64).slice) (xs := ([([0, 0, 0, 9] : List Int)] : List (List Int))) (len := 1) [.slice A208 ([0, 0, 0, 9] : List Int).length c208] S209 u24 ty23 rfl rfl rfl rfl rfl (za0 rfl zb4) [.slice A208 ([0, 0, 0, 9] : List Int).length c208] (zbp.single (k := (Kd.int .i64).slice) (h := h208) (x := ([0, 0, 0, 9] : List Int)) (cs := [.slice A208 ([0, 0, 0, 9] : List Int).length c208]) ⟨_, _, rfl, (And.intro lc208 cm208).1, (And.intro lc208 cm208).2, ld208.mono (Le.refl _)⟩) rfl
  have S210 := T207
  dsimp only [lAa, lAn, lA0, lAs] at S210
  refine p_v (v := v207) rfl rfl rfl (zat (pv := [(0, .slice A208 ([0, 0, 0, 9] : List Int).length c208)]) rfl r207) <| p_v (v := .pointer (some ⟨b69, 257, none⟩)) rfl rfl rfl (zaq zef ty24 rfl rj204_6) <| p_v (v := .slice A65 (xB.next).length c65) rfl rfl rfl (zam (seg := [.slice A65 (xB.next).length c65]) ty24 rfl (by simp) rfl (CF.box (m := 1) (S210.box_at (j := 1) rfl) (zbc (a := (zad (xB.part))) (pre := []) (seg := [.slice A65 (xB.next).length c65]) (post := [.slice A67 (xB.final).length c67]) (zaf jf204_1) rfl rfl))) ?_
  obtain ⟨A211, c211, r211, ld211, bd211⟩ := e_slice_lo (P := Tryd.prog) (w := w207) (q := (1 : Int)) (kk := .i64) ld65 (And.intro lc65 cm65) u24 ty23 (by first|omega|(simp;omega)|assumption|simp) (by first|omega|(simp;omega)|assumption|simp)
  refine p_v (v := .slice A211 ((xB.next).drop ((1 : Int)).toNat).length c211) rfl rfl rfl (x_slice (lv := some (.int .i64 (1 : Int))) (hv := none) rfl rfl rfl r211) ?_
  obtain ⟨v213, w213, r213, g213, T213⟩ := zcs (kd := (Kd.int .i64).slice) (A := A211) (c := c211) (ys := ((xB.next).drop ((1 : Int)).toNat)) (len := ((xB.next).drop ((1 : Int)).toNat).length) 24 S210 u24 ty23 rfl rfl (j := 6) rfl rfl (news_read S210 (ld211.mono lf208_18)) (by first|omega|(simp;omega)|assumption|simp) (by first|omega|(simp;omega)|assumption|simp)
  have S214 := T213.fx 6 (row 23 (Kd.int .i64).slice v213 (([([0, 0, 0, 9] : List Int)] : List (List Int)) ++ ((xB.next).drop ((1 : Int)).toNat))) rfl
  dsimp only [lAa, lAn, lA0, lAs] at S214
  refine p_v (v := v213) rfl rfl rfl (zcr rfl rfl r213) <| p_v (v := .pointer (some ⟨j204_b147, 257, none⟩)) rfl rfl rfl (zaq zef ty24 rfl rj204_9) ?_
  have oc216 := zcp S214 (j := 6) rfl
  obtain ⟨w215, r215, g215, T215⟩ := zcw (P := Tryd.prog) (off := 257) (v := v213) (vs := [v213]) (a := (zad (xB.part))) (pre := []) (seg := [.slice A65 (xB.next).length c65]) (post := [.slice A67 (xB.final).length c67]) S214 ty24 (zcn S214 (j := 6) rfl) rfl (zaf jf204_2) rfl rfl (j := 2) rfl (zb8 oc216 zdc)
  have S217 := T215.fx 2 (box j204_b147 35 ((zad (xB.part)) ++ ([v213, .slice A67 (xB.final).length c67] : List Value))) rfl
  dsimp only [lAa, lAn, lA0, lAs] at S217
  refine p_s rfl rfl (za2 rfl rfl r215) <| zac <| zag <| zah (l := [0, 1, 2, 3, 4]) rfl <| p_v (v := .pointer (some ⟨b69, 258, none⟩)) rfl rfl rfl (zaq fd35_2 ty25 rfl rj204_6) <| p_v (v := .slice A67 (xB.final).length c67) rfl rfl rfl (zam (seg := [.slice A67 (xB.final).length c67]) ty25 rfl (by simp) rfl (CF.box (m := 1) (S217.box_at (j := 1) rfl) (zbc (a := (zad (xB.part))) (pre := [.slice A65 (xB.next).length c65]) (seg := [.slice A67 (xB.final).length c67]) (post := []) (zaf jf204_1) rfl rfl))) ?_
  obtain ⟨A218, c218, r218, ld218, bd218⟩ := e_slice_lo (P := Tryd.prog) (w := w215) (q := (1 : Int)) (kk := .i64) ld67 (And.intro lc67 cm67) u25 ty4 (by first|omega|(simp;omega)|assumption|simp) (by first|omega|(simp;omega)|assumption|simp)
  refine p_v (v := .slice A218 ((xB.final).drop ((1 : Int)).toNat).length c218) rfl rfl rfl (x_slice (lv := some (.int .i64 (1 : Int))) (hv := none) rfl rfl rfl r218) <| p_v (v := .pointer (some ⟨j204_b157, 258, none⟩)) rfl rfl rfl (zaq fd35_2 ty25 rfl rj204_10) ?_
  obtain ⟨w219, r219, g219, T219⟩ := zcw (P := Tryd.prog) (off := 258) (v := .slice A218 ((xB.final).drop ((1 : Int)).toNat).length c218) (vs := [.slice A218 ((xB.final).drop ((1 : Int)).toNat).length c218]) (a := (zad (xB.part))) (pre := [.slice A65 (xB.next).length c65]) (seg := [.slice A67 (xB.final).length c67]) (post := []) S217 ty25 rfl rfl (zaf jf204_3) rfl rfl (j := 3) rfl (by simp [Value.oneCell'])
  have S220 := T219.fx 3 (box j204_b157 35 ((zad (xB.part)) ++ ([.slice A65 (xB.next).length c65, .slice A218 ((xB.final).drop ((1 : Int)).toNat).length c218] : List Value))) rfl
  dsimp only [lAa, lAn, lA0, lAs] at S220
  refine p_s rfl rfl (za2 rfl rfl r219) <| zac <| zag <| zah (l := [0, 1, 2, 3, 4, 5, 6, 7]) rfl ?_
  obtain ⟨v221, w221, r221, g221, T221⟩ := za5 (kd := (Kd.int .i64)) (xs := ([0, 0, 0] : List Int)) (len := 3) [.int .i64 0, .int .i64 0, .int .i64 0] S220 u23 ty3 rfl rfl rfl rfl rfl (za0 rfl (za0 rfl (za0 rfl zb4))) ([.int .i64 0] ++ ([.int .i64 0] ++ ([.int .i64 0]))) (zbp.cons (k := (Kd.int .i64)) (h := h208) (x := 0) (cs := [.int .i64 0]) ⟨rfl, (zar (by first|omega|(simp;omega)|assumption|simp) (by first|omega|(simp;omega)|assumption|simp))⟩ (zbp.cons (k := (Kd.int .i64)) (h := h208) (x := 0) (cs := [.int .i64 0]) ⟨rfl, (zar (by first|omega|(simp;omega)|assumption|simp) (by first|omega|(simp;omega)|assumption|simp))⟩ (zbp.single (k := (Kd.int .i64)) (h := h208) (x := 0) (cs := [.int .i64 0]) ⟨rfl, (zar (by first|omega|(simp;omega)|assumption|simp) (by first|omega|(simp;omega)|assumption|simp))⟩))) rfl
  have S222 := T221
  dsimp only [lAa, lAn, lA0, lAs] at S222
  refine p_v (v := v221) rfl rfl rfl (zat (pv := [(0, .int .i64 0), (1, .int .i64 0), (2, .int .i64 0)]) rfl r221) ?_
  obtain ⟨h224, le224, T224, rp224⟩ := S222.freeze (i := 7) rfl
  have lf224_0 := (lf208_0).trans le224
  have lf224_1 := (lf208_1).trans le224
  have lf224_2 := (lf208_2).trans le224
  have lf224_3 := (lf208_3).trans le224
  have lf224_4 := (lf208_4).trans le224
  have lf224_5 := (lf208_5).trans le224
  have lf224_6 := (lf208_6).trans le224
  have lf224_7 := (lf208_7).trans le224
  have lf224_8 := (lf208_8).trans le224
  have lf224_9 := (lf208_9).trans le224
  have lf224_10 := (lf208_10).trans le224
  have lf224_11 := (lf208_11).trans le224
  have lf224_12 := (lf208_12).trans le224
  have lf224_13 := (lf208_13).trans le224
  have lf224_14 := (lf208_14).trans le224
  have lf224_15 := (lf208_15).trans le224
  have lf224_16 := (lf208_16).trans le224
  have lf224_17 := (lf208_17).trans le224
  have lf224_18 := (lf208_18).trans le224
  have lf224_19 := (lf208_19).trans le224
  have lf224_20 := (lf208_20).trans le224
  have lf224_21 := (le208).trans le224
  have S225 := T224.fx 7 (emp) rfl
  dsimp only [lAa, lAn, lA0, lAs] at S225
  obtain ⟨A224, c224, e224, lc224, cm224, ld224⟩ := rp224
  injection e224 with e224 _; subst e224
  have cn224 := cm224; simp only [maxLen] at cn224
  obtain ⟨v223, w223, r223, g223, T223⟩ := za5 (kd := (Kd.int .i64).slice) (xs := ([([0, 0, 0] : List Int)] : List (List Int))) (len := 1) [.slice A224 ([0, 0, 0] : List Int).length c224] S225 u24 ty23 rfl rfl rfl rfl rfl (za0 rfl zb4) [.slice A224 ([0, 0, 0] : List Int).length c224] (zbp.single (k := (Kd.int .i64).slice) (h := h224) (x := ([0, 0, 0] : List Int)) (cs := [.slice A224 ([0, 0, 0] : List Int).length c224]) ⟨_, _, rfl, (And.intro lc224 cm224).1, (And.intro lc224 cm224).2, ld224.mono (Le.refl _)⟩) rfl
  have S226 := T223
  dsimp only [lAa, lAn, lA0, lAs] at S226
  refine p_v (v := v223) rfl rfl rfl (zat (pv := [(0, .slice A224 ([0, 0, 0] : List Int).length c224)]) rfl r223) <| p_v (v := .pointer (some ⟨b69, 257, none⟩)) rfl rfl rfl (zaq zef ty24 rfl rj204_6) <| p_v (v := .slice A65 (xB.next).length c65) rfl rfl rfl (zam (seg := [.slice A65 (xB.next).length c65]) ty24 rfl (by simp) rfl (CF.box (m := 1) (S226.box_at (j := 1) rfl) (zbc (a := (zad (xB.part))) (pre := []) (seg := [.slice A65 (xB.next).length c65]) (post := [.slice A67 (xB.final).length c67]) (zaf jf204_1) rfl rfl))) ?_
  obtain ⟨A227, c227, r227, ld227, bd227⟩ := e_slice_lo (P := Tryd.prog) (w := w223) (q := (1 : Int)) (kk := .i64) ld65 (And.intro lc65 cm65) u24 ty23 (by first|omega|(simp;omega)|assumption|simp) (by first|omega|(simp;omega)|assumption|simp)
  refine p_v (v := .slice A227 ((xB.next).drop ((1 : Int)).toNat).length c227) rfl rfl rfl (x_slice (lv := some (.int .i64 (1 : Int))) (hv := none) rfl rfl rfl r227) ?_
  obtain ⟨v229, w229, r229, g229, T229⟩ := zcs (kd := (Kd.int .i64).slice) (A := A227) (c := c227) (ys := ((xB.next).drop ((1 : Int)).toNat)) (len := ((xB.next).drop ((1 : Int)).toNat).length) 24 S226 u24 ty23 rfl rfl (j := 8) rfl rfl (news_read S226 (ld227.mono lf224_18)) (by first|omega|(simp;omega)|assumption|simp) (by first|omega|(simp;omega)|assumption|simp)
  have S230 := T229.fx 8 (row 23 (Kd.int .i64).slice v229 (([([0, 0, 0] : List Int)] : List (List Int)) ++ ((xB.next).drop ((1 : Int)).toNat))) rfl
  dsimp only [lAa, lAn, lA0, lAs] at S230
  refine p_v (v := v229) rfl rfl rfl (zcr rfl rfl r229) <| p_v (v := .pointer (some ⟨j204_b167, 257, none⟩)) rfl rfl rfl (zaq zef ty24 rfl rj204_11) ?_
  have oc232 := zcp S230 (j := 8) rfl
  obtain ⟨w231, r231, g231, T231⟩ := zcw (P := Tryd.prog) (off := 257) (v := v229) (vs := [v229]) (a := (zad (xB.part))) (pre := []) (seg := [.slice A65 (xB.next).length c65]) (post := [.slice A67 (xB.final).length c67]) S230 ty24 (zcn S230 (j := 8) rfl) rfl (zaf jf204_4) rfl rfl (j := 4) rfl (zb8 oc232 zdc)
  have S233 := T231.fx 4 (box j204_b167 35 ((zad (xB.part)) ++ ([v229, .slice A67 (xB.final).length c67] : List Value))) rfl
  dsimp only [lAa, lAn, lA0, lAs] at S233
  refine p_s rfl rfl (za2 rfl rfl r231) <| zac <| zag <| zag <| zah (l := [0, 1, 2, 3, 4, 5, 6, 7, 8, 9]) rfl <| p_v (v := .agg ((zad zPart) ++ ([.slice none 0 0, .slice none 0 0] : List Value)).toArray) rfl rfl rfl (zc4 (pv := []) rfl (za9 pl35 ty35 rfl (cs := ((zad zPart) ++ ([.slice none 0 0, .slice none 0 0] : List Value))) (by kernel_rfl))) <| p_v (v := .agg ((zad (xB.part)) ++ ([v213, .slice A67 (xB.final).length c67] : List Value)).toArray) rfl rfl rfl (zam (seg := ((zad (xB.part)) ++ ([v213, .slice A67 (xB.final).length c67] : List Value))) ty35 (zal (zaf jf204_2) rfl) (by simp) rj204_9 (CF.box (m := 259) (S233.box_at (j := 2) rfl) (zaw (zal (zaf jf204_2) rfl)))) <| p_v (v := .agg ((zad (xB.part)) ++ ([.slice A65 (xB.next).length c65, .slice A218 ((xB.final).drop ((1 : Int)).toNat).length c218] : List Value)).toArray) rfl rfl rfl (zam (seg := ((zad (xB.part)) ++ ([.slice A65 (xB.next).length c65, .slice A218 ((xB.final).drop ((1 : Int)).toNat).length c218] : List Value))) ty35 (zal (zaf jf204_3) rfl) (by simp) rj204_10 (CF.box (m := 259) (S233.box_at (j := 3) rfl) (zaw (zal (zaf jf204_3) rfl)))) <| p_v (v := .agg ((zad (xB.part)) ++ ([v229, .slice A67 (xB.final).length c67] : List Value)).toArray) rfl rfl rfl (zam (seg := ((zad (xB.part)) ++ ([v229, .slice A67 (xB.final).length c67] : List Value))) ty35 (zal (zaf jf204_4) rfl) (by simp) rj204_11 (CF.box (m := 259) (S233.box_at (j := 4) rfl) (zaw (zal (zaf jf204_4) rfl)))) <| p_v (v := .pointer (some ⟨b19, 0, none⟩)) rfl rfl rfl (zaq fd35_0 ty32 rfl rj204_1) <| p_v (v := .agg (zad (bK.part)).toArray) rfl rfl rfl (zam (seg := ((zad (bK.part)))) ty32 (zaf jf204_0) (by simp) rfl (CF.box (m := 257) (S233.box_at (j := 0) rfl) (seg_mid (pre := []) (seg := ((zad (bK.part)))) (post := [.slice A15 (bK.next).length c15, .slice A17 (bK.final).length c17]) rfl (zaf jf204_0)))) <| p_v (v := .agg ((zad (bK.part)) ++ ([.slice none 0 0, .slice none 0 0] : List Value)).toArray) rfl rfl rfl (zc4 (pv := [(0, .agg (zad (bK.part)).toArray)]) rfl (za9 pl35 ty35 rfl (cs := ((zad (bK.part)) ++ ([.slice none 0 0, .slice none 0 0] : List Value))) (fill_mid (vc := (zad (bK.part))) (pre := []) (seg := (zad zPart)) (post := [.slice none 0 0, .slice none 0 0]) rfl rfl (zaf jf204_0) (by kernel_rfl) rfl (zaf (zao)) rfl))) ?_
  obtain ⟨h235, le235, T235, rp235⟩ := S233.freeze (i := 6) rfl
  have lf235_0 := (lf224_0).trans le235
  have lf235_1 := (lf224_1).trans le235
  have lf235_2 := (lf224_2).trans le235
  have lf235_3 := (lf224_3).trans le235
  have lf235_4 := (lf224_4).trans le235
  have lf235_5 := (lf224_5).trans le235
  have lf235_6 := (lf224_6).trans le235
  have lf235_7 := (lf224_7).trans le235
  have lf235_8 := (lf224_8).trans le235
  have lf235_9 := (lf224_9).trans le235
  have lf235_10 := (lf224_10).trans le235
  have lf235_11 := (lf224_11).trans le235
  have lf235_12 := (lf224_12).trans le235
  have lf235_13 := (lf224_13).trans le235
  have lf235_14 := (lf224_14).trans le235
  have lf235_15 := (lf224_15).trans le235
  have lf235_16 := (lf224_16).trans le235
  have lf235_17 := (lf224_17).trans le235
  have lf235_18 := (lf224_18).trans le235
  have lf235_19 := (lf224_19).trans le235
  have lf235_20 := (lf224_20).trans le235
  have lf235_21 := (lf224_21).trans le235
  have lf235_22 := (le224).trans le235
  have S236 := T235.fx 6 (emp) rfl
  dsimp only [lAa, lAn, lA0, lAs] at S236
  obtain ⟨A235, c235, e235, lc235, cm235, ld235⟩ := rp235
  injection e235 with e235 _; subst e235
  have cn235 := cm235; simp only [maxLen] at cn235
  obtain ⟨h237, le237, T237, rp237⟩ := S236.freeze (i := 8) rfl
  have lf237_0 := (lf235_0).trans le237
  have lf237_1 := (lf235_1).trans le237
  have lf237_2 := (lf235_2).trans le237
  have lf237_3 := (lf235_3).trans le237
  have lf237_4 := (lf235_4).trans le237
  have lf237_5 := (lf235_5).trans le237
  have lf237_6 := (lf235_6).trans le237
  have lf237_7 := (lf235_7).trans le237
  have lf237_8 := (lf235_8).trans le237
  have lf237_9 := (lf235_9).trans le237
  have lf237_10 := (lf235_10).trans le237
  have lf237_11 := (lf235_11).trans le237
  have lf237_12 := (lf235_12).trans le237
  have lf237_13 := (lf235_13).trans le237
  have lf237_14 := (lf235_14).trans le237
  have lf237_15 := (lf235_15).trans le237
  have lf237_16 := (lf235_16).trans le237
  have lf237_17 := (lf235_17).trans le237
  have lf237_18 := (lf235_18).trans le237
  have lf237_19 := (lf235_19).trans le237
  have lf237_20 := (lf235_20).trans le237
  have lf237_21 := (lf235_21).trans le237
  have lf237_22 := (lf235_22).trans le237
  have lf237_23 := (le235).trans le237
  have S238 : St w.heap.size w h237 w231 [box b19 35 ((zad (bK.part)) ++ ([.slice A15 (bK.next).length c15, .slice A17 (bK.final).length c17] : List Value)), box b69 35 ((zad (xB.part)) ++ ([.slice A65 (xB.next).length c65, .slice A67 (xB.final).length c67] : List Value)), box j204_b147 35 ((zad (xB.part)) ++ ([.slice A235 (([([0, 0, 0, 9] : List Int)] : List (List Int)) ++ ((xB.next).drop ((1 : Int)).toNat)).length c235, .slice A67 (xB.final).length c67] : List Value)), box j204_b157 35 ((zad (xB.part)) ++ ([.slice A65 (xB.next).length c65, .slice A218 ((xB.final).drop ((1 : Int)).toNat).length c218] : List Value)), box j204_b167 35 ((zad (xB.part)) ++ ([v229, .slice A67 (xB.final).length c67] : List Value)), emp, emp, emp, emp] := T237
  obtain ⟨A237, c237, e237, lc237, cm237, ld237⟩ := rp237
  injection e237 with e237 _; subst e237
  have cn237 := cm237; simp only [maxLen] at cn237
  obtain ⟨v234, w234, r234, g234, T234⟩ := zd1 (kd := kDfa) (xs := zeq) (len := 5) (m := 259) [(.agg ((zad zPart) ++ ([.slice none 0 0, .slice none 0 0] : List Value)).toArray, ((zad zPart) ++ ([.slice none 0 0, .slice none 0 0] : List Value))), (.agg ((zad (xB.part)) ++ ([.slice A235 (([([0, 0, 0, 9] : List Int)] : List (List Int)) ++ ((xB.next).drop ((1 : Int)).toNat)).length c235, .slice A67 (xB.final).length c67] : List Value)).toArray, ((zad (xB.part)) ++ ([.slice A235 (([([0, 0, 0, 9] : List Int)] : List (List Int)) ++ ((xB.next).drop ((1 : Int)).toNat)).length c235, .slice A67 (xB.final).length c67] : List Value))), (.agg ((zad (xB.part)) ++ ([.slice A65 (xB.next).length c65, .slice A218 ((xB.final).drop ((1 : Int)).toNat).length c218] : List Value)).toArray, ((zad (xB.part)) ++ ([.slice A65 (xB.next).length c65, .slice A218 ((xB.final).drop ((1 : Int)).toNat).length c218] : List Value))), (.agg ((zad (xB.part)) ++ ([.slice A237 (([([0, 0, 0] : List Int)] : List (List Int)) ++ ((xB.next).drop ((1 : Int)).toNat)).length c237, .slice A67 (xB.final).length c67] : List Value)).toArray, ((zad (xB.part)) ++ ([.slice A237 (([([0, 0, 0] : List Int)] : List (List Int)) ++ ((xB.next).drop ((1 : Int)).toNat)).length c237, .slice A67 (xB.final).length c67] : List Value))), (.agg ((zad (bK.part)) ++ ([.slice none 0 0, .slice none 0 0] : List Value)).toArray, ((zad (bK.part)) ++ ([.slice none 0 0, .slice none 0 0] : List Value)))] S238 u86 ty35 rfl rfl rfl rfl (zdk rfl (zal (zaf (zao)) rfl) (zdk rfl (zal (zaf jf204_2) rfl) (zdk rfl (zal (zaf jf204_3) rfl) (zdk rfl (zal (zaf jf204_4) rfl) (zdk rfl (zal (zaf jf204_0) rfl) segs_nil))))) (cs := (((zad zPart) ++ ([.slice none 0 0, .slice none 0 0] : List Value)) ++ (((zad (xB.part)) ++ ([.slice A235 (([([0, 0, 0, 9] : List Int)] : List (List Int)) ++ ((xB.next).drop ((1 : Int)).toNat)).length c235, .slice A67 (xB.final).length c67] : List Value)) ++ (((zad (xB.part)) ++ ([.slice A65 (xB.next).length c65, .slice A218 ((xB.final).drop ((1 : Int)).toNat).length c218] : List Value)) ++ (((zad (xB.part)) ++ ([.slice A237 (([([0, 0, 0] : List Int)] : List (List Int)) ++ ((xB.next).drop ((1 : Int)).toNat)).length c237, .slice A67 (xB.final).length c67] : List Value)) ++ (((zad (bK.part)) ++ ([.slice none 0 0, .slice none 0 0] : List Value)))))))) (zbp.cons (k := kDfa) (h := h237) (x := (⟨zPart, ([] : List (List Int)), ([] : List Bool)⟩ : Dfa)) (cs := ((zad zPart) ++ ([.slice none 0 0, .slice none 0 0] : List Value))) ⟨_, _, _, _, rfl, (zao), ⟨(by simp [maxLen]), (zd7 _ _)⟩, ⟨(by simp [maxLen]), (zd7 _ _)⟩⟩ (zbp.cons (k := kDfa) (h := h237) (x := (⟨xB.part, ([([0, 0, 0, 9] : List Int)] : List (List Int)) ++ ((xB.next).drop ((1 : Int)).toNat), xB.final⟩ : Dfa)) (cs := ((zad (xB.part)) ++ ([.slice A235 (([([0, 0, 0, 9] : List Int)] : List (List Int)) ++ ((xB.next).drop ((1 : Int)).toNat)).length c235, .slice A67 (xB.final).length c67] : List Value))) ⟨_, _, _, _, rfl, jf204_2, ⟨(And.intro lc235 cm235), ld235.mono le237⟩, ⟨(And.intro lc67 cm67), ld67.mono lf237_19⟩⟩ (zbp.cons (k := kDfa) (h := h237) (x := (⟨xB.part, xB.next, ((xB.final).drop ((1 : Int)).toNat)⟩ : Dfa)) (cs := ((zad (xB.part)) ++ ([.slice A65 (xB.next).length c65, .slice A218 ((xB.final).drop ((1 : Int)).toNat).length c218] : List Value))) ⟨_, _, _, _, rfl, jf204_3, ⟨(And.intro lc65 cm65), ld65.mono lf237_18⟩, ⟨bd218, ld218.mono lf237_19⟩⟩ (zbp.cons (k := kDfa) (h := h237) (x := (⟨xB.part, ([([0, 0, 0] : List Int)] : List (List Int)) ++ ((xB.next).drop ((1 : Int)).toNat), xB.final⟩ : Dfa)) (cs := ((zad (xB.part)) ++ ([.slice A237 (([([0, 0, 0] : List Int)] : List (List Int)) ++ ((xB.next).drop ((1 : Int)).toNat)).length c237, .slice A67 (xB.final).length c67] : List Value))) ⟨_, _, _, _, rfl, jf204_4, ⟨(And.intro lc237 cm237), ld237.mono (Le.refl _)⟩, ⟨(And.intro lc67 cm67), ld67.mono lf237_19⟩⟩ (zbp.single (k := kDfa) (h := h237) (x := (⟨bK.part, ([] : List (List Int)), ([] : List Bool)⟩ : Dfa)) (cs := ((zad (bK.part)) ++ ([.slice none 0 0, .slice none 0 0] : List Value))) ⟨_, _, _, _, rfl, jf204_0, ⟨(by simp [maxLen]), (zd7 _ _)⟩, ⟨(by simp [maxLen]), (zd7 _ _)⟩⟩))))) (by simp)
  have S239 : St w.heap.size w h237 w234 [box b19 35 ((zad (bK.part)) ++ ([.slice A15 (bK.next).length c15, .slice A17 (bK.final).length c17] : List Value)), box b69 35 ((zad (xB.part)) ++ ([.slice A65 (xB.next).length c65, .slice A67 (xB.final).length c67] : List Value)), box j204_b147 35 ((zad (xB.part)) ++ ([.slice A235 (([([0, 0, 0, 9] : List Int)] : List (List Int)) ++ ((xB.next).drop ((1 : Int)).toNat)).length c235, .slice A67 (xB.final).length c67] : List Value)), box j204_b157 35 ((zad (xB.part)) ++ ([.slice A65 (xB.next).length c65, .slice A218 ((xB.final).drop ((1 : Int)).toNat).length c218] : List Value)), box j204_b167 35 ((zad (xB.part)) ++ ([.slice A237 (([([0, 0, 0] : List Int)] : List (List Int)) ++ ((xB.next).drop ((1 : Int)).toNat)).length c237, .slice A67 (xB.final).length c67] : List Value)), emp, emp, emp, emp, row 35 kDfa v234 zeq] := T234
  refine p_v (v := v234) rfl rfl rfl (zat (pv := [(0, .agg ((zad zPart) ++ ([.slice none 0 0, .slice none 0 0] : List Value)).toArray), (1, .agg ((zad (xB.part)) ++ ([.slice A235 (([([0, 0, 0, 9] : List Int)] : List (List Int)) ++ ((xB.next).drop ((1 : Int)).toNat)).length c235, .slice A67 (xB.final).length c67] : List Value)).toArray), (2, .agg ((zad (xB.part)) ++ ([.slice A65 (xB.next).length c65, .slice A218 ((xB.final).drop ((1 : Int)).toNat).length c218] : List Value)).toArray), (3, .agg ((zad (xB.part)) ++ ([.slice A237 (([([0, 0, 0] : List Int)] : List (List Int)) ++ ((xB.next).drop ((1 : Int)).toNat)).length c237, .slice A67 (xB.final).length c67] : List Value)).toArray), (4, .agg ((zad (bK.part)) ++ ([.slice none 0 0, .slice none 0 0] : List Value)).toArray)]) rfl r234) ?_
  have lb240 := S239.row_le (j := 9) rfl; simp only [maxLen] at lb240
  refine p_v (v := .int .i64 (zeq.length : Int)) rfl rfl rfl (x_len_own u86 rfl (e_len_own S239 (j := 9) rfl)) <| p_v (v := .int .i64 0) rfl rfl rfl (zai rfl) <| zac <| zay <| zce (S := Int) (fun (q_ : Int) ρ w' => match q_ with | t133 => ∃ (h : Ghost), Le h237 h ∧ St w.heap.size w h w' [box b19 35 ((zad (bK.part)) ++ ([.slice A15 (bK.next).length c15, .slice A17 (bK.final).length c17] : List Value)), row 35 kDfa v234 zeq] ∧ ρ 1 = .pointer (some ⟨b19, 0, none⟩) ∧ ρ 131 = v234 ∧ ρ 132 = .int .i64 (zeq.length : Int) ∧ ρ 133 = .int .i64 t133 ∧ inK .i64 t133 ∧ (0 ≤ t133)) (fun q_ => match q_ with | t133 => (5 - t133).toNat) (0) ⟨h237, Le.refl _, S239.sub [0, 9] (by decide) rfl _ rfl, rj204_1, rfl, rfl, rfl, (zar (by first|omega|(simp;omega)|assumption|simp) (by first|omega|(simp;omega)|assumption|simp)), (by omega)⟩ ?_
  rintro t133 ih241 ρ241 w241 ⟨h241, le241, S241, r241_1, r241_131, r241_132, r241_133, f241_0, hI241⟩
  have lf241_0 := zbf f241_0; have hf241_0 := zbg f241_0
  have rl241_1 := S241.row_le (j := 1) rfl; simp only [maxLen] at rl241_1
  refine zag <| zah (l := [0]) rfl <| p_v (v := .bool (decide (t133 < (zeq.length : Int)))) rfl rfl rfl (zd6 r241_133 r241_132) <| zac <| zag ?_
  refine zau (p := t133 < (zeq.length : Int)) rfl (fun hc242 => ?_) (fun hc242 => ?_)
  ·skip
   have hlt_ : t133 < 5 := hc242
   have hk2_ : ((at_ (zeq) t133).next.length : Int) ≤ 1048577 := by rw [k_fiveX]; exact k_len hI241 hlt_
   refine za6 <| zag <| zay <| zag <| zah (l := [0, 1, 2, 3]) rfl ?_
   obtain ⟨ad243, a243, at243⟩ := e_index_own (q := t133) (m := 259) S241 (j := 1) rfl rfl (by first|omega|(simp;omega)|assumption|simp) (by first|omega|(simp;omega)|assumption|simp)
   refine p_v (v := .pointer (some ad243)) rfl rfl rfl (x_index_own u86 ty35 r241_131 r241_133 a243 (by first|omega|(simp;omega)|assumption|simp) (by first|omega|(simp;omega)|assumption|simp)) ?_
   obtain ⟨seg244, rp244, cf244⟩ := e_load_own (q := t133) S241 (j := 1) rfl rfl at243 (by first|omega|(simp;omega)|assumption|simp) (by first|omega|(simp;omega)|assumption|simp)
   obtain ⟨A244_1, c244_1, A244_2, c244_2, rfl, ok244_0, ⟨bd244_1, ld244_1⟩, ⟨bd244_2, ld244_2⟩⟩ := rp244
   have plook244_0 := zbf ok244_0.2; have phiok244_0 := zbg ok244_0.2
   have ba244_1 := bd244_1.1; have bb244_1 := bd244_1.2; simp only [maxLen] at bb244_1
   have ba244_2 := bd244_2.1; have bb244_2 := bd244_2.2; simp only [maxLen] at bb244_2
   refine p_v (v := .agg ((zad ((at_ zeq t133).part)) ++ ([.slice A244_1 ((at_ zeq t133).next).length c244_1, .slice A244_2 ((at_ zeq t133).final).length c244_2] : List Value)).toArray) rfl rfl rfl (zam (seg := ((zad ((at_ zeq t133).part)) ++ ([.slice A244_1 ((at_ zeq t133).next).length c244_1, .slice A244_2 ((at_ zeq t133).final).length c244_2] : List Value))) ty35 (zal (zaf ok244_0) rfl) (by simp) rfl cf244) ?_
   obtain ⟨b245, w245, r245, g245, T245⟩ := zb0 (P := Tryd.prog) S241 35 (v := zv35) ((zad zPart) ++ ([.slice none 0 0, .slice none 0 0] : List Value)) (by kernel_rfl)
   have S246 := T245
   dsimp only [lAa, lAn, lA0, lAs] at S246
   refine p_v (v := .pointer (some ⟨b245, 0, none⟩)) rfl rfl rfl (zbr ty35 r245) ?_
   obtain ⟨w247, r247, g247, T247⟩ := za7 (P := Tryd.prog) (v := .agg ((zad ((at_ zeq t133).part)) ++ ([.slice A244_1 ((at_ zeq t133).next).length c244_1, .slice A244_2 ((at_ zeq t133).final).length c244_2] : List Value)).toArray) (vs := ((zad ((at_ zeq t133).part)) ++ ([.slice A244_1 ((at_ zeq t133).next).length c244_1, .slice A244_2 ((at_ zeq t133).final).length c244_2] : List Value))) (cs := ((zad zPart) ++ ([.slice none 0 0, .slice none 0 0] : List Value))) S246 ty35 rfl (zal (zaf ok244_0) rfl) (zal (zaf (zao)) rfl) (j := 2) rfl (zcc (zaz _) (by simp [Value.oneCell']))
   have S248 := T247.fx 2 (box b245 35 ((zad ((at_ zeq t133).part)) ++ ([.slice A244_1 ((at_ zeq t133).next).length c244_1, .slice A244_2 ((at_ zeq t133).final).length c244_2] : List Value))) rfl
   dsimp only [lAa, lAn, lA0, lAs] at S248
   refine p_s rfl rfl (za2 rfl rfl r247) <| zac <| zag <| zah (l := [0, 1, 2, 3, 4, 5, 6, 7]) rfl <| p_v (v := .agg ((zad ((at_ zeq t133).part)) ++ ([.slice A244_1 ((at_ zeq t133).next).length c244_1, .slice A244_2 ((at_ zeq t133).final).length c244_2] : List Value)).toArray) rfl rfl rfl (zam (seg := ((zad ((at_ zeq t133).part)) ++ ([.slice A244_1 ((at_ zeq t133).next).length c244_1, .slice A244_2 ((at_ zeq t133).final).length c244_2] : List Value))) ty35 (zal (zaf ok244_0) rfl) (by simp) rfl (CF.box (m := 259) (S248.box_at (j := 2) rfl) (zaw (zal (zaf ok244_0) rfl)))) <| p_c rfl rfl rfl (zba (args := [.agg ((zad ((at_ zeq t133).part)) ++ ([.slice A244_1 ((at_ zeq t133).next).length c244_1, .slice A244_2 ((at_ zeq t133).final).length c244_2] : List Value)).toArray]) ca23 rfl rfl) (notD_calls w247 (at_ zeq t133) ok244_0 A244_1 c244_1 bd244_1 (ld244_1.mono ((Le.refl _).trans S248.ghost)) A244_2 c244_2 bd244_2 (ld244_2.mono ((Le.refl _).trans S248.ghost)) (by first | assumption | omega)) ?_
   rintro _ w249 ⟨h249, v249_0, v249_1, T249, rfl, ok249_0, in249_1⟩
   obtain ⟨k249, lk249, ll249, U249⟩ := zch S248 T249
   have lc249_0 := (((lf237_0).trans le241)).trans lk249
   have lc249_1 := (((lf237_1).trans le241)).trans lk249
   have lc249_2 := (((lf237_2).trans le241)).trans lk249
   have lc249_3 := (((lf237_3).trans le241)).trans lk249
   have lc249_4 := (((lf237_4).trans le241)).trans lk249
   have lc249_5 := (((lf237_5).trans le241)).trans lk249
   have lc249_6 := (((lf237_6).trans le241)).trans lk249
   have lc249_7 := (((lf237_7).trans le241)).trans lk249
   have lc249_8 := (((lf237_8).trans le241)).trans lk249
   have lc249_9 := (((lf237_9).trans le241)).trans lk249
   have lc249_10 := (((lf237_10).trans le241)).trans lk249
   have lc249_11 := (((lf237_11).trans le241)).trans lk249
   have lc249_12 := (((lf237_12).trans le241)).trans lk249
   have lc249_13 := (((lf237_13).trans le241)).trans lk249
   have lc249_14 := (((lf237_14).trans le241)).trans lk249
   have lc249_15 := (((lf237_15).trans le241)).trans lk249
   have lc249_16 := (((lf237_16).trans le241)).trans lk249
   have lc249_17 := (((lf237_17).trans le241)).trans lk249
   have lc249_18 := (((lf237_18).trans le241)).trans lk249
   have lc249_19 := (((lf237_19).trans le241)).trans lk249
   have lc249_20 := (((lf237_20).trans le241)).trans lk249
   have lc249_21 := (((lf237_21).trans le241)).trans lk249
   have lc249_22 := (((lf237_22).trans le241)).trans lk249
   have lc249_23 := (((lf237_23).trans le241)).trans lk249
   have lc249_24 := (((le237).trans le241)).trans lk249
   have lc249_25 := (le241).trans lk249
   have S250 := U249
   dsimp only [lAa, lAn, lA0, lAs] at S250
   have lo_in249_1 := zbf in249_1; have hi_in249_1 := zbg in249_1
   obtain ⟨h251, le251, T251, rp251⟩ := S250.freeze (i := 3) rfl
   have lf251_0 := (lc249_0).trans le251
   have lf251_1 := (lc249_1).trans le251
   have lf251_2 := (lc249_2).trans le251
   have lf251_3 := (lc249_3).trans le251
   have lf251_4 := (lc249_4).trans le251
   have lf251_5 := (lc249_5).trans le251
   have lf251_6 := (lc249_6).trans le251
   have lf251_7 := (lc249_7).trans le251
   have lf251_8 := (lc249_8).trans le251
   have lf251_9 := (lc249_9).trans le251
   have lf251_10 := (lc249_10).trans le251
   have lf251_11 := (lc249_11).trans le251
   have lf251_12 := (lc249_12).trans le251
   have lf251_13 := (lc249_13).trans le251
   have lf251_14 := (lc249_14).trans le251
   have lf251_15 := (lc249_15).trans le251
   have lf251_16 := (lc249_16).trans le251
   have lf251_17 := (lc249_17).trans le251
   have lf251_18 := (lc249_18).trans le251
   have lf251_19 := (lc249_19).trans le251
   have lf251_20 := (lc249_20).trans le251
   have lf251_21 := (lc249_21).trans le251
   have lf251_22 := (lc249_22).trans le251
   have lf251_23 := (lc249_23).trans le251
   have lf251_24 := (lc249_24).trans le251
   have lf251_25 := (lc249_25).trans le251
   have lf251_26 := (lk249).trans le251
   have S252 := T251.fx 3 (emp) rfl
   dsimp only [lAa, lAn, lA0, lAs] at S252
   obtain ⟨A251, c251, e251, lc251, cm251, ld251⟩ := rp251
   injection e251 with e251 _; subst e251
   have cn251 := cm251; simp only [maxLen] at cn251
   obtain ⟨h253, le253, T253, rp253⟩ := S252.freeze (i := 4) rfl
   have lf253_0 := (lf251_0).trans le253
   have lf253_1 := (lf251_1).trans le253
   have lf253_2 := (lf251_2).trans le253
   have lf253_3 := (lf251_3).trans le253
   have lf253_4 := (lf251_4).trans le253
   have lf253_5 := (lf251_5).trans le253
   have lf253_6 := (lf251_6).trans le253
   have lf253_7 := (lf251_7).trans le253
   have lf253_8 := (lf251_8).trans le253
   have lf253_9 := (lf251_9).trans le253
   have lf253_10 := (lf251_10).trans le253
   have lf253_11 := (lf251_11).trans le253
   have lf253_12 := (lf251_12).trans le253
   have lf253_13 := (lf251_13).trans le253
   have lf253_14 := (lf251_14).trans le253
   have lf253_15 := (lf251_15).trans le253
   have lf253_16 := (lf251_16).trans le253
   have lf253_17 := (lf251_17).trans le253
   have lf253_18 := (lf251_18).trans le253
   have lf253_19 := (lf251_19).trans le253
   have lf253_20 := (lf251_20).trans le253
   have lf253_21 := (lf251_21).trans le253
   have lf253_22 := (lf251_22).trans le253
   have lf253_23 := (lf251_23).trans le253
   have lf253_24 := (lf251_24).trans le253
   have lf253_25 := (lf251_25).trans le253
   have lf253_26 := (lf251_26).trans le253
   have lf253_27 := (le251).trans le253
   have S254 := T253.fx 4 (emp) rfl
   dsimp only [lAa, lAn, lA0, lAs] at S254
   obtain ⟨A253, c253, e253, lc253, cm253, ld253⟩ := rp253
   injection e253 with e253 _; subst e253
   have cn253 := cm253; simp only [maxLen] at cn253
   refine p_v (v := .tuple #[.agg ((zad ((notD (at_ zeq t133)).part)) ++ ([.slice A251 ((notD (at_ zeq t133)).next).length c251, .slice A253 ((notD (at_ zeq t133)).final).length c253] : List Value)).toArray, .int .i64 (errD (at_ zeq t133))]) rfl rfl rfl (zai rfl) <| p_v (v := .agg ((zad ((notD (at_ zeq t133)).part)) ++ ([.slice A251 ((notD (at_ zeq t133)).next).length c251, .slice A253 ((notD (at_ zeq t133)).final).length c253] : List Value)).toArray) rfl rfl rfl (zb1 (vs := [.agg ((zad ((notD (at_ zeq t133)).part)) ++ ([.slice A251 ((notD (at_ zeq t133)).next).length c251, .slice A253 ((notD (at_ zeq t133)).final).length c253] : List Value)).toArray, .int .i64 (errD (at_ zeq t133))]) rfl rfl) <| p_v (v := .int .i64 (errD (at_ zeq t133))) rfl rfl rfl (zb1 (vs := [.agg ((zad ((notD (at_ zeq t133)).part)) ++ ([.slice A251 ((notD (at_ zeq t133)).next).length c251, .slice A253 ((notD (at_ zeq t133)).final).length c253] : List Value)).toArray, .int .i64 (errD (at_ zeq t133))]) rfl rfl) ?_
   obtain ⟨b255, w255, r255, g255, T255⟩ := zb0 (P := Tryd.prog) S254 35 (v := zv35) ((zad zPart) ++ ([.slice none 0 0, .slice none 0 0] : List Value)) (by kernel_rfl)
   have S256 := T255
   dsimp only [lAa, lAn, lA0, lAs] at S256
   refine p_v (v := .pointer (some ⟨b255, 0, none⟩)) rfl rfl rfl (zbr ty35 r255) ?_
   obtain ⟨w257, r257, g257, T257⟩ := za7 (P := Tryd.prog) (v := .agg ((zad ((notD (at_ zeq t133)).part)) ++ ([.slice A251 ((notD (at_ zeq t133)).next).length c251, .slice A253 ((notD (at_ zeq t133)).final).length c253] : List Value)).toArray) (vs := ((zad ((notD (at_ zeq t133)).part)) ++ ([.slice A251 ((notD (at_ zeq t133)).next).length c251, .slice A253 ((notD (at_ zeq t133)).final).length c253] : List Value))) (cs := ((zad zPart) ++ ([.slice none 0 0, .slice none 0 0] : List Value))) S256 ty35 rfl (zal (zaf ok249_0) rfl) (zal (zaf (zao)) rfl) (j := 5) rfl (zcc (zaz _) (by simp [Value.oneCell']))
   have S258 := T257.fx 5 (box b255 35 ((zad ((notD (at_ zeq t133)).part)) ++ ([.slice A251 ((notD (at_ zeq t133)).next).length c251, .slice A253 ((notD (at_ zeq t133)).final).length c253] : List Value))) rfl
   dsimp only [lAa, lAn, lA0, lAs] at S258
   refine p_s rfl rfl (za2 rfl rfl r257) <| p_v (v := .int .i64 (errD (at_ zeq t133))) rfl rfl rfl (zaj rfl) <| zac <| zag <| zah (l := [0, 1, 2, 3, 4, 5, 6, 7, 8]) rfl <| p_v (v := .agg ((zad (bK.part)) ++ ([.slice A15 (bK.next).length c15, .slice A17 (bK.final).length c17] : List Value)).toArray) rfl rfl rfl (zam (seg := ((zad (bK.part)) ++ ([.slice A15 (bK.next).length c15, .slice A17 (bK.final).length c17] : List Value))) ty35 (zal (zaf jf204_0) rfl) (by simp) r241_1 (CF.box (m := 259) (S258.box_at (j := 0) rfl) (zaw (zal (zaf jf204_0) rfl)))) <| p_v (v := .agg ((zad ((at_ zeq t133).part)) ++ ([.slice A244_1 ((at_ zeq t133).next).length c244_1, .slice A244_2 ((at_ zeq t133).final).length c244_2] : List Value)).toArray) rfl rfl rfl (zam (seg := ((zad ((at_ zeq t133).part)) ++ ([.slice A244_1 ((at_ zeq t133).next).length c244_1, .slice A244_2 ((at_ zeq t133).final).length c244_2] : List Value))) ty35 (zal (zaf ok244_0) rfl) (by simp) rfl (CF.box (m := 259) (S258.box_at (j := 2) rfl) (zaw (zal (zaf ok244_0) rfl)))) <| p_c rfl rfl rfl (zba (args := [.agg ((zad (bK.part)) ++ ([.slice A15 (bK.next).length c15, .slice A17 (bK.final).length c17] : List Value)).toArray, .agg ((zad ((at_ zeq t133).part)) ++ ([.slice A244_1 ((at_ zeq t133).next).length c244_1, .slice A244_2 ((at_ zeq t133).final).length c244_2] : List Value)).toArray, .int .u8 1, .pointer none]) ca28 rfl rfl) (both_calls w257 bK jf204_0 A15 c15 (And.intro lc15 cm15) (ld15.mono (lf253_7.trans S258.ghost)) A17 c17 (And.intro lc17 cm17) (ld17.mono (lf253_8.trans S258.ghost)) (at_ zeq t133) ok244_0 A244_1 c244_1 bd244_1 (ld244_1.mono (lf253_26.trans S258.ghost)) A244_2 c244_2 bd244_2 (ld244_2.mono (lf253_26.trans S258.ghost)) 1 (in_u8 (by first|omega|(simp;omega)|assumption|simp) (by first|omega|(simp;omega)|assumption|simp)) () (by first | assumption | exact ⟨by assumption, by assumption⟩)) ?_
   rintro _ w259 ⟨h259, v259_0, v259_1, T259, rfl, ok259_0, in259_1⟩
   obtain ⟨k259, lk259, ll259, U259⟩ := zch S258 T259
   have lc259_0 := (lf253_0).trans lk259
   have lc259_1 := (lf253_1).trans lk259
   have lc259_2 := (lf253_2).trans lk259
   have lc259_3 := (lf253_3).trans lk259
   have lc259_4 := (lf253_4).trans lk259
   have lc259_5 := (lf253_5).trans lk259
   have lc259_6 := (lf253_6).trans lk259
   have lc259_7 := (lf253_7).trans lk259
   have lc259_8 := (lf253_8).trans lk259
   have lc259_9 := (lf253_9).trans lk259
   have lc259_10 := (lf253_10).trans lk259
   have lc259_11 := (lf253_11).trans lk259
   have lc259_12 := (lf253_12).trans lk259
   have lc259_13 := (lf253_13).trans lk259
   have lc259_14 := (lf253_14).trans lk259
   have lc259_15 := (lf253_15).trans lk259
   have lc259_16 := (lf253_16).trans lk259
   have lc259_17 := (lf253_17).trans lk259
   have lc259_18 := (lf253_18).trans lk259
   have lc259_19 := (lf253_19).trans lk259
   have lc259_20 := (lf253_20).trans lk259
   have lc259_21 := (lf253_21).trans lk259
   have lc259_22 := (lf253_22).trans lk259
   have lc259_23 := (lf253_23).trans lk259
   have lc259_24 := (lf253_24).trans lk259
   have lc259_25 := (lf253_25).trans lk259
   have lc259_26 := (lf253_26).trans lk259
   have lc259_27 := (lf253_27).trans lk259
   have lc259_28 := (le253).trans lk259
   have S260 := U259
   dsimp only [lAa, lAn, lA0, lAs] at S260
   have lo_in259_1 := zbf in259_1; have hi_in259_1 := zbg in259_1
   obtain ⟨h261, le261, T261, rp261⟩ := S260.freeze (i := 6) rfl
   have lf261_0 := (lc259_0).trans le261
   have lf261_1 := (lc259_1).trans le261
   have lf261_2 := (lc259_2).trans le261
   have lf261_3 := (lc259_3).trans le261
   have lf261_4 := (lc259_4).trans le261
   have lf261_5 := (lc259_5).trans le261
   have lf261_6 := (lc259_6).trans le261
   have lf261_7 := (lc259_7).trans le261
   have lf261_8 := (lc259_8).trans le261
   have lf261_9 := (lc259_9).trans le261
   have lf261_10 := (lc259_10).trans le261
   have lf261_11 := (lc259_11).trans le261
   have lf261_12 := (lc259_12).trans le261
   have lf261_13 := (lc259_13).trans le261
   have lf261_14 := (lc259_14).trans le261
   have lf261_15 := (lc259_15).trans le261
   have lf261_16 := (lc259_16).trans le261
   have lf261_17 := (lc259_17).trans le261
   have lf261_18 := (lc259_18).trans le261
   have lf261_19 := (lc259_19).trans le261
   have lf261_20 := (lc259_20).trans le261
   have lf261_21 := (lc259_21).trans le261
   have lf261_22 := (lc259_22).trans le261
   have lf261_23 := (lc259_23).trans le261
   have lf261_24 := (lc259_24).trans le261
   have lf261_25 := (lc259_25).trans le261
   have lf261_26 := (lc259_26).trans le261
   have lf261_27 := (lc259_27).trans le261
   have lf261_28 := (lc259_28).trans le261
   have lf261_29 := (lk259).trans le261
   have S262 := T261.fx 6 (emp) rfl
   dsimp only [lAa, lAn, lA0, lAs] at S262
   obtain ⟨A261, c261, e261, lc261, cm261, ld261⟩ := rp261
   injection e261 with e261 _; subst e261
   have cn261 := cm261; simp only [maxLen] at cn261
   obtain ⟨h263, le263, T263, rp263⟩ := S262.freeze (i := 7) rfl
   have lf263_0 := (lf261_0).trans le263
   have lf263_1 := (lf261_1).trans le263
   have lf263_2 := (lf261_2).trans le263
   have lf263_3 := (lf261_3).trans le263
   have lf263_4 := (lf261_4).trans le263
   have lf263_5 := (lf261_5).trans le263
   have lf263_6 := (lf261_6).trans le263
   have lf263_7 := (lf261_7).trans le263
   have lf263_8 := (lf261_8).trans le263
   have lf263_9 := (lf261_9).trans le263
   have lf263_10 := (lf261_10).trans le263
   have lf263_11 := (lf261_11).trans le263
   have lf263_12 := (lf261_12).trans le263
   have lf263_13 := (lf261_13).trans le263
   have lf263_14 := (lf261_14).trans le263
   have lf263_15 := (lf261_15).trans le263
   have lf263_16 := (lf261_16).trans le263
   have lf263_17 := (lf261_17).trans le263
   have lf263_18 := (lf261_18).trans le263
   have lf263_19 := (lf261_19).trans le263
   have lf263_20 := (lf261_20).trans le263
   have lf263_21 := (lf261_21).trans le263
   have lf263_22 := (lf261_22).trans le263
   have lf263_23 := (lf261_23).trans le263
   have lf263_24 := (lf261_24).trans le263
   have lf263_25 := (lf261_25).trans le263
   have lf263_26 := (lf261_26).trans le263
   have lf263_27 := (lf261_27).trans le263
   have lf263_28 := (lf261_28).trans le263
   have lf263_29 := (lf261_29).trans le263
   have lf263_30 := (le261).trans le263
   have S264 := T263.fx 7 (emp) rfl
   dsimp only [lAa, lAn, lA0, lAs] at S264
   obtain ⟨A263, c263, e263, lc263, cm263, ld263⟩ := rp263
   injection e263 with e263 _; subst e263
   have cn263 := cm263; simp only [maxLen] at cn263
   refine p_v (v := .tuple #[.agg ((zad ((zae bK (at_ zeq t133) 1).part)) ++ ([.slice A261 ((zae bK (at_ zeq t133) 1).next).length c261, .slice A263 ((zae bK (at_ zeq t133) 1).final).length c263] : List Value)).toArray, .int .i64 (errO bK (at_ zeq t133) 1)]) rfl rfl rfl (zai rfl) <| p_v (v := .agg ((zad ((zae bK (at_ zeq t133) 1).part)) ++ ([.slice A261 ((zae bK (at_ zeq t133) 1).next).length c261, .slice A263 ((zae bK (at_ zeq t133) 1).final).length c263] : List Value)).toArray) rfl rfl rfl (zb1 (vs := [.agg ((zad ((zae bK (at_ zeq t133) 1).part)) ++ ([.slice A261 ((zae bK (at_ zeq t133) 1).next).length c261, .slice A263 ((zae bK (at_ zeq t133) 1).final).length c263] : List Value)).toArray, .int .i64 (errO bK (at_ zeq t133) 1)]) rfl rfl) <| p_v (v := .int .i64 (errO bK (at_ zeq t133) 1)) rfl rfl rfl (zb1 (vs := [.agg ((zad ((zae bK (at_ zeq t133) 1).part)) ++ ([.slice A261 ((zae bK (at_ zeq t133) 1).next).length c261, .slice A263 ((zae bK (at_ zeq t133) 1).final).length c263] : List Value)).toArray, .int .i64 (errO bK (at_ zeq t133) 1)]) rfl rfl) ?_
   obtain ⟨b265, w265, r265, g265, T265⟩ := zb0 (P := Tryd.prog) S264 35 (v := zv35) ((zad zPart) ++ ([.slice none 0 0, .slice none 0 0] : List Value)) (by kernel_rfl)
   have S266 := T265
   dsimp only [lAa, lAn, lA0, lAs] at S266
   refine p_v (v := .pointer (some ⟨b265, 0, none⟩)) rfl rfl rfl (zbr ty35 r265) ?_
   obtain ⟨w267, r267, g267, T267⟩ := za7 (P := Tryd.prog) (v := .agg ((zad ((zae bK (at_ zeq t133) 1).part)) ++ ([.slice A261 ((zae bK (at_ zeq t133) 1).next).length c261, .slice A263 ((zae bK (at_ zeq t133) 1).final).length c263] : List Value)).toArray) (vs := ((zad ((zae bK (at_ zeq t133) 1).part)) ++ ([.slice A261 ((zae bK (at_ zeq t133) 1).next).length c261, .slice A263 ((zae bK (at_ zeq t133) 1).final).length c263] : List Value))) (cs := ((zad zPart) ++ ([.slice none 0 0, .slice none 0 0] : List Value))) S266 ty35 rfl (zal (zaf ok259_0) rfl) (zal (zaf (zao)) rfl) (j := 8) rfl (zcc (zaz _) (by simp [Value.oneCell']))
   have S268 := T267.fx 8 (box b265 35 ((zad ((zae bK (at_ zeq t133) 1).part)) ++ ([.slice A261 ((zae bK (at_ zeq t133) 1).next).length c261, .slice A263 ((zae bK (at_ zeq t133) 1).final).length c263] : List Value))) rfl
   dsimp only [lAa, lAn, lA0, lAs] at S268
   refine p_s rfl rfl (za2 rfl rfl r267) <| p_v (v := .int .i64 (errO bK (at_ zeq t133) 1)) rfl rfl rfl (zaj rfl) <| zac <| zag <| zah (l := [0, 1, 2, 3, 4, 5, 6, 7, 8, 9, 10, 11, 12, 13]) rfl <| p_v (v := .agg ((zad ((at_ zeq t133).part)) ++ ([.slice A244_1 ((at_ zeq t133).next).length c244_1, .slice A244_2 ((at_ zeq t133).final).length c244_2] : List Value)).toArray) rfl rfl rfl (zam (seg := ((zad ((at_ zeq t133).part)) ++ ([.slice A244_1 ((at_ zeq t133).next).length c244_1, .slice A244_2 ((at_ zeq t133).final).length c244_2] : List Value))) ty35 (zal (zaf ok244_0) rfl) (by simp) rfl (CF.box (m := 259) (S268.box_at (j := 2) rfl) (zaw (zal (zaf ok244_0) rfl)))) <| p_c rfl rfl rfl (zba (args := [.agg ((zad ((at_ zeq t133).part)) ++ ([.slice A244_1 ((at_ zeq t133).next).length c244_1, .slice A244_2 ((at_ zeq t133).final).length c244_2] : List Value)).toArray]) ca48 rfl rfl) (zea w267 (at_ zeq t133) ok244_0 A244_1 c244_1 bd244_1 (ld244_1.mono (lf263_26.trans S268.ghost)) A244_2 c244_2 bd244_2 (ld244_2.mono (lf263_26.trans S268.ghost))) ?_
   rintro _ w269 ⟨h269, T269, rfl⟩
   have S270 := S268.keep (Chg.of_below T269.below)
   refine p_v (v := .bool (zb7 (at_ zeq t133))) rfl rfl rfl (zai rfl) ?_
   have hc271 : (zb7 (at_ zeq t133)) = false := by
    rw [k_fiveX]; exact k_bad (k_mem hI241 hlt_)
   refine p_v (v := .agg ((zad ((at_ zeq t133).part)) ++ ([.slice A244_1 ((at_ zeq t133).next).length c244_1, .slice A244_2 ((at_ zeq t133).final).length c244_2] : List Value)).toArray) rfl (wo 2 150 rfl rfl (congrArg Value.bool hc271) rfl) rfl (zam (seg := ((zad ((at_ zeq t133).part)) ++ ([.slice A244_1 ((at_ zeq t133).next).length c244_1, .slice A244_2 ((at_ zeq t133).final).length c244_2] : List Value))) ty35 (zal (zaf ok244_0) rfl) (by simp) rfl (CF.box (m := 259) (S270.box_at (j := 2) rfl) (zaw (zal (zaf ok244_0) rfl)))) <| p_c rfl (wo 2 150 rfl rfl (congrArg Value.bool hc271) rfl) rfl (zba (args := [.agg ((zad ((at_ zeq t133).part)) ++ ([.slice A244_1 ((at_ zeq t133).next).length c244_1, .slice A244_2 ((at_ zeq t133).final).length c244_2] : List Value)).toArray, .string (⟨#[]⟩ : ByteArray)]) ca24 rfl rfl) (zd8 w269 (at_ zeq t133) ok244_0 A244_1 c244_1 bd244_1 (ld244_1.mono (lf263_26.trans S270.ghost)) A244_2 c244_2 bd244_2 (ld244_2.mono (lf263_26.trans S270.ghost)) (⟨#[]⟩ : ByteArray) (by decide)) ?_
   rintro _ w272 ⟨h272, T272, rfl⟩
   have S273 := S270.keep (Chg.of_below T272.below)
   refine p_v (v := .bool (runD (at_ zeq t133) (⟨#[]⟩ : ByteArray))) rfl rfl rfl (zck (congrArg Value.bool hc271) rfl) <| p_v (v := .bool (runD (at_ zeq t133) (⟨#[]⟩ : ByteArray))) rfl rfl rfl (zai rfl) ?_
   have hc274 : (runD (at_ zeq t133) (⟨#[]⟩ : ByteArray)) = false := by
    rw [k_fiveX]; exact k_bad1 (k_mem hI241 hlt_) _
   refine p_v (v := .int .i64 (errD (at_ zeq t133))) rfl (wo 6 154 rfl rfl (congrArg Value.bool hc274) rfl) rfl (zai rfl) <| p_v (v := .bool (decide ((errD (at_ zeq t133)) ≠ 1))) rfl (wo 6 154 rfl rfl (congrArg Value.bool hc274) rfl) rfl (x_neq rfl rfl) <| p_v (v := .bool (decide ((errD (at_ zeq t133)) ≠ 1))) rfl rfl rfl (zck (congrArg Value.bool hc274) rfl) <| p_v (v := .bool (decide ((errD (at_ zeq t133)) ≠ 1))) rfl rfl rfl (zai rfl) ?_
   have hc275 : ¬ ((errD (at_ zeq t133)) ≠ 1) := by
    rw [k_fiveX]; exact fun h => h (k_bad2 (k_mem hI241 hlt_))
   refine p_v (v := .int .i64 (errO bK (at_ zeq t133) 1)) rfl (wo 10 158 rfl rfl (bF hc275) rfl) rfl (zai rfl) <| p_v (v := .bool (decide ((errO bK (at_ zeq t133) 1) ≠ 1))) rfl (wo 10 158 rfl rfl (bF hc275) rfl) rfl (x_neq rfl rfl) <| p_v (v := .bool (decide ((errO bK (at_ zeq t133) 1) ≠ 1))) rfl rfl rfl (zck (bF hc275) rfl) <| zac ?_
   have hc276 : ¬ ((errO bK (at_ zeq t133) 1) ≠ 1) := by
    rw [k_fiveX]; exact fun h => h (k_bad3 (k_mem hI241 hlt_) _ _)
   refine zcy (b := false) (bF hc276) ?_
   simp only [if_true, if_false, Bool.false_eq_true]
   refine za6 <| za3 <| zah (l := [0, 1]) rfl <| p_v (v := .int .i64 (t133 + 1)) rfl rfl rfl (zdj r241_133 rfl (zar (by first|omega|(simp;omega)|assumption|simp) (by first|omega|(simp;omega)|assumption|simp))) <| p_v (v := .int .i64 (t133 + 1)) rfl rfl rfl (zai rfl) <| zac ?_
   refine ih241 (t133 + 1) _ _ (by dsimp only; omega) ⟨h263, lf263_25, S273.sub [0, 1] (by decide) rfl _ rfl, r241_1, r241_131, r241_132, rfl, (zar (by first|omega|(simp;omega)|assumption|simp) (by first|omega|(simp;omega)|assumption|simp)), (by omega)⟩
  refine zcf rfl <| zag <| zah (l := [0, 1, 2, 3, 4, 5, 6, 7, 8]) rfl <| p_v (v := .agg #[.slice none 0 0, .slice none 0 0, .slice none 0 0, .slice none 0 0, .bool true]) rfl rfl rfl (zc4 (pv := [(4, .bool true)]) rfl (za9 pl27 ty27 rfl (cs := [.slice none 0 0, .slice none 0 0, .slice none 0 0, .slice none 0 0, .bool true]) rfl)) <| p_c rfl rfl rfl (zba (args := [.slice none 0 0]) ca49 rfl rfl) (refine_calls w241 ([] : List BSet) none 0 (by simp [maxLen]) (zd7 _ _)) ?_
  rintro _ w277 ⟨h277, T277, rfl, ok277_0⟩
  have S278 := S241.keep (Chg.of_below T277.below)
  refine p_c rfl rfl rfl (zba (args := [.agg #[.slice none 0 0, .slice none 0 0, .slice none 0 0, .slice none 0 0, .bool true], .agg (zad (zap ([] : List BSet))).toArray, .pointer none]) ca21 rfl rfl) (build_calls w277 zep none 0 (by simp [maxLen]) (zd7 _ _) none 0 (by simp [maxLen]) (zd7 _ _) none 0 (by simp [maxLen]) (zd7 _ _) none 0 (by simp [maxLen]) (zd7 _ _) (zap ([] : List BSet)) ok277_0 () (by first | assumption | omega | decide) (Block.st S278 tb)) ?_
  rintro _ w279 ⟨h279, v279_0, v279_1, T279, rfl, ok279_0, in279_1⟩
  obtain ⟨k279, lk279, ll279, U279⟩ := zch S278 T279
  have lc279_0 := (((lf237_0).trans le241)).trans lk279
  have lc279_1 := (((lf237_1).trans le241)).trans lk279
  have lc279_2 := (((lf237_2).trans le241)).trans lk279
  have lc279_3 := (((lf237_3).trans le241)).trans lk279
  have lc279_4 := (((lf237_4).trans le241)).trans lk279
  have lc279_5 := (((lf237_5).trans le241)).trans lk279
  have lc279_6 := (((lf237_6).trans le241)).trans lk279
  have lc279_7 := (((lf237_7).trans le241)).trans lk279
  have lc279_8 := (((lf237_8).trans le241)).trans lk279
  have lc279_9 := (((lf237_9).trans le241)).trans lk279
  have lc279_10 := (((lf237_10).trans le241)).trans lk279
  have lc279_11 := (((lf237_11).trans le241)).trans lk279
  have lc279_12 := (((lf237_12).trans le241)).trans lk279
  have lc279_13 := (((lf237_13).trans le241)).trans lk279
  have lc279_14 := (((lf237_14).trans le241)).trans lk279
  have lc279_15 := (((lf237_15).trans le241)).trans lk279
  have lc279_16 := (((lf237_16).trans le241)).trans lk279
  have lc279_17 := (((lf237_17).trans le241)).trans lk279
  have lc279_18 := (((lf237_18).trans le241)).trans lk279
  have lc279_19 := (((lf237_19).trans le241)).trans lk279
  have lc279_20 := (((lf237_20).trans le241)).trans lk279
  have lc279_21 := (((lf237_21).trans le241)).trans lk279
  have lc279_22 := (((lf237_22).trans le241)).trans lk279
  have lc279_23 := (((lf237_23).trans le241)).trans lk279
  have lc279_24 := (((le237).trans le241)).trans lk279
  have lc279_25 := (le241).trans lk279
  have S280 := U279
  dsimp only [lAa, lAn, lA0, lAs] at S280
  have lo_in279_1 := zbf in279_1; have hi_in279_1 := zbg in279_1
  obtain ⟨h281, le281, T281, rp281⟩ := S280.freeze (i := 2) rfl
  have lf281_0 := (lc279_0).trans le281
  have lf281_1 := (lc279_1).trans le281
  have lf281_2 := (lc279_2).trans le281
  have lf281_3 := (lc279_3).trans le281
  have lf281_4 := (lc279_4).trans le281
  have lf281_5 := (lc279_5).trans le281
  have lf281_6 := (lc279_6).trans le281
  have lf281_7 := (lc279_7).trans le281
  have lf281_8 := (lc279_8).trans le281
  have lf281_9 := (lc279_9).trans le281
  have lf281_10 := (lc279_10).trans le281
  have lf281_11 := (lc279_11).trans le281
  have lf281_12 := (lc279_12).trans le281
  have lf281_13 := (lc279_13).trans le281
  have lf281_14 := (lc279_14).trans le281
  have lf281_15 := (lc279_15).trans le281
  have lf281_16 := (lc279_16).trans le281
  have lf281_17 := (lc279_17).trans le281
  have lf281_18 := (lc279_18).trans le281
  have lf281_19 := (lc279_19).trans le281
  have lf281_20 := (lc279_20).trans le281
  have lf281_21 := (lc279_21).trans le281
  have lf281_22 := (lc279_22).trans le281
  have lf281_23 := (lc279_23).trans le281
  have lf281_24 := (lc279_24).trans le281
  have lf281_25 := (lc279_25).trans le281
  have lf281_26 := (lk279).trans le281
  have S282 := T281.fx 2 (emp) rfl
  dsimp only [lAa, lAn, lA0, lAs] at S282
  obtain ⟨A281, c281, e281, lc281, cm281, ld281⟩ := rp281
  injection e281 with e281 _; subst e281
  have cn281 := cm281; simp only [maxLen] at cn281
  obtain ⟨h283, le283, T283, rp283⟩ := S282.freeze (i := 3) rfl
  have lf283_0 := (lf281_0).trans le283
  have lf283_1 := (lf281_1).trans le283
  have lf283_2 := (lf281_2).trans le283
  have lf283_3 := (lf281_3).trans le283
  have lf283_4 := (lf281_4).trans le283
  have lf283_5 := (lf281_5).trans le283
  have lf283_6 := (lf281_6).trans le283
  have lf283_7 := (lf281_7).trans le283
  have lf283_8 := (lf281_8).trans le283
  have lf283_9 := (lf281_9).trans le283
  have lf283_10 := (lf281_10).trans le283
  have lf283_11 := (lf281_11).trans le283
  have lf283_12 := (lf281_12).trans le283
  have lf283_13 := (lf281_13).trans le283
  have lf283_14 := (lf281_14).trans le283
  have lf283_15 := (lf281_15).trans le283
  have lf283_16 := (lf281_16).trans le283
  have lf283_17 := (lf281_17).trans le283
  have lf283_18 := (lf281_18).trans le283
  have lf283_19 := (lf281_19).trans le283
  have lf283_20 := (lf281_20).trans le283
  have lf283_21 := (lf281_21).trans le283
  have lf283_22 := (lf281_22).trans le283
  have lf283_23 := (lf281_23).trans le283
  have lf283_24 := (lf281_24).trans le283
  have lf283_25 := (lf281_25).trans le283
  have lf283_26 := (lf281_26).trans le283
  have lf283_27 := (le281).trans le283
  have S284 := T283.fx 3 (emp) rfl
  dsimp only [lAa, lAn, lA0, lAs] at S284
  obtain ⟨A283, c283, e283, lc283, cm283, ld283⟩ := rp283
  injection e283 with e283 _; subst e283
  have cn283 := cm283; simp only [maxLen] at cn283
  refine p_v (v := .tuple #[.agg ((zad ((zaa zep (zap ([] : List BSet))).part)) ++ ([.slice A281 ((zaa zep (zap ([] : List BSet))).next).length c281, .slice A283 ((zaa zep (zap ([] : List BSet))).final).length c283] : List Value)).toArray, .int .i64 (errB zep (zap ([] : List BSet)))]) rfl rfl rfl (zai rfl) <| p_v (v := .agg ((zad ((zaa zep (zap ([] : List BSet))).part)) ++ ([.slice A281 ((zaa zep (zap ([] : List BSet))).next).length c281, .slice A283 ((zaa zep (zap ([] : List BSet))).final).length c283] : List Value)).toArray) rfl rfl rfl (zb1 (vs := [.agg ((zad ((zaa zep (zap ([] : List BSet))).part)) ++ ([.slice A281 ((zaa zep (zap ([] : List BSet))).next).length c281, .slice A283 ((zaa zep (zap ([] : List BSet))).final).length c283] : List Value)).toArray, .int .i64 (errB zep (zap ([] : List BSet)))]) rfl rfl) <| p_v (v := .int .i64 (errB zep (zap ([] : List BSet)))) rfl rfl rfl (zb1 (vs := [.agg ((zad ((zaa zep (zap ([] : List BSet))).part)) ++ ([.slice A281 ((zaa zep (zap ([] : List BSet))).next).length c281, .slice A283 ((zaa zep (zap ([] : List BSet))).final).length c283] : List Value)).toArray, .int .i64 (errB zep (zap ([] : List BSet)))]) rfl rfl) ?_
  obtain ⟨b285, w285, r285, g285, T285⟩ := zb0 (P := Tryd.prog) S284 35 (v := zv35) ((zad zPart) ++ ([.slice none 0 0, .slice none 0 0] : List Value)) (by kernel_rfl)
  have S286 := T285
  dsimp only [lAa, lAn, lA0, lAs] at S286
  refine p_v (v := .pointer (some ⟨b285, 0, none⟩)) rfl rfl rfl (zbr ty35 r285) ?_
  obtain ⟨w287, r287, g287, T287⟩ := za7 (P := Tryd.prog) (v := .agg ((zad ((zaa zep (zap ([] : List BSet))).part)) ++ ([.slice A281 ((zaa zep (zap ([] : List BSet))).next).length c281, .slice A283 ((zaa zep (zap ([] : List BSet))).final).length c283] : List Value)).toArray) (vs := ((zad ((zaa zep (zap ([] : List BSet))).part)) ++ ([.slice A281 ((zaa zep (zap ([] : List BSet))).next).length c281, .slice A283 ((zaa zep (zap ([] : List BSet))).final).length c283] : List Value))) (cs := ((zad zPart) ++ ([.slice none 0 0, .slice none 0 0] : List Value))) S286 ty35 rfl (zal (zaf ok279_0) rfl) (zal (zaf (zao)) rfl) (j := 4) rfl (zcc (zaz _) (by simp [Value.oneCell']))
  have S288 := T287.fx 4 (box b285 35 ((zad ((zaa zep (zap ([] : List BSet))).part)) ++ ([.slice A281 ((zaa zep (zap ([] : List BSet))).next).length c281, .slice A283 ((zaa zep (zap ([] : List BSet))).final).length c283] : List Value))) rfl
  dsimp only [lAa, lAn, lA0, lAs] at S288
  refine p_s rfl rfl (za2 rfl rfl r287) <| p_v (v := .int .i64 (errB zep (zap ([] : List BSet)))) rfl rfl rfl (zaj rfl) <| zac <| zag <| zah (l := [0, 1, 2, 3, 4, 5, 6, 7, 8]) rfl <| p_v (v := .agg ((zad (bK.part)) ++ ([.slice A15 (bK.next).length c15, .slice A17 (bK.final).length c17] : List Value)).toArray) rfl rfl rfl (zam (seg := ((zad (bK.part)) ++ ([.slice A15 (bK.next).length c15, .slice A17 (bK.final).length c17] : List Value))) ty35 (zal (zaf jf204_0) rfl) (by simp) r241_1 (CF.box (m := 259) (S288.box_at (j := 0) rfl) (zaw (zal (zaf jf204_0) rfl)))) <| p_v (v := .agg ((zad ((zaa zep (zap ([] : List BSet))).part)) ++ ([.slice A281 ((zaa zep (zap ([] : List BSet))).next).length c281, .slice A283 ((zaa zep (zap ([] : List BSet))).final).length c283] : List Value)).toArray) rfl rfl rfl (zam (seg := ((zad ((zaa zep (zap ([] : List BSet))).part)) ++ ([.slice A281 ((zaa zep (zap ([] : List BSet))).next).length c281, .slice A283 ((zaa zep (zap ([] : List BSet))).final).length c283] : List Value))) ty35 (zal (zaf ok279_0) rfl) (by simp) rfl (CF.box (m := 259) (S288.box_at (j := 4) rfl) (zaw (zal (zaf ok279_0) rfl)))) <| p_c rfl rfl rfl (zba (args := [.agg ((zad (bK.part)) ++ ([.slice A15 (bK.next).length c15, .slice A17 (bK.final).length c17] : List Value)).toArray, .agg ((zad ((zaa zep (zap ([] : List BSet))).part)) ++ ([.slice A281 ((zaa zep (zap ([] : List BSet))).next).length c281, .slice A283 ((zaa zep (zap ([] : List BSet))).final).length c283] : List Value)).toArray, .int .u8 1, .pointer none]) ca28 rfl rfl) (both_calls w287 bK jf204_0 A15 c15 (And.intro lc15 cm15) (ld15.mono (lf283_7.trans S288.ghost)) A17 c17 (And.intro lc17 cm17) (ld17.mono (lf283_8.trans S288.ghost)) (zaa zep (zap ([] : List BSet))) ok279_0 A281 c281 (And.intro lc281 cm281) (ld281.mono (le283.trans S288.ghost)) A283 c283 (And.intro lc283 cm283) (ld283.mono ((Le.refl _).trans S288.ghost)) 1 (in_u8 (by first|omega|(simp;omega)|assumption|simp) (by first|omega|(simp;omega)|assumption|simp)) () (by first | assumption | exact ⟨by assumption, by assumption⟩)) ?_
  rintro _ w289 ⟨h289, v289_0, v289_1, T289, rfl, ok289_0, in289_1⟩
  obtain ⟨k289, lk289, ll289, U289⟩ := zch S288 T289
  have lc289_0 := (lf283_0).trans lk289
  have lc289_1 := (lf283_1).trans lk289
  have lc289_2 := (lf283_2).trans lk289
  have lc289_3 := (lf283_3).trans lk289
  have lc289_4 := (lf283_4).trans lk289
  have lc289_5 := (lf283_5).trans lk289
  have lc289_6 := (lf283_6).trans lk289
  have lc289_7 := (lf283_7).trans lk289
  have lc289_8 := (lf283_8).trans lk289
  have lc289_9 := (lf283_9).trans lk289
  have lc289_10 := (lf283_10).trans lk289
  have lc289_11 := (lf283_11).trans lk289
  have lc289_12 := (lf283_12).trans lk289
  have lc289_13 := (lf283_13).trans lk289
  have lc289_14 := (lf283_14).trans lk289
  have lc289_15 := (lf283_15).trans lk289
  have lc289_16 := (lf283_16).trans lk289
  have lc289_17 := (lf283_17).trans lk289
  have lc289_18 := (lf283_18).trans lk289
  have lc289_19 := (lf283_19).trans lk289
  have lc289_20 := (lf283_20).trans lk289
  have lc289_21 := (lf283_21).trans lk289
  have lc289_22 := (lf283_22).trans lk289
  have lc289_23 := (lf283_23).trans lk289
  have lc289_24 := (lf283_24).trans lk289
  have lc289_25 := (lf283_25).trans lk289
  have lc289_26 := (lf283_26).trans lk289
  have lc289_27 := (lf283_27).trans lk289
  have lc289_28 := (le283).trans lk289
  have S290 := U289
  dsimp only [lAa, lAn, lA0, lAs] at S290
  have lo_in289_1 := zbf in289_1; have hi_in289_1 := zbg in289_1
  obtain ⟨h291, le291, T291, rp291⟩ := S290.freeze (i := 5) rfl
  have lf291_0 := (lc289_0).trans le291
  have lf291_1 := (lc289_1).trans le291
  have lf291_2 := (lc289_2).trans le291
  have lf291_3 := (lc289_3).trans le291
  have lf291_4 := (lc289_4).trans le291
  have lf291_5 := (lc289_5).trans le291
  have lf291_6 := (lc289_6).trans le291
  have lf291_7 := (lc289_7).trans le291
  have lf291_8 := (lc289_8).trans le291
  have lf291_9 := (lc289_9).trans le291
  have lf291_10 := (lc289_10).trans le291
  have lf291_11 := (lc289_11).trans le291
  have lf291_12 := (lc289_12).trans le291
  have lf291_13 := (lc289_13).trans le291
  have lf291_14 := (lc289_14).trans le291
  have lf291_15 := (lc289_15).trans le291
  have lf291_16 := (lc289_16).trans le291
  have lf291_17 := (lc289_17).trans le291
  have lf291_18 := (lc289_18).trans le291
  have lf291_19 := (lc289_19).trans le291
  have lf291_20 := (lc289_20).trans le291
  have lf291_21 := (lc289_21).trans le291
  have lf291_22 := (lc289_22).trans le291
  have lf291_23 := (lc289_23).trans le291
  have lf291_24 := (lc289_24).trans le291
  have lf291_25 := (lc289_25).trans le291
  have lf291_26 := (lc289_26).trans le291
  have lf291_27 := (lc289_27).trans le291
  have lf291_28 := (lc289_28).trans le291
  have lf291_29 := (lk289).trans le291
  have S292 := T291.fx 5 (emp) rfl
  dsimp only [lAa, lAn, lA0, lAs] at S292
  obtain ⟨A291, c291, e291, lc291, cm291, ld291⟩ := rp291
  injection e291 with e291 _; subst e291
  have cn291 := cm291; simp only [maxLen] at cn291
  obtain ⟨h293, le293, T293, rp293⟩ := S292.freeze (i := 6) rfl
  have lf293_0 := (lf291_0).trans le293
  have lf293_1 := (lf291_1).trans le293
  have lf293_2 := (lf291_2).trans le293
  have lf293_3 := (lf291_3).trans le293
  have lf293_4 := (lf291_4).trans le293
  have lf293_5 := (lf291_5).trans le293
  have lf293_6 := (lf291_6).trans le293
  have lf293_7 := (lf291_7).trans le293
  have lf293_8 := (lf291_8).trans le293
  have lf293_9 := (lf291_9).trans le293
  have lf293_10 := (lf291_10).trans le293
  have lf293_11 := (lf291_11).trans le293
  have lf293_12 := (lf291_12).trans le293
  have lf293_13 := (lf291_13).trans le293
  have lf293_14 := (lf291_14).trans le293
  have lf293_15 := (lf291_15).trans le293
  have lf293_16 := (lf291_16).trans le293
  have lf293_17 := (lf291_17).trans le293
  have lf293_18 := (lf291_18).trans le293
  have lf293_19 := (lf291_19).trans le293
  have lf293_20 := (lf291_20).trans le293
  have lf293_21 := (lf291_21).trans le293
  have lf293_22 := (lf291_22).trans le293
  have lf293_23 := (lf291_23).trans le293
  have lf293_24 := (lf291_24).trans le293
  have lf293_25 := (lf291_25).trans le293
  have lf293_26 := (lf291_26).trans le293
  have lf293_27 := (lf291_27).trans le293
  have lf293_28 := (lf291_28).trans le293
  have lf293_29 := (lf291_29).trans le293
  have lf293_30 := (le291).trans le293
  have S294 := T293.fx 6 (emp) rfl
  dsimp only [lAa, lAn, lA0, lAs] at S294
  obtain ⟨A293, c293, e293, lc293, cm293, ld293⟩ := rp293
  injection e293 with e293 _; subst e293
  have cn293 := cm293; simp only [maxLen] at cn293
  refine p_v (v := .tuple #[.agg ((zad ((zae bK (zaa zep (zap ([] : List BSet))) 1).part)) ++ ([.slice A291 ((zae bK (zaa zep (zap ([] : List BSet))) 1).next).length c291, .slice A293 ((zae bK (zaa zep (zap ([] : List BSet))) 1).final).length c293] : List Value)).toArray, .int .i64 (errO bK (zaa zep (zap ([] : List BSet))) 1)]) rfl rfl rfl (zai rfl) <| p_v (v := .agg ((zad ((zae bK (zaa zep (zap ([] : List BSet))) 1).part)) ++ ([.slice A291 ((zae bK (zaa zep (zap ([] : List BSet))) 1).next).length c291, .slice A293 ((zae bK (zaa zep (zap ([] : List BSet))) 1).final).length c293] : List Value)).toArray) rfl rfl rfl (zb1 (vs := [.agg ((zad ((zae bK (zaa zep (zap ([] : List BSet))) 1).part)) ++ ([.slice A291 ((zae bK (zaa zep (zap ([] : List BSet))) 1).next).length c291, .slice A293 ((zae bK (zaa zep (zap ([] : List BSet))) 1).final).length c293] : List Value)).toArray, .int .i64 (errO bK (zaa zep (zap ([] : List BSet))) 1)]) rfl rfl) <| p_v (v := .int .i64 (errO bK (zaa zep (zap ([] : List BSet))) 1)) rfl rfl rfl (zb1 (vs := [.agg ((zad ((zae bK (zaa zep (zap ([] : List BSet))) 1).part)) ++ ([.slice A291 ((zae bK (zaa zep (zap ([] : List BSet))) 1).next).length c291, .slice A293 ((zae bK (zaa zep (zap ([] : List BSet))) 1).final).length c293] : List Value)).toArray, .int .i64 (errO bK (zaa zep (zap ([] : List BSet))) 1)]) rfl rfl) ?_
  obtain ⟨b295, w295, r295, g295, T295⟩ := zb0 (P := Tryd.prog) S294 35 (v := zv35) ((zad zPart) ++ ([.slice none 0 0, .slice none 0 0] : List Value)) (by kernel_rfl)
  have S296 := T295
  dsimp only [lAa, lAn, lA0, lAs] at S296
  refine p_v (v := .pointer (some ⟨b295, 0, none⟩)) rfl rfl rfl (zbr ty35 r295) ?_
  obtain ⟨w297, r297, g297, T297⟩ := za7 (P := Tryd.prog) (v := .agg ((zad ((zae bK (zaa zep (zap ([] : List BSet))) 1).part)) ++ ([.slice A291 ((zae bK (zaa zep (zap ([] : List BSet))) 1).next).length c291, .slice A293 ((zae bK (zaa zep (zap ([] : List BSet))) 1).final).length c293] : List Value)).toArray) (vs := ((zad ((zae bK (zaa zep (zap ([] : List BSet))) 1).part)) ++ ([.slice A291 ((zae bK (zaa zep (zap ([] : List BSet))) 1).next).length c291, .slice A293 ((zae bK (zaa zep (zap ([] : List BSet))) 1).final).length c293] : List Value))) (cs := ((zad zPart) ++ ([.slice none 0 0, .slice none 0 0] : List Value))) S296 ty35 rfl (zal (zaf ok289_0) rfl) (zal (zaf (zao)) rfl) (j := 7) rfl (zcc (zaz _) (by simp [Value.oneCell']))
  have S298 := T297.fx 7 (box b295 35 ((zad ((zae bK (zaa zep (zap ([] : List BSet))) 1).part)) ++ ([.slice A291 ((zae bK (zaa zep (zap ([] : List BSet))) 1).next).length c291, .slice A293 ((zae bK (zaa zep (zap ([] : List BSet))) 1).final).length c293] : List Value))) rfl
  dsimp only [lAa, lAn, lA0, lAs] at S298
  refine p_s rfl rfl (za2 rfl rfl r297) <| p_v (v := .int .i64 (errO bK (zaa zep (zap ([] : List BSet))) 1)) rfl rfl rfl (zaj rfl) <| zac <| zag <| zah (l := [0, 1, 2, 3, 4, 5, 6, 7, 8]) rfl <| p_v (v := .agg ((zad (bK.part)) ++ ([.slice A15 (bK.next).length c15, .slice A17 (bK.final).length c17] : List Value)).toArray) rfl rfl rfl (zam (seg := ((zad (bK.part)) ++ ([.slice A15 (bK.next).length c15, .slice A17 (bK.final).length c17] : List Value))) ty35 (zal (zaf jf204_0) rfl) (by simp) r241_1 (CF.box (m := 259) (S298.box_at (j := 0) rfl) (zaw (zal (zaf jf204_0) rfl)))) <| p_v (v := .agg ((zad (bK.part)) ++ ([.slice A15 (bK.next).length c15, .slice A17 (bK.final).length c17] : List Value)).toArray) rfl rfl rfl (zam (seg := ((zad (bK.part)) ++ ([.slice A15 (bK.next).length c15, .slice A17 (bK.final).length c17] : List Value))) ty35 (zal (zaf jf204_0) rfl) (by simp) r241_1 (CF.box (m := 259) (S298.box_at (j := 0) rfl) (zaw (zal (zaf jf204_0) rfl)))) <| p_c rfl rfl rfl (zba (args := [.agg ((zad (bK.part)) ++ ([.slice A15 (bK.next).length c15, .slice A17 (bK.final).length c17] : List Value)).toArray, .agg ((zad (bK.part)) ++ ([.slice A15 (bK.next).length c15, .slice A17 (bK.final).length c17] : List Value)).toArray, .int .u8 4, .pointer none]) ca28 rfl rfl) (both_calls w297 bK jf204_0 A15 c15 (And.intro lc15 cm15) (ld15.mono (lf293_7.trans S298.ghost)) A17 c17 (And.intro lc17 cm17) (ld17.mono (lf293_8.trans S298.ghost)) bK jf204_0 A15 c15 (And.intro lc15 cm15) (ld15.mono (lf293_7.trans S298.ghost)) A17 c17 (And.intro lc17 cm17) (ld17.mono (lf293_8.trans S298.ghost)) 4 (in_u8 (by first|omega|(simp;omega)|assumption|simp) (by first|omega|(simp;omega)|assumption|simp)) () (by first | assumption | exact ⟨by assumption, by assumption⟩)) ?_
  rintro _ w299 ⟨h299, v299_0, v299_1, T299, rfl, ok299_0, in299_1⟩
  obtain ⟨k299, lk299, ll299, U299⟩ := zch S298 T299
  have lc299_0 := (lf293_0).trans lk299
  have lc299_1 := (lf293_1).trans lk299
  have lc299_2 := (lf293_2).trans lk299
  have lc299_3 := (lf293_3).trans lk299
  have lc299_4 := (lf293_4).trans lk299
  have lc299_5 := (lf293_5).trans lk299
  have lc299_6 := (lf293_6).trans lk299
  have lc299_7 := (lf293_7).trans lk299
  have lc299_8 := (lf293_8).trans lk299
  have lc299_9 := (lf293_9).trans lk299
  have lc299_10 := (lf293_10).trans lk299
  have lc299_11 := (lf293_11).trans lk299
  have lc299_12 := (lf293_12).trans lk299
  have lc299_13 := (lf293_13).trans lk299
  have lc299_14 := (lf293_14).trans lk299
  have lc299_15 := (lf293_15).trans lk299
  have lc299_16 := (lf293_16).trans lk299
  have lc299_17 := (lf293_17).trans lk299
  have lc299_18 := (lf293_18).trans lk299
  have lc299_19 := (lf293_19).trans lk299
  have lc299_20 := (lf293_20).trans lk299
  have lc299_21 := (lf293_21).trans lk299
  have lc299_22 := (lf293_22).trans lk299
  have lc299_23 := (lf293_23).trans lk299
  have lc299_24 := (lf293_24).trans lk299
  have lc299_25 := (lf293_25).trans lk299
  have lc299_26 := (lf293_26).trans lk299
  have lc299_27 := (lf293_27).trans lk299
  have lc299_28 := (lf293_28).trans lk299
  have lc299_29 := (lf293_29).trans lk299
  have lc299_30 := (lf293_30).trans lk299
  have lc299_31 := (le293).trans lk299
  have S300 := U299
  dsimp only [lAa, lAn, lA0, lAs] at S300
  have lo_in299_1 := zbf in299_1; have hi_in299_1 := zbg in299_1
  obtain ⟨h301, le301, T301, rp301⟩ := S300.freeze (i := 8) rfl
  have lf301_0 := (lc299_0).trans le301
  have lf301_1 := (lc299_1).trans le301
  have lf301_2 := (lc299_2).trans le301
  have lf301_3 := (lc299_3).trans le301
  have lf301_4 := (lc299_4).trans le301
  have lf301_5 := (lc299_5).trans le301
  have lf301_6 := (lc299_6).trans le301
  have lf301_7 := (lc299_7).trans le301
  have lf301_8 := (lc299_8).trans le301
  have lf301_9 := (lc299_9).trans le301
  have lf301_10 := (lc299_10).trans le301
  have lf301_11 := (lc299_11).trans le301
  have lf301_12 := (lc299_12).trans le301
  have lf301_13 := (lc299_13).trans le301
  have lf301_14 := (lc299_14).trans le301
  have lf301_15 := (lc299_15).trans le301
  have lf301_16 := (lc299_16).trans le301
  have lf301_17 := (lc299_17).trans le301
  have lf301_18 := (lc299_18).trans le301
  have lf301_19 := (lc299_19).trans le301
  have lf301_20 := (lc299_20).trans le301
  have lf301_21 := (lc299_21).trans le301
  have lf301_22 := (lc299_22).trans le301
  have lf301_23 := (lc299_23).trans le301
  have lf301_24 := (lc299_24).trans le301
  have lf301_25 := (lc299_25).trans le301
  have lf301_26 := (lc299_26).trans le301
  have lf301_27 := (lc299_27).trans le301
  have lf301_28 := (lc299_28).trans le301
  have lf301_29 := (lc299_29).trans le301
  have lf301_30 := (lc299_30).trans le301
  have lf301_31 := (lc299_31).trans le301
  have lf301_32 := (lk299).trans le301
  have S302 := T301.fx 8 (emp) rfl
  dsimp only [lAa, lAn, lA0, lAs] at S302
  obtain ⟨A301, c301, e301, lc301, cm301, ld301⟩ := rp301
  injection e301 with e301 _; subst e301
  have cn301 := cm301; simp only [maxLen] at cn301
  obtain ⟨h303, le303, T303, rp303⟩ := S302.freeze (i := 9) rfl
  have lf303_0 := (lf301_0).trans le303
  have lf303_1 := (lf301_1).trans le303
  have lf303_2 := (lf301_2).trans le303
  have lf303_3 := (lf301_3).trans le303
  have lf303_4 := (lf301_4).trans le303
  have lf303_5 := (lf301_5).trans le303
  have lf303_6 := (lf301_6).trans le303
  have lf303_7 := (lf301_7).trans le303
  have lf303_8 := (lf301_8).trans le303
  have lf303_9 := (lf301_9).trans le303
  have lf303_10 := (lf301_10).trans le303
  have lf303_11 := (lf301_11).trans le303
  have lf303_12 := (lf301_12).trans le303
  have lf303_13 := (lf301_13).trans le303
  have lf303_14 := (lf301_14).trans le303
  have lf303_15 := (lf301_15).trans le303
  have lf303_16 := (lf301_16).trans le303
  have lf303_17 := (lf301_17).trans le303
  have lf303_18 := (lf301_18).trans le303
  have lf303_19 := (lf301_19).trans le303
  have lf303_20 := (lf301_20).trans le303
  have lf303_21 := (lf301_21).trans le303
  have lf303_22 := (lf301_22).trans le303
  have lf303_23 := (lf301_23).trans le303
  have lf303_24 := (lf301_24).trans le303
  have lf303_25 := (lf301_25).trans le303
  have lf303_26 := (lf301_26).trans le303
  have lf303_27 := (lf301_27).trans le303
  have lf303_28 := (lf301_28).trans le303
  have lf303_29 := (lf301_29).trans le303
  have lf303_30 := (lf301_30).trans le303
  have lf303_31 := (lf301_31).trans le303
  have lf303_32 := (lf301_32).trans le303
  have lf303_33 := (le301).trans le303
  have S304 := T303.fx 9 (emp) rfl
  dsimp only [lAa, lAn, lA0, lAs] at S304
  obtain ⟨A303, c303, e303, lc303, cm303, ld303⟩ := rp303
  injection e303 with e303 _; subst e303
  have cn303 := cm303; simp only [maxLen] at cn303
  refine p_v (v := .tuple #[.agg ((zad ((zae bK bK 4).part)) ++ ([.slice A301 ((zae bK bK 4).next).length c301, .slice A303 ((zae bK bK 4).final).length c303] : List Value)).toArray, .int .i64 (errO bK bK 4)]) rfl rfl rfl (zai rfl) <| p_v (v := .agg ((zad ((zae bK bK 4).part)) ++ ([.slice A301 ((zae bK bK 4).next).length c301, .slice A303 ((zae bK bK 4).final).length c303] : List Value)).toArray) rfl rfl rfl (zb1 (vs := [.agg ((zad ((zae bK bK 4).part)) ++ ([.slice A301 ((zae bK bK 4).next).length c301, .slice A303 ((zae bK bK 4).final).length c303] : List Value)).toArray, .int .i64 (errO bK bK 4)]) rfl rfl) <| p_v (v := .int .i64 (errO bK bK 4)) rfl rfl rfl (zb1 (vs := [.agg ((zad ((zae bK bK 4).part)) ++ ([.slice A301 ((zae bK bK 4).next).length c301, .slice A303 ((zae bK bK 4).final).length c303] : List Value)).toArray, .int .i64 (errO bK bK 4)]) rfl rfl) ?_
  obtain ⟨b305, w305, r305, g305, T305⟩ := zb0 (P := Tryd.prog) S304 35 (v := zv35) ((zad zPart) ++ ([.slice none 0 0, .slice none 0 0] : List Value)) (by kernel_rfl)
  have S306 := T305
  dsimp only [lAa, lAn, lA0, lAs] at S306
  refine p_v (v := .pointer (some ⟨b305, 0, none⟩)) rfl rfl rfl (zbr ty35 r305) ?_
  obtain ⟨w307, r307, g307, T307⟩ := za7 (P := Tryd.prog) (v := .agg ((zad ((zae bK bK 4).part)) ++ ([.slice A301 ((zae bK bK 4).next).length c301, .slice A303 ((zae bK bK 4).final).length c303] : List Value)).toArray) (vs := ((zad ((zae bK bK 4).part)) ++ ([.slice A301 ((zae bK bK 4).next).length c301, .slice A303 ((zae bK bK 4).final).length c303] : List Value))) (cs := ((zad zPart) ++ ([.slice none 0 0, .slice none 0 0] : List Value))) S306 ty35 rfl (zal (zaf ok299_0) rfl) (zal (zaf (zao)) rfl) (j := 10) rfl (zcc (zaz _) (by simp [Value.oneCell']))
  have S308 := T307.fx 10 (box b305 35 ((zad ((zae bK bK 4).part)) ++ ([.slice A301 ((zae bK bK 4).next).length c301, .slice A303 ((zae bK bK 4).final).length c303] : List Value))) rfl
  dsimp only [lAa, lAn, lA0, lAs] at S308
  refine p_s rfl rfl (za2 rfl rfl r307) <| p_v (v := .int .i64 (errO bK bK 4)) rfl rfl rfl (zaj rfl) <| zac <| zag <| zah (l := [0, 1, 2, 3, 4, 5, 6, 7, 8]) rfl <| p_c rfl rfl rfl (zba (args := []) ca46 rfl rfl) (some10_calls w307 ) ?_
  rintro _ w309 ⟨h309, v309_0, v309_1, v309_2, v309_3, T309, rfl⟩
  obtain ⟨k309, lk309, ll309, U309⟩ := zch S308 T309
  have lc309_0 := (lf303_0).trans lk309
  have lc309_1 := (lf303_1).trans lk309
  have lc309_2 := (lf303_2).trans lk309
  have lc309_3 := (lf303_3).trans lk309
  have lc309_4 := (lf303_4).trans lk309
  have lc309_5 := (lf303_5).trans lk309
  have lc309_6 := (lf303_6).trans lk309
  have lc309_7 := (lf303_7).trans lk309
  have lc309_8 := (lf303_8).trans lk309
  have lc309_9 := (lf303_9).trans lk309
  have lc309_10 := (lf303_10).trans lk309
  have lc309_11 := (lf303_11).trans lk309
  have lc309_12 := (lf303_12).trans lk309
  have lc309_13 := (lf303_13).trans lk309
  have lc309_14 := (lf303_14).trans lk309
  have lc309_15 := (lf303_15).trans lk309
  have lc309_16 := (lf303_16).trans lk309
  have lc309_17 := (lf303_17).trans lk309
  have lc309_18 := (lf303_18).trans lk309
  have lc309_19 := (lf303_19).trans lk309
  have lc309_20 := (lf303_20).trans lk309
  have lc309_21 := (lf303_21).trans lk309
  have lc309_22 := (lf303_22).trans lk309
  have lc309_23 := (lf303_23).trans lk309
  have lc309_24 := (lf303_24).trans lk309
  have lc309_25 := (lf303_25).trans lk309
  have lc309_26 := (lf303_26).trans lk309
  have lc309_27 := (lf303_27).trans lk309
  have lc309_28 := (lf303_28).trans lk309
  have lc309_29 := (lf303_29).trans lk309
  have lc309_30 := (lf303_30).trans lk309
  have lc309_31 := (lf303_31).trans lk309
  have lc309_32 := (lf303_32).trans lk309
  have lc309_33 := (lf303_33).trans lk309
  have lc309_34 := (le303).trans lk309
  have S310 := U309
  dsimp only [lAa, lAn, lA0, lAs] at S310
  obtain ⟨h311, le311, T311, rp311⟩ := S310.freeze (i := 11) rfl
  have lf311_0 := (lc309_0).trans le311
  have lf311_1 := (lc309_1).trans le311
  have lf311_2 := (lc309_2).trans le311
  have lf311_3 := (lc309_3).trans le311
  have lf311_4 := (lc309_4).trans le311
  have lf311_5 := (lc309_5).trans le311
  have lf311_6 := (lc309_6).trans le311
  have lf311_7 := (lc309_7).trans le311
  have lf311_8 := (lc309_8).trans le311
  have lf311_9 := (lc309_9).trans le311
  have lf311_10 := (lc309_10).trans le311
  have lf311_11 := (lc309_11).trans le311
  have lf311_12 := (lc309_12).trans le311
  have lf311_13 := (lc309_13).trans le311
  have lf311_14 := (lc309_14).trans le311
  have lf311_15 := (lc309_15).trans le311
  have lf311_16 := (lc309_16).trans le311
  have lf311_17 := (lc309_17).trans le311
  have lf311_18 := (lc309_18).trans le311
  have lf311_19 := (lc309_19).trans le311
  have lf311_20 := (lc309_20).trans le311
  have lf311_21 := (lc309_21).trans le311
  have lf311_22 := (lc309_22).trans le311
  have lf311_23 := (lc309_23).trans le311
  have lf311_24 := (lc309_24).trans le311
  have lf311_25 := (lc309_25).trans le311
  have lf311_26 := (lc309_26).trans le311
  have lf311_27 := (lc309_27).trans le311
  have lf311_28 := (lc309_28).trans le311
  have lf311_29 := (lc309_29).trans le311
  have lf311_30 := (lc309_30).trans le311
  have lf311_31 := (lc309_31).trans le311
  have lf311_32 := (lc309_32).trans le311
  have lf311_33 := (lc309_33).trans le311
  have lf311_34 := (lc309_34).trans le311
  have lf311_35 := (lk309).trans le311
  have S312 := T311.fx 11 (emp) rfl
  dsimp only [lAa, lAn, lA0, lAs] at S312
  obtain ⟨A311, c311, e311, lc311, cm311, ld311⟩ := rp311
  injection e311 with e311 _; subst e311
  have cn311 := cm311; simp only [maxLen] at cn311
  obtain ⟨h313, le313, T313, rp313⟩ := S312.freeze (i := 12) rfl
  have lf313_0 := (lf311_0).trans le313
  have lf313_1 := (lf311_1).trans le313
  have lf313_2 := (lf311_2).trans le313
  have lf313_3 := (lf311_3).trans le313
  have lf313_4 := (lf311_4).trans le313
  have lf313_5 := (lf311_5).trans le313
  have lf313_6 := (lf311_6).trans le313
  have lf313_7 := (lf311_7).trans le313
  have lf313_8 := (lf311_8).trans le313
  have lf313_9 := (lf311_9).trans le313
  have lf313_10 := (lf311_10).trans le313
  have lf313_11 := (lf311_11).trans le313
  have lf313_12 := (lf311_12).trans le313
  have lf313_13 := (lf311_13).trans le313
  have lf313_14 := (lf311_14).trans le313
  have lf313_15 := (lf311_15).trans le313
  have lf313_16 := (lf311_16).trans le313
  have lf313_17 := (lf311_17).trans le313
  have lf313_18 := (lf311_18).trans le313
  have lf313_19 := (lf311_19).trans le313
  have lf313_20 := (lf311_20).trans le313
  have lf313_21 := (lf311_21).trans le313
  have lf313_22 := (lf311_22).trans le313
  have lf313_23 := (lf311_23).trans le313
  have lf313_24 := (lf311_24).trans le313
  have lf313_25 := (lf311_25).trans le313
  have lf313_26 := (lf311_26).trans le313
  have lf313_27 := (lf311_27).trans le313
  have lf313_28 := (lf311_28).trans le313
  have lf313_29 := (lf311_29).trans le313
  have lf313_30 := (lf311_30).trans le313
  have lf313_31 := (lf311_31).trans le313
  have lf313_32 := (lf311_32).trans le313
  have lf313_33 := (lf311_33).trans le313
  have lf313_34 := (lf311_34).trans le313
  have lf313_35 := (lf311_35).trans le313
  have lf313_36 := (le311).trans le313
  have S314 := T313.fx 12 (emp) rfl
  dsimp only [lAa, lAn, lA0, lAs] at S314
  obtain ⟨A313, c313, e313, lc313, cm313, ld313⟩ := rp313
  injection e313 with e313 _; subst e313
  have cn313 := cm313; simp only [maxLen] at cn313
  obtain ⟨h315, le315, T315, rp315⟩ := S314.freeze (i := 13) rfl
  have lf315_0 := (lf313_0).trans le315
  have lf315_1 := (lf313_1).trans le315
  have lf315_2 := (lf313_2).trans le315
  have lf315_3 := (lf313_3).trans le315
  have lf315_4 := (lf313_4).trans le315
  have lf315_5 := (lf313_5).trans le315
  have lf315_6 := (lf313_6).trans le315
  have lf315_7 := (lf313_7).trans le315
  have lf315_8 := (lf313_8).trans le315
  have lf315_9 := (lf313_9).trans le315
  have lf315_10 := (lf313_10).trans le315
  have lf315_11 := (lf313_11).trans le315
  have lf315_12 := (lf313_12).trans le315
  have lf315_13 := (lf313_13).trans le315
  have lf315_14 := (lf313_14).trans le315
  have lf315_15 := (lf313_15).trans le315
  have lf315_16 := (lf313_16).trans le315
  have lf315_17 := (lf313_17).trans le315
  have lf315_18 := (lf313_18).trans le315
  have lf315_19 := (lf313_19).trans le315
  have lf315_20 := (lf313_20).trans le315
  have lf315_21 := (lf313_21).trans le315
  have lf315_22 := (lf313_22).trans le315
  have lf315_23 := (lf313_23).trans le315
  have lf315_24 := (lf313_24).trans le315
  have lf315_25 := (lf313_25).trans le315
  have lf315_26 := (lf313_26).trans le315
  have lf315_27 := (lf313_27).trans le315
  have lf315_28 := (lf313_28).trans le315
  have lf315_29 := (lf313_29).trans le315
  have lf315_30 := (lf313_30).trans le315
  have lf315_31 := (lf313_31).trans le315
  have lf315_32 := (lf313_32).trans le315
  have lf315_33 := (lf313_33).trans le315
  have lf315_34 := (lf313_34).trans le315
  have lf315_35 := (lf313_35).trans le315
  have lf315_36 := (lf313_36).trans le315
  have lf315_37 := (le313).trans le315
  have S316 := T315.fx 13 (emp) rfl
  dsimp only [lAa, lAn, lA0, lAs] at S316
  obtain ⟨A315, c315, e315, lc315, cm315, ld315⟩ := rp315
  injection e315 with e315 _; subst e315
  have cn315 := cm315; simp only [maxLen] at cn315
  obtain ⟨h317, le317, T317, rp317⟩ := S316.freeze (i := 14) rfl
  have lf317_0 := (lf315_0).trans le317
  have lf317_1 := (lf315_1).trans le317
  have lf317_2 := (lf315_2).trans le317
  have lf317_3 := (lf315_3).trans le317
  have lf317_4 := (lf315_4).trans le317
  have lf317_5 := (lf315_5).trans le317
  have lf317_6 := (lf315_6).trans le317
  have lf317_7 := (lf315_7).trans le317
  have lf317_8 := (lf315_8).trans le317
  have lf317_9 := (lf315_9).trans le317
  have lf317_10 := (lf315_10).trans le317
  have lf317_11 := (lf315_11).trans le317
  have lf317_12 := (lf315_12).trans le317
  have lf317_13 := (lf315_13).trans le317
  have lf317_14 := (lf315_14).trans le317
  have lf317_15 := (lf315_15).trans le317
  have lf317_16 := (lf315_16).trans le317
  have lf317_17 := (lf315_17).trans le317
  have lf317_18 := (lf315_18).trans le317
  have lf317_19 := (lf315_19).trans le317
  have lf317_20 := (lf315_20).trans le317
  have lf317_21 := (lf315_21).trans le317
  have lf317_22 := (lf315_22).trans le317
  have lf317_23 := (lf315_23).trans le317
  have lf317_24 := (lf315_24).trans le317
  have lf317_25 := (lf315_25).trans le317
  have lf317_26 := (lf315_26).trans le317
  have lf317_27 := (lf315_27).trans le317
  have lf317_28 := (lf315_28).trans le317
  have lf317_29 := (lf315_29).trans le317
  have lf317_30 := (lf315_30).trans le317
  have lf317_31 := (lf315_31).trans le317
  have lf317_32 := (lf315_32).trans le317
  have lf317_33 := (lf315_33).trans le317
  have lf317_34 := (lf315_34).trans le317
  have lf317_35 := (lf315_35).trans le317
  have lf317_36 := (lf315_36).trans le317
  have lf317_37 := (lf315_37).trans le317
  have lf317_38 := (le315).trans le317
  have S318 := T317.fx 14 (emp) rfl
  dsimp only [lAa, lAn, lA0, lAs] at S318
  obtain ⟨A317, c317, e317, lc317, cm317, ld317⟩ := rp317
  injection e317 with e317 _; subst e317
  have cn317 := cm317; simp only [maxLen] at cn317
  refine p_c rfl rfl rfl (zba (args := [.slice none 0 0]) ca49 rfl rfl) (refine_calls w309 ([] : List BSet) none 0 (by simp [maxLen]) (zd7 _ _)) ?_
  rintro _ w319 ⟨h319, T319, rfl, ok319_0⟩
  have S320 := S318.keep (Chg.of_below T319.below)
  refine p_c rfl rfl rfl (zba (args := [.agg #[.slice A311 zab.spots.length c311, .slice A313 zab.first.length c313, .slice A315 zab.follow.length c315, .slice A317 zab.last.length c317, .bool zab.empty], .agg (zad (zap ([] : List BSet))).toArray, .pointer none]) ca21 rfl rfl) (build_calls w319 zab A311 c311 (And.intro lc311 cm311) (ld311.mono (lf317_37.trans S320.ghost)) A313 c313 (And.intro lc313 cm313) (ld313.mono (lf317_38.trans S320.ghost)) A315 c315 (And.intro lc315 cm315) (ld315.mono (le317.trans S320.ghost)) A317 c317 (And.intro lc317 cm317) (ld317.mono ((Le.refl _).trans S320.ghost)) (zap ([] : List BSet)) ok319_0 () (by first | assumption | omega | decide) (Block.st S320 tb)) ?_
  rintro _ w321 ⟨h321, v321_0, v321_1, T321, rfl, ok321_0, in321_1⟩
  obtain ⟨k321, lk321, ll321, U321⟩ := zch S320 T321
  have lc321_0 := (lf317_0).trans lk321
  have lc321_1 := (lf317_1).trans lk321
  have lc321_2 := (lf317_2).trans lk321
  have lc321_3 := (lf317_3).trans lk321
  have lc321_4 := (lf317_4).trans lk321
  have lc321_5 := (lf317_5).trans lk321
  have lc321_6 := (lf317_6).trans lk321
  have lc321_7 := (lf317_7).trans lk321
  have lc321_8 := (lf317_8).trans lk321
  have lc321_9 := (lf317_9).trans lk321
  have lc321_10 := (lf317_10).trans lk321
  have lc321_11 := (lf317_11).trans lk321
  have lc321_12 := (lf317_12).trans lk321
  have lc321_13 := (lf317_13).trans lk321
  have lc321_14 := (lf317_14).trans lk321
  have lc321_15 := (lf317_15).trans lk321
  have lc321_16 := (lf317_16).trans lk321
  have lc321_17 := (lf317_17).trans lk321
  have lc321_18 := (lf317_18).trans lk321
  have lc321_19 := (lf317_19).trans lk321
  have lc321_20 := (lf317_20).trans lk321
  have lc321_21 := (lf317_21).trans lk321
  have lc321_22 := (lf317_22).trans lk321
  have lc321_23 := (lf317_23).trans lk321
  have lc321_24 := (lf317_24).trans lk321
  have lc321_25 := (lf317_25).trans lk321
  have lc321_26 := (lf317_26).trans lk321
  have lc321_27 := (lf317_27).trans lk321
  have lc321_28 := (lf317_28).trans lk321
  have lc321_29 := (lf317_29).trans lk321
  have lc321_30 := (lf317_30).trans lk321
  have lc321_31 := (lf317_31).trans lk321
  have lc321_32 := (lf317_32).trans lk321
  have lc321_33 := (lf317_33).trans lk321
  have lc321_34 := (lf317_34).trans lk321
  have lc321_35 := (lf317_35).trans lk321
  have lc321_36 := (lf317_36).trans lk321
  have lc321_37 := (lf317_37).trans lk321
  have lc321_38 := (lf317_38).trans lk321
  have lc321_39 := (le317).trans lk321
  have S322 := U321
  dsimp only [lAa, lAn, lA0, lAs] at S322
  have lo_in321_1 := zbf in321_1; have hi_in321_1 := zbg in321_1
  obtain ⟨h323, le323, T323, rp323⟩ := S322.freeze (i := 15) rfl
  have lf323_0 := (lc321_0).trans le323
  have lf323_1 := (lc321_1).trans le323
  have lf323_2 := (lc321_2).trans le323
  have lf323_3 := (lc321_3).trans le323
  have lf323_4 := (lc321_4).trans le323
  have lf323_5 := (lc321_5).trans le323
  have lf323_6 := (lc321_6).trans le323
  have lf323_7 := (lc321_7).trans le323
  have lf323_8 := (lc321_8).trans le323
  have lf323_9 := (lc321_9).trans le323
  have lf323_10 := (lc321_10).trans le323
  have lf323_11 := (lc321_11).trans le323
  have lf323_12 := (lc321_12).trans le323
  have lf323_13 := (lc321_13).trans le323
  have lf323_14 := (lc321_14).trans le323
  have lf323_15 := (lc321_15).trans le323
  have lf323_16 := (lc321_16).trans le323
  have lf323_17 := (lc321_17).trans le323
  have lf323_18 := (lc321_18).trans le323
  have lf323_19 := (lc321_19).trans le323
  have lf323_20 := (lc321_20).trans le323
  have lf323_21 := (lc321_21).trans le323
  have lf323_22 := (lc321_22).trans le323
  have lf323_23 := (lc321_23).trans le323
  have lf323_24 := (lc321_24).trans le323
  have lf323_25 := (lc321_25).trans le323
  have lf323_26 := (lc321_26).trans le323
  have lf323_27 := (lc321_27).trans le323
  have lf323_28 := (lc321_28).trans le323
  have lf323_29 := (lc321_29).trans le323
  have lf323_30 := (lc321_30).trans le323
  have lf323_31 := (lc321_31).trans le323
  have lf323_32 := (lc321_32).trans le323
  have lf323_33 := (lc321_33).trans le323
  have lf323_34 := (lc321_34).trans le323
  have lf323_35 := (lc321_35).trans le323
  have lf323_36 := (lc321_36).trans le323
  have lf323_37 := (lc321_37).trans le323
  have lf323_38 := (lc321_38).trans le323
  have lf323_39 := (lc321_39).trans le323
  have lf323_40 := (lk321).trans le323
  have S324 := T323.fx 15 (emp) rfl
  dsimp only [lAa, lAn, lA0, lAs] at S324
  obtain ⟨A323, c323, e323, lc323, cm323, ld323⟩ := rp323
  injection e323 with e323 _; subst e323
  have cn323 := cm323; simp only [maxLen] at cn323
  obtain ⟨h325, le325, T325, rp325⟩ := S324.freeze (i := 16) rfl
  have lf325_0 := (lf323_0).trans le325
  have lf325_1 := (lf323_1).trans le325
  have lf325_2 := (lf323_2).trans le325
  have lf325_3 := (lf323_3).trans le325
  have lf325_4 := (lf323_4).trans le325
  have lf325_5 := (lf323_5).trans le325
  have lf325_6 := (lf323_6).trans le325
  have lf325_7 := (lf323_7).trans le325
  have lf325_8 := (lf323_8).trans le325
  have lf325_9 := (lf323_9).trans le325
  have lf325_10 := (lf323_10).trans le325
  have lf325_11 := (lf323_11).trans le325
  have lf325_12 := (lf323_12).trans le325
  have lf325_13 := (lf323_13).trans le325
  have lf325_14 := (lf323_14).trans le325
  have lf325_15 := (lf323_15).trans le325
  have lf325_16 := (lf323_16).trans le325
  have lf325_17 := (lf323_17).trans le325
  have lf325_18 := (lf323_18).trans le325
  have lf325_19 := (lf323_19).trans le325
  have lf325_20 := (lf323_20).trans le325
  have lf325_21 := (lf323_21).trans le325
  have lf325_22 := (lf323_22).trans le325
  have lf325_23 := (lf323_23).trans le325
  have lf325_24 := (lf323_24).trans le325
  have lf325_25 := (lf323_25).trans le325
  have lf325_26 := (lf323_26).trans le325
  have lf325_27 := (lf323_27).trans le325
  have lf325_28 := (lf323_28).trans le325
  have lf325_29 := (lf323_29).trans le325
  have lf325_30 := (lf323_30).trans le325
  have lf325_31 := (lf323_31).trans le325
  have lf325_32 := (lf323_32).trans le325
  have lf325_33 := (lf323_33).trans le325
  have lf325_34 := (lf323_34).trans le325
  have lf325_35 := (lf323_35).trans le325
  have lf325_36 := (lf323_36).trans le325
  have lf325_37 := (lf323_37).trans le325
  have lf325_38 := (lf323_38).trans le325
  have lf325_39 := (lf323_39).trans le325
  have lf325_40 := (lf323_40).trans le325
  have lf325_41 := (le323).trans le325
  have S326 := T325.fx 16 (emp) rfl
  dsimp only [lAa, lAn, lA0, lAs] at S326
  obtain ⟨A325, c325, e325, lc325, cm325, ld325⟩ := rp325
  injection e325 with e325 _; subst e325
  have cn325 := cm325; simp only [maxLen] at cn325
  refine p_v (v := .tuple #[.agg ((zad ((zaa zab (zap ([] : List BSet))).part)) ++ ([.slice A323 ((zaa zab (zap ([] : List BSet))).next).length c323, .slice A325 ((zaa zab (zap ([] : List BSet))).final).length c325] : List Value)).toArray, .int .i64 (errB zab (zap ([] : List BSet)))]) rfl rfl rfl (zai rfl) <| p_v (v := .agg ((zad ((zaa zab (zap ([] : List BSet))).part)) ++ ([.slice A323 ((zaa zab (zap ([] : List BSet))).next).length c323, .slice A325 ((zaa zab (zap ([] : List BSet))).final).length c325] : List Value)).toArray) rfl rfl rfl (zb1 (vs := [.agg ((zad ((zaa zab (zap ([] : List BSet))).part)) ++ ([.slice A323 ((zaa zab (zap ([] : List BSet))).next).length c323, .slice A325 ((zaa zab (zap ([] : List BSet))).final).length c325] : List Value)).toArray, .int .i64 (errB zab (zap ([] : List BSet)))]) rfl rfl) <| p_v (v := .int .i64 (errB zab (zap ([] : List BSet)))) rfl rfl rfl (zb1 (vs := [.agg ((zad ((zaa zab (zap ([] : List BSet))).part)) ++ ([.slice A323 ((zaa zab (zap ([] : List BSet))).next).length c323, .slice A325 ((zaa zab (zap ([] : List BSet))).final).length c325] : List Value)).toArray, .int .i64 (errB zab (zap ([] : List BSet)))]) rfl rfl) ?_
  obtain ⟨b327, w327, r327, g327, T327⟩ := zb0 (P := Tryd.prog) S326 35 (v := zv35) ((zad zPart) ++ ([.slice none 0 0, .slice none 0 0] : List Value)) (by kernel_rfl)
  have S328 := T327
  dsimp only [lAa, lAn, lA0, lAs] at S328
  refine p_v (v := .pointer (some ⟨b327, 0, none⟩)) rfl rfl rfl (zbr ty35 r327) ?_
  obtain ⟨w329, r329, g329, T329⟩ := za7 (P := Tryd.prog) (v := .agg ((zad ((zaa zab (zap ([] : List BSet))).part)) ++ ([.slice A323 ((zaa zab (zap ([] : List BSet))).next).length c323, .slice A325 ((zaa zab (zap ([] : List BSet))).final).length c325] : List Value)).toArray) (vs := ((zad ((zaa zab (zap ([] : List BSet))).part)) ++ ([.slice A323 ((zaa zab (zap ([] : List BSet))).next).length c323, .slice A325 ((zaa zab (zap ([] : List BSet))).final).length c325] : List Value))) (cs := ((zad zPart) ++ ([.slice none 0 0, .slice none 0 0] : List Value))) S328 ty35 rfl (zal (zaf ok321_0) rfl) (zal (zaf (zao)) rfl) (j := 17) rfl (zcc (zaz _) (by simp [Value.oneCell']))
  have S330 := T329.fx 17 (box b327 35 ((zad ((zaa zab (zap ([] : List BSet))).part)) ++ ([.slice A323 ((zaa zab (zap ([] : List BSet))).next).length c323, .slice A325 ((zaa zab (zap ([] : List BSet))).final).length c325] : List Value))) rfl
  dsimp only [lAa, lAn, lA0, lAs] at S330
  refine p_s rfl rfl (za2 rfl rfl r329) <| p_v (v := .int .i64 (errB zab (zap ([] : List BSet)))) rfl rfl rfl (zaj rfl) <| zac <| zag <| zah (l := [0, 1, 2, 3, 4, 5, 6, 7]) rfl <| p_c rfl rfl rfl (zba (args := []) ca47 rfl rfl) (letters_calls w329 ) ?_
  rintro _ w331 ⟨h331, T331, rfl, ok331_0⟩
  have S332 := S330.keep (Chg.of_below T331.below)
  refine p_c rfl rfl rfl (zba (args := [.pointer none, .agg (zad lettersP).toArray, .pointer none]) ca50 rfl rfl) (masksNil_calls w331 () lettersP ok331_0 ()) ?_
  rintro _ w333 ⟨h333, v333_0, v333_1, T333, rfl, ok333_0, in333_1⟩
  obtain ⟨k333, lk333, ll333, U333⟩ := zch S332 T333
  have lc333_0 := (lf325_0).trans lk333
  have lc333_1 := (lf325_1).trans lk333
  have lc333_2 := (lf325_2).trans lk333
  have lc333_3 := (lf325_3).trans lk333
  have lc333_4 := (lf325_4).trans lk333
  have lc333_5 := (lf325_5).trans lk333
  have lc333_6 := (lf325_6).trans lk333
  have lc333_7 := (lf325_7).trans lk333
  have lc333_8 := (lf325_8).trans lk333
  have lc333_9 := (lf325_9).trans lk333
  have lc333_10 := (lf325_10).trans lk333
  have lc333_11 := (lf325_11).trans lk333
  have lc333_12 := (lf325_12).trans lk333
  have lc333_13 := (lf325_13).trans lk333
  have lc333_14 := (lf325_14).trans lk333
  have lc333_15 := (lf325_15).trans lk333
  have lc333_16 := (lf325_16).trans lk333
  have lc333_17 := (lf325_17).trans lk333
  have lc333_18 := (lf325_18).trans lk333
  have lc333_19 := (lf325_19).trans lk333
  have lc333_20 := (lf325_20).trans lk333
  have lc333_21 := (lf325_21).trans lk333
  have lc333_22 := (lf325_22).trans lk333
  have lc333_23 := (lf325_23).trans lk333
  have lc333_24 := (lf325_24).trans lk333
  have lc333_25 := (lf325_25).trans lk333
  have lc333_26 := (lf325_26).trans lk333
  have lc333_27 := (lf325_27).trans lk333
  have lc333_28 := (lf325_28).trans lk333
  have lc333_29 := (lf325_29).trans lk333
  have lc333_30 := (lf325_30).trans lk333
  have lc333_31 := (lf325_31).trans lk333
  have lc333_32 := (lf325_32).trans lk333
  have lc333_33 := (lf325_33).trans lk333
  have lc333_34 := (lf325_34).trans lk333
  have lc333_35 := (lf325_35).trans lk333
  have lc333_36 := (lf325_36).trans lk333
  have lc333_37 := (lf325_37).trans lk333
  have lc333_38 := (lf325_38).trans lk333
  have lc333_39 := (lf325_39).trans lk333
  have lc333_40 := (lf325_40).trans lk333
  have lc333_41 := (lf325_41).trans lk333
  have lc333_42 := (le325).trans lk333
  have S334 := U333
  dsimp only [lAa, lAn, lA0, lAs] at S334
  have lo_in333_1 := zbf in333_1; have hi_in333_1 := zbg in333_1
  refine p_v (v := .tuple #[.agg ((zad zeroD.part) ++ ([v333_0, v333_1] : List Value)).toArray, .int .i64 2]) rfl rfl rfl (zai rfl) <| p_v (v := .agg ((zad zeroD.part) ++ ([v333_0, v333_1] : List Value)).toArray) rfl rfl rfl (zb1 (vs := [.agg ((zad zeroD.part) ++ ([v333_0, v333_1] : List Value)).toArray, .int .i64 2]) rfl rfl) <| p_v (v := .int .i64 2) rfl rfl rfl (zb1 (vs := [.agg ((zad zeroD.part) ++ ([v333_0, v333_1] : List Value)).toArray, .int .i64 2]) rfl rfl) ?_
  obtain ⟨b335, w335, r335, g335, T335⟩ := zb0 (P := Tryd.prog) S334 35 (v := zv35) ((zad zPart) ++ ([.slice none 0 0, .slice none 0 0] : List Value)) (by kernel_rfl)
  have S336 := T335
  dsimp only [lAa, lAn, lA0, lAs] at S336
  refine p_v (v := .pointer (some ⟨b335, 0, none⟩)) rfl rfl rfl (zbr ty35 r335) ?_
  have oc338 := zcp S336 (j := 18) rfl
  have oc339 := zcp S336 (j := 19) rfl
  obtain ⟨w337, r337, g337, T337⟩ := za7 (P := Tryd.prog) (v := .agg ((zad zeroD.part) ++ ([v333_0, v333_1] : List Value)).toArray) (vs := ((zad zeroD.part) ++ ([v333_0, v333_1] : List Value))) (cs := ((zad zPart) ++ ([.slice none 0 0, .slice none 0 0] : List Value))) S336 ty35 rfl (zal (zaf ok333_0) rfl) (zal (zaf (zao)) rfl) (j := 20) rfl (zcc (zaz _) (zb8 oc338 (zb8 oc339 zdc)))
  have S340 := T337.fx 20 (box b335 35 ((zad zeroD.part) ++ ([v333_0, v333_1] : List Value))) rfl
  dsimp only [lAa, lAn, lA0, lAs] at S340
  refine p_s rfl rfl (za2 rfl rfl r337) <| p_v (v := .int .i64 2) rfl rfl rfl (zaj rfl) <| zac <| zag <| zah (l := [0, 1, 2, 3, 4, 5, 6, 7, 8, 9, 10, 11, 12, 13, 14, 15, 16, 17, 18, 19, 20, 21, 22, 23, 24, 25, 26, 27, 28, 29, 30, 31, 32, 33, 34, 35, 36]) rfl <| p_v (v := .int .i64 (errB zep (zap ([] : List BSet)))) rfl rfl rfl (zai rfl) <| p_v (v := .bool (decide ((errB zep (zap ([] : List BSet))) = 0))) rfl rfl rfl (x_eql rfl rfl) <| p_v (v := .bool (decide ((errB zep (zap ([] : List BSet))) = 0))) rfl rfl rfl (zai rfl) ?_
  have hc341 : ((errB zep (zap ([] : List BSet))) = 0) := by
   exact k_one
  refine p_v (v := .pointer (some ⟨b285, 257, none⟩)) rfl (wo 2 194 rfl rfl (bT hc341) rfl) rfl (zaq zef ty24 rfl rfl) <| p_v (v := .slice A281 ((zaa zep (zap ([] : List BSet))).next).length c281) rfl (wo 2 194 rfl rfl (bT hc341) rfl) rfl (zam (seg := [.slice A281 ((zaa zep (zap ([] : List BSet))).next).length c281]) ty24 rfl (by simp) rfl (CF.box (m := 1) (S340.box_at (j := 4) rfl) (zbc (a := (zad ((zaa zep (zap ([] : List BSet))).part))) (pre := []) (seg := [.slice A281 ((zaa zep (zap ([] : List BSet))).next).length c281]) (post := [.slice A283 ((zaa zep (zap ([] : List BSet))).final).length c283]) (zaf ok279_0) rfl rfl))) <| p_v (v := .int .i64 (((zaa zep (zap ([] : List BSet))).next).length : Int)) rfl (wo 2 194 rfl rfl (bT hc341) rfl) rfl (zbe u24 rfl) <| p_v (v := .bool (decide ((((zaa zep (zap ([] : List BSet))).next).length : Int) = 2))) rfl (wo 2 194 rfl rfl (bT hc341) rfl) rfl (x_eql rfl rfl) <| p_v (v := .bool (decide ((((zaa zep (zap ([] : List BSet))).next).length : Int) = 2))) rfl rfl rfl (zbs (bT hc341) rfl) <| p_v (v := .bool (decide ((((zaa zep (zap ([] : List BSet))).next).length : Int) = 2))) rfl rfl rfl (zai rfl) ?_
  have hc342 : ((((zaa zep (zap ([] : List BSet))).next).length : Int) = 2) := by
   exact k_one2
  refine p_v (v := .agg ((zad ((zaa zep (zap ([] : List BSet))).part)) ++ ([.slice A281 ((zaa zep (zap ([] : List BSet))).next).length c281, .slice A283 ((zaa zep (zap ([] : List BSet))).final).length c283] : List Value)).toArray) rfl (wo 8 200 rfl rfl (bT hc342) rfl) rfl (zam (seg := ((zad ((zaa zep (zap ([] : List BSet))).part)) ++ ([.slice A281 ((zaa zep (zap ([] : List BSet))).next).length c281, .slice A283 ((zaa zep (zap ([] : List BSet))).final).length c283] : List Value))) ty35 (zal (zaf ok279_0) rfl) (by simp) rfl (CF.box (m := 259) (S340.box_at (j := 4) rfl) (zaw (zal (zaf ok279_0) rfl)))) <| p_c rfl (wo 8 200 rfl rfl (bT hc342) rfl) rfl (zba (args := [.agg ((zad ((zaa zep (zap ([] : List BSet))).part)) ++ ([.slice A281 ((zaa zep (zap ([] : List BSet))).next).length c281, .slice A283 ((zaa zep (zap ([] : List BSet))).final).length c283] : List Value)).toArray, .string (⟨#[]⟩ : ByteArray)]) ca24 rfl rfl) (zd8 w337 (zaa zep (zap ([] : List BSet))) ok279_0 A281 c281 (And.intro lc281 cm281) (ld281.mono (lc333_28.trans S340.ghost)) A283 c283 (And.intro lc283 cm283) (ld283.mono (lc333_29.trans S340.ghost)) (⟨#[]⟩ : ByteArray) (by decide)) ?_
  rintro _ w343 ⟨h343, T343, rfl⟩
  have S344 := S340.keep (Chg.of_below T343.below)
  refine p_v (v := .bool (runD (zaa zep (zap ([] : List BSet))) (⟨#[]⟩ : ByteArray))) rfl rfl rfl (zbs (bT hc342) rfl) <| p_v (v := .bool (runD (zaa zep (zap ([] : List BSet))) (⟨#[]⟩ : ByteArray))) rfl rfl rfl (zai rfl) ?_
  have hc345 : (runD (zaa zep (zap ([] : List BSet))) (⟨#[]⟩ : ByteArray)) = true := by
   exact k_one3
  refine p_v (v := .agg ((zad ((zaa zep (zap ([] : List BSet))).part)) ++ ([.slice A281 ((zaa zep (zap ([] : List BSet))).next).length c281, .slice A283 ((zaa zep (zap ([] : List BSet))).final).length c283] : List Value)).toArray) rfl (wo 12 204 rfl rfl (congrArg Value.bool hc345) rfl) rfl (zam (seg := ((zad ((zaa zep (zap ([] : List BSet))).part)) ++ ([.slice A281 ((zaa zep (zap ([] : List BSet))).next).length c281, .slice A283 ((zaa zep (zap ([] : List BSet))).final).length c283] : List Value))) ty35 (zal (zaf ok279_0) rfl) (by simp) rfl (CF.box (m := 259) (S344.box_at (j := 4) rfl) (zaw (zal (zaf ok279_0) rfl)))) <| p_c rfl (wo 12 204 rfl rfl (congrArg Value.bool hc345) rfl) rfl (zba (args := [.agg ((zad ((zaa zep (zap ([] : List BSet))).part)) ++ ([.slice A281 ((zaa zep (zap ([] : List BSet))).next).length c281, .slice A283 ((zaa zep (zap ([] : List BSet))).final).length c283] : List Value)).toArray, .string (⟨#[120]⟩ : ByteArray)]) ca24 rfl rfl) (zd8 w343 (zaa zep (zap ([] : List BSet))) ok279_0 A281 c281 (And.intro lc281 cm281) (ld281.mono (lc333_28.trans S344.ghost)) A283 c283 (And.intro lc283 cm283) (ld283.mono (lc333_29.trans S344.ghost)) (⟨#[120]⟩ : ByteArray) (by decide)) ?_
  rintro _ w346 ⟨h346, T346, rfl⟩
  have S347 := S344.keep (Chg.of_below T346.below)
  refine p_v (v := .bool (!(runD (zaa zep (zap ([] : List BSet))) (⟨#[120]⟩ : ByteArray)))) rfl (wo 12 204 rfl rfl (congrArg Value.bool hc345) rfl) rfl (x_not rfl) <| p_v (v := .bool (!(runD (zaa zep (zap ([] : List BSet))) (⟨#[120]⟩ : ByteArray)))) rfl rfl rfl (zbs (congrArg Value.bool hc345) rfl) <| p_v (v := .bool (!(runD (zaa zep (zap ([] : List BSet))) (⟨#[120]⟩ : ByteArray)))) rfl rfl rfl (zai rfl) ?_
  have hc348 : (runD (zaa zep (zap ([] : List BSet))) (⟨#[120]⟩ : ByteArray)) = false := by
   exact k_one4
  refine p_v (v := .int .i64 (errO bK (zaa zep (zap ([] : List BSet))) 1)) rfl (wo 17 209 rfl rfl (congrArg (fun z => Value.bool (!z)) hc348) rfl) rfl (zai rfl) <| p_v (v := .bool (decide ((errO bK (zaa zep (zap ([] : List BSet))) 1) = 1))) rfl (wo 17 209 rfl rfl (congrArg (fun z => Value.bool (!z)) hc348) rfl) rfl (x_eql rfl rfl) <| p_v (v := .bool (decide ((errO bK (zaa zep (zap ([] : List BSet))) 1) = 1))) rfl rfl rfl (zbs (congrArg (fun z => Value.bool (!z)) hc348) rfl) <| p_v (v := .bool (decide ((errO bK (zaa zep (zap ([] : List BSet))) 1) = 1))) rfl rfl rfl (zai rfl) ?_
  have hc349 : ((errO bK (zaa zep (zap ([] : List BSet))) 1) = 1) := by
   exact k_io
  refine p_v (v := .int .i64 (errO bK bK 4)) rfl (wo 21 213 rfl rfl (bT hc349) rfl) rfl (zai rfl) <| p_v (v := .bool (decide ((errO bK bK 4) = 1))) rfl (wo 21 213 rfl rfl (bT hc349) rfl) rfl (x_eql rfl rfl) <| p_v (v := .bool (decide ((errO bK bK 4) = 1))) rfl rfl rfl (zbs (bT hc349) rfl) <| p_v (v := .bool (decide ((errO bK bK 4) = 1))) rfl rfl rfl (zai rfl) ?_
  have hc350 : ((errO bK bK 4) = 1) := by
   rw [zdy]; exact k_o4
  refine p_v (v := .int .i64 (errB zab (zap ([] : List BSet)))) rfl (wo 25 217 rfl rfl (bT hc350) rfl) rfl (zai rfl) <| p_v (v := .bool (decide ((errB zab (zap ([] : List BSet))) = 1))) rfl (wo 25 217 rfl rfl (bT hc350) rfl) rfl (x_eql rfl rfl) <| p_v (v := .bool (decide ((errB zab (zap ([] : List BSet))) = 1))) rfl rfl rfl (zbs (bT hc350) rfl) <| p_v (v := .bool (decide ((errB zab (zap ([] : List BSet))) = 1))) rfl rfl rfl (zai rfl) ?_
  have hc351 : ((errB zab (zap ([] : List BSet))) = 1) := by
   exact k_k
  refine p_v (v := .int .i64 2) rfl (wo 29 221 rfl rfl (bT hc351) rfl) rfl (zai rfl) <| p_v (v := .bool (decide ((2 : Int) = (2 : Int)))) rfl (wo 29 221 rfl rfl (bT hc351) rfl) rfl (x_eql rfl rfl) <| p_v (v := .bool (decide ((2 : Int) = (2 : Int)))) rfl rfl rfl (zbs (bT hc351) rfl) <| p_v (v := .bool (decide ((2 : Int) = (2 : Int)))) rfl rfl rfl (zai rfl) ?_
  have hc352 : ((2 : Int) = (2 : Int)) := by
   rfl
  refine p_c rfl (wo 33 225 rfl rfl (bT hc352) rfl) rfl (zba (args := []) ca19 rfl rfl) (awake11_calls w346  (Block.st S347 tb)) ?_
  rintro _ w353 ⟨h353, T353, rfl⟩
  have S354 := S347.keep (Chg.of_below T353.below)
  refine p_v (v := .bool true) rfl rfl rfl (zbs (bT hc352) rfl) <| p_v (v := .bool true) rfl rfl rfl (zaj rfl) <| zac <| zax Tryd.func9 (res1 rfl (za4 (v := .bool true) rfl)) ?_
  have q0 : (true : Bool) = true := rfl
  refine ⟨_, rfl, k333, ?_, ?_⟩
  · exact S354.sub [] (by decide) rfl _ rfl
  · rfl
 refine ra_three (i := 3) (i2 := 4) (i3 := 5) (by decide +kernel) ?_ ?_ ?_
 ·skip
  intro wd356 gd356
  have S357 := S138.keep gd356
  have hf358 := spUp gd356 hf139
  have hf359 := spUp gd356 hf140
  have hf360 := spUp gd356 hf141
  obtain ⟨b361, w361, r361, g361, T361⟩ := zb0 (P := Tryd.prog) S357 35 (v := zv35) ((zad zPart) ++ ([.slice none 0 0, .slice none 0 0] : List Value)) (by kernel_rfl)
  have S362 := T361
  dsimp only [lAa, lAn, lA0, lAs] at S362
  have hf363 := spUp g361 hf358
  have hf364 := spUp g361 hf359
  have hf365 := spUp g361 hf360
  refine d_v (v := .pointer (some ⟨b361, 0, none⟩)) rfl rfl rfl (zbr ty35 r361) (.inl g361) ?_
  refine ra_two (i := 4) (i2 := 5) (by decide +kernel) ?_ ?_
  ·skip
   intro wd366 gd366
   have S367 := S362.keep gd366
   have hf368 := spUp gd366 hf363
   have hf369 := spUp gd366 hf364
   have hf370 := spUp gd366 hf365
   obtain ⟨b371, w371, r371, g371, T371⟩ := zb0 (P := Tryd.prog) S367 35 (v := zv35) ((zad zPart) ++ ([.slice none 0 0, .slice none 0 0] : List Value)) (by kernel_rfl)
   have S372 := T371
   dsimp only [lAa, lAn, lA0, lAs] at S372
   have hf373 := spUp g371 hf368
   have hf374 := spUp g371 hf369
   have hf375 := spUp g371 hf370
   refine d_v (v := .pointer (some ⟨b371, 0, none⟩)) rfl rfl rfl (zbr ty35 r371) (.inl g371) <| zbo (i := 5) (by decide +kernel) ?_
   intro wd376 gd376
   have S377 := S372.keep gd376
   have hf378 := spUp gd376 hf373
   have hf379 := spUp gd376 hf374
   have hf380 := spUp gd376 hf375
   obtain ⟨b381, w381, r381, g381, T381⟩ := zb0 (P := Tryd.prog) S377 35 (v := zv35) ((zad zPart) ++ ([.slice none 0 0, .slice none 0 0] : List Value)) (by kernel_rfl)
   have S382 := T381
   dsimp only [lAa, lAn, lA0, lAs] at S382
   have hf383 := spUp g381 hf378
   have hf384 := spUp g381 hf379
   have hf385 := spUp g381 hf380
   refine d_v (v := .pointer (some ⟨b381, 0, none⟩)) rfl rfl rfl (zbr ty35 r381) (.inl g381) <| zbo (i := 6) (by decide +kernel) ?_
   intro wd386 gd386
   have S387 := S382.keep gd386
   have hf388 := spUp gd386 hf383
   have hf389 := spUp gd386 hf384
   have hf390 := spUp gd386 hf385
   obtain ⟨w391, r391, g391, T391⟩ := za7 (P := Tryd.prog) (v := .agg ((zad (xB.part)) ++ ([.slice A65 (xB.next).length c65, .slice A67 (xB.final).length c67] : List Value)).toArray) (vs := ((zad (xB.part)) ++ ([.slice A65 (xB.next).length c65, .slice A67 (xB.final).length c67] : List Value))) (cs := ((zad zPart) ++ ([.slice none 0 0, .slice none 0 0] : List Value))) S387 ty35 rfl (zal (zaf ok63_0) rfl) (zal (zaf (zao)) rfl) (j := 2) rfl (zcc (zaz _) (by simp [Value.oneCell']))
   have S392 := T391.fx 2 (box b361 35 ((zad (xB.part)) ++ ([.slice A65 (xB.next).length c65, .slice A67 (xB.final).length c67] : List Value))) rfl
   dsimp only [lAa, lAn, lA0, lAs] at S392
   have hf393 : (CFs ⟨b69, 0, none⟩ ((zad (xB.part)) ++ ([.slice A65 (xB.next).length c65, .slice A67 (xB.final).length c67] : List Value))).1 w391 := (CF.box (m := 259) (S392.box_at (j := 1) rfl) (zaw (zal (zaf ok63_0) rfl)))
   have hf394 : (CFs ⟨b69, 0, none⟩ ((zad (xB.part)) ++ ([.slice A65 (xB.next).length c65, .slice A67 (xB.final).length c67] : List Value))).1 w391 := (CF.box (m := 259) (S392.box_at (j := 1) rfl) (zaw (zal (zaf ok63_0) rfl)))
   have hf395 : (CFs ⟨b69, 0, none⟩ ((zad (xB.part)) ++ ([.slice A65 (xB.next).length c65, .slice A67 (xB.final).length c67] : List Value))).1 w391 := (CF.box (m := 259) (S392.box_at (j := 1) rfl) (zaw (zal (zaf ok63_0) rfl)))
   refine d_s rfl rfl (za2 rfl rfl r391) (.inr (za1 (by decide +kernel) (zbu hf394 (zbu hf395 trivial)))) <| zbo (i := 7) (by decide +kernel) ?_
   intro wd396 gd396
   have S397 := S392.keep gd396
   have hf398 := spUp gd396 hf393
   have hf399 := spUp gd396 hf394
   have hf400 := spUp gd396 hf395
   obtain ⟨w401, r401, g401, T401⟩ := za7 (P := Tryd.prog) (v := .agg ((zad (xB.part)) ++ ([.slice A65 (xB.next).length c65, .slice A67 (xB.final).length c67] : List Value)).toArray) (vs := ((zad (xB.part)) ++ ([.slice A65 (xB.next).length c65, .slice A67 (xB.final).length c67] : List Value))) (cs := ((zad zPart) ++ ([.slice none 0 0, .slice none 0 0] : List Value))) S397 ty35 rfl (zal (zaf ok63_0) rfl) (zal (zaf (zao)) rfl) (j := 3) rfl (zcc (zaz _) (by simp [Value.oneCell']))
   have S402 := T401.fx 3 (box b371 35 ((zad (xB.part)) ++ ([.slice A65 (xB.next).length c65, .slice A67 (xB.final).length c67] : List Value))) rfl
   dsimp only [lAa, lAn, lA0, lAs] at S402
   have hf403 : (CFs ⟨b69, 0, none⟩ ((zad (xB.part)) ++ ([.slice A65 (xB.next).length c65, .slice A67 (xB.final).length c67] : List Value))).1 w401 := (CF.box (m := 259) (S402.box_at (j := 1) rfl) (zaw (zal (zaf ok63_0) rfl)))
   have hf404 : (CFs ⟨b69, 0, none⟩ ((zad (xB.part)) ++ ([.slice A65 (xB.next).length c65, .slice A67 (xB.final).length c67] : List Value))).1 w401 := (CF.box (m := 259) (S402.box_at (j := 1) rfl) (zaw (zal (zaf ok63_0) rfl)))
   have hf405 : (CFs ⟨b69, 0, none⟩ ((zad (xB.part)) ++ ([.slice A65 (xB.next).length c65, .slice A67 (xB.final).length c67] : List Value))).1 w401 := (CF.box (m := 259) (S402.box_at (j := 1) rfl) (zaw (zal (zaf ok63_0) rfl)))
   refine d_s rfl rfl (za2 rfl rfl r401) (.inr (za1 (by decide +kernel) (za1 (by decide +kernel) (zbu hf405 trivial)))) <| zbo (i := 8) (by decide +kernel) ?_
   intro wd406 gd406
   have S407 := S402.keep gd406
   have hf408 := spUp gd406 hf403
   have hf409 := spUp gd406 hf404
   have hf410 := spUp gd406 hf405
   obtain ⟨w411, r411, g411, T411⟩ := za7 (P := Tryd.prog) (v := .agg ((zad (xB.part)) ++ ([.slice A65 (xB.next).length c65, .slice A67 (xB.final).length c67] : List Value)).toArray) (vs := ((zad (xB.part)) ++ ([.slice A65 (xB.next).length c65, .slice A67 (xB.final).length c67] : List Value))) (cs := ((zad zPart) ++ ([.slice none 0 0, .slice none 0 0] : List Value))) S407 ty35 rfl (zal (zaf ok63_0) rfl) (zal (zaf (zao)) rfl) (j := 4) rfl (zcc (zaz _) (by simp [Value.oneCell']))
   have S412 := T411.fx 4 (box b381 35 ((zad (xB.part)) ++ ([.slice A65 (xB.next).length c65, .slice A67 (xB.final).length c67] : List Value))) rfl
   dsimp only [lAa, lAn, lA0, lAs] at S412
   have hf413 : (CFs ⟨b69, 0, none⟩ ((zad (xB.part)) ++ ([.slice A65 (xB.next).length c65, .slice A67 (xB.final).length c67] : List Value))).1 w411 := (CF.box (m := 259) (S412.box_at (j := 1) rfl) (zaw (zal (zaf ok63_0) rfl)))
   have hf414 : (CFs ⟨b69, 0, none⟩ ((zad (xB.part)) ++ ([.slice A65 (xB.next).length c65, .slice A67 (xB.final).length c67] : List Value))).1 w411 := (CF.box (m := 259) (S412.box_at (j := 1) rfl) (zaw (zal (zaf ok63_0) rfl)))
   have hf415 : (CFs ⟨b69, 0, none⟩ ((zad (xB.part)) ++ ([.slice A65 (xB.next).length c65, .slice A67 (xB.final).length c67] : List Value))).1 w411 := (CF.box (m := 259) (S412.box_at (j := 1) rfl) (zaw (zal (zaf ok63_0) rfl)))
   refine d_s rfl rfl (za2 rfl rfl r411) (.inr (za1 (by decide +kernel) (za1 (by decide +kernel) (za1 (by decide +kernel) trivial)))) <| zcb (by decide +kernel) ?_
   intro wd416 gd416
   have S417 := S412.keep gd416
   exact jn204 _ _ ⟨h127, b361, b371, b381, (Le.refl _), S417.sub [0, 1, 2, 3, 4] (by decide) rfl _ rfl, r127_1, r127_6, rfl, rfl, rfl, ok13_0, ok63_0, ok63_0, ok63_0, ok63_0⟩
  intro wd418 gd418
  have S419 := S362.keep gd418
  have hf420 := spUp gd418 hf363
  have hf421 := spUp gd418 hf364
  have hf422 := spUp gd418 hf365
  obtain ⟨b423, w423, r423, g423, T423⟩ := zb0 (P := Tryd.prog) S419 35 (v := zv35) ((zad zPart) ++ ([.slice none 0 0, .slice none 0 0] : List Value)) (by kernel_rfl)
  have S424 := T423
  dsimp only [lAa, lAn, lA0, lAs] at S424
  have hf425 := spUp g423 hf420
  have hf426 := spUp g423 hf421
  have hf427 := spUp g423 hf422
  refine d_v (v := .pointer (some ⟨b423, 0, none⟩)) rfl rfl rfl (zbr ty35 r423) (.inl g423) <| zbo (i := 4) (by decide +kernel) ?_
  intro wd428 gd428
  have S429 := S424.keep gd428
  have hf430 := spUp gd428 hf425
  have hf431 := spUp gd428 hf426
  have hf432 := spUp gd428 hf427
  obtain ⟨b433, w433, r433, g433, T433⟩ := zb0 (P := Tryd.prog) S429 35 (v := zv35) ((zad zPart) ++ ([.slice none 0 0, .slice none 0 0] : List Value)) (by kernel_rfl)
  have S434 := T433
  dsimp only [lAa, lAn, lA0, lAs] at S434
  have hf435 := spUp g433 hf430
  have hf436 := spUp g433 hf431
  have hf437 := spUp g433 hf432
  refine d_v (v := .pointer (some ⟨b433, 0, none⟩)) rfl rfl rfl (zbr ty35 r433) (.inl g433) <| zbo (i := 6) (by decide +kernel) ?_
  intro wd438 gd438
  have S439 := S434.keep gd438
  have hf440 := spUp gd438 hf435
  have hf441 := spUp gd438 hf436
  have hf442 := spUp gd438 hf437
  obtain ⟨w443, r443, g443, T443⟩ := za7 (P := Tryd.prog) (v := .agg ((zad (xB.part)) ++ ([.slice A65 (xB.next).length c65, .slice A67 (xB.final).length c67] : List Value)).toArray) (vs := ((zad (xB.part)) ++ ([.slice A65 (xB.next).length c65, .slice A67 (xB.final).length c67] : List Value))) (cs := ((zad zPart) ++ ([.slice none 0 0, .slice none 0 0] : List Value))) S439 ty35 rfl (zal (zaf ok63_0) rfl) (zal (zaf (zao)) rfl) (j := 2) rfl (zcc (zaz _) (by simp [Value.oneCell']))
  have S444 := T443.fx 2 (box b361 35 ((zad (xB.part)) ++ ([.slice A65 (xB.next).length c65, .slice A67 (xB.final).length c67] : List Value))) rfl
  dsimp only [lAa, lAn, lA0, lAs] at S444
  have hf445 : (CFs ⟨b69, 0, none⟩ ((zad (xB.part)) ++ ([.slice A65 (xB.next).length c65, .slice A67 (xB.final).length c67] : List Value))).1 w443 := (CF.box (m := 259) (S444.box_at (j := 1) rfl) (zaw (zal (zaf ok63_0) rfl)))
  have hf446 : (CFs ⟨b69, 0, none⟩ ((zad (xB.part)) ++ ([.slice A65 (xB.next).length c65, .slice A67 (xB.final).length c67] : List Value))).1 w443 := (CF.box (m := 259) (S444.box_at (j := 1) rfl) (zaw (zal (zaf ok63_0) rfl)))
  have hf447 : (CFs ⟨b69, 0, none⟩ ((zad (xB.part)) ++ ([.slice A65 (xB.next).length c65, .slice A67 (xB.final).length c67] : List Value))).1 w443 := (CF.box (m := 259) (S444.box_at (j := 1) rfl) (zaw (zal (zaf ok63_0) rfl)))
  refine d_s rfl rfl (za2 rfl rfl r443) (.inr (za1 (by decide +kernel) (zbu hf446 (zbu hf447 trivial)))) <| zbo (i := 7) (by decide +kernel) ?_
  intro wd448 gd448
  have S449 := S444.keep gd448
  have hf450 := spUp gd448 hf445
  have hf451 := spUp gd448 hf446
  have hf452 := spUp gd448 hf447
  obtain ⟨w453, r453, g453, T453⟩ := za7 (P := Tryd.prog) (v := .agg ((zad (xB.part)) ++ ([.slice A65 (xB.next).length c65, .slice A67 (xB.final).length c67] : List Value)).toArray) (vs := ((zad (xB.part)) ++ ([.slice A65 (xB.next).length c65, .slice A67 (xB.final).length c67] : List Value))) (cs := ((zad zPart) ++ ([.slice none 0 0, .slice none 0 0] : List Value))) S449 ty35 rfl (zal (zaf ok63_0) rfl) (zal (zaf (zao)) rfl) (j := 4) rfl (zcc (zaz _) (by simp [Value.oneCell']))
  have S454 := T453.fx 4 (box b433 35 ((zad (xB.part)) ++ ([.slice A65 (xB.next).length c65, .slice A67 (xB.final).length c67] : List Value))) rfl
  dsimp only [lAa, lAn, lA0, lAs] at S454
  have hf455 : (CFs ⟨b69, 0, none⟩ ((zad (xB.part)) ++ ([.slice A65 (xB.next).length c65, .slice A67 (xB.final).length c67] : List Value))).1 w453 := (CF.box (m := 259) (S454.box_at (j := 1) rfl) (zaw (zal (zaf ok63_0) rfl)))
  have hf456 : (CFs ⟨b69, 0, none⟩ ((zad (xB.part)) ++ ([.slice A65 (xB.next).length c65, .slice A67 (xB.final).length c67] : List Value))).1 w453 := (CF.box (m := 259) (S454.box_at (j := 1) rfl) (zaw (zal (zaf ok63_0) rfl)))
  have hf457 : (CFs ⟨b69, 0, none⟩ ((zad (xB.part)) ++ ([.slice A65 (xB.next).length c65, .slice A67 (xB.final).length c67] : List Value))).1 w453 := (CF.box (m := 259) (S454.box_at (j := 1) rfl) (zaw (zal (zaf ok63_0) rfl)))
  refine d_s rfl rfl (za2 rfl rfl r453) (.inr (za1 (by decide +kernel) (za1 (by decide +kernel) (zbu hf457 trivial)))) <| zbo (i := 8) (by decide +kernel) ?_
  intro wd458 gd458
  have S459 := S454.keep gd458
  have hf460 := spUp gd458 hf455
  have hf461 := spUp gd458 hf456
  have hf462 := spUp gd458 hf457
  obtain ⟨w463, r463, g463, T463⟩ := za7 (P := Tryd.prog) (v := .agg ((zad (xB.part)) ++ ([.slice A65 (xB.next).length c65, .slice A67 (xB.final).length c67] : List Value)).toArray) (vs := ((zad (xB.part)) ++ ([.slice A65 (xB.next).length c65, .slice A67 (xB.final).length c67] : List Value))) (cs := ((zad zPart) ++ ([.slice none 0 0, .slice none 0 0] : List Value))) S459 ty35 rfl (zal (zaf ok63_0) rfl) (zal (zaf (zao)) rfl) (j := 3) rfl (zcc (zaz _) (by simp [Value.oneCell']))
  have S464 := T463.fx 3 (box b423 35 ((zad (xB.part)) ++ ([.slice A65 (xB.next).length c65, .slice A67 (xB.final).length c67] : List Value))) rfl
  dsimp only [lAa, lAn, lA0, lAs] at S464
  have hf465 : (CFs ⟨b69, 0, none⟩ ((zad (xB.part)) ++ ([.slice A65 (xB.next).length c65, .slice A67 (xB.final).length c67] : List Value))).1 w463 := (CF.box (m := 259) (S464.box_at (j := 1) rfl) (zaw (zal (zaf ok63_0) rfl)))
  have hf466 : (CFs ⟨b69, 0, none⟩ ((zad (xB.part)) ++ ([.slice A65 (xB.next).length c65, .slice A67 (xB.final).length c67] : List Value))).1 w463 := (CF.box (m := 259) (S464.box_at (j := 1) rfl) (zaw (zal (zaf ok63_0) rfl)))
  have hf467 : (CFs ⟨b69, 0, none⟩ ((zad (xB.part)) ++ ([.slice A65 (xB.next).length c65, .slice A67 (xB.final).length c67] : List Value))).1 w463 := (CF.box (m := 259) (S464.box_at (j := 1) rfl) (zaw (zal (zaf ok63_0) rfl)))
  refine d_s rfl rfl (za2 rfl rfl r463) (.inr (za1 (by decide +kernel) (za1 (by decide +kernel) (za1 (by decide +kernel) trivial)))) <| zcb (by decide +kernel) ?_
  intro wd468 gd468
  have S469 := S464.keep gd468
  exact jn204 _ _ ⟨h127, b361, b433, b423, (Le.refl _), S469.sub [0, 1, 2, 4, 3] (by decide) rfl _ rfl, r127_1, r127_6, rfl, rfl, rfl, ok13_0, ok63_0, ok63_0, ok63_0, ok63_0⟩
 ·skip
  intro wd470 gd470
  have S471 := S138.keep gd470
  have hf472 := spUp gd470 hf139
  have hf473 := spUp gd470 hf140
  have hf474 := spUp gd470 hf141
  obtain ⟨b475, w475, r475, g475, T475⟩ := zb0 (P := Tryd.prog) S471 35 (v := zv35) ((zad zPart) ++ ([.slice none 0 0, .slice none 0 0] : List Value)) (by kernel_rfl)
  have S476 := T475
  dsimp only [lAa, lAn, lA0, lAs] at S476
  have hf477 := spUp g475 hf472
  have hf478 := spUp g475 hf473
  have hf479 := spUp g475 hf474
  refine d_v (v := .pointer (some ⟨b475, 0, none⟩)) rfl rfl rfl (zbr ty35 r475) (.inl g475) ?_
  refine ra_two (i := 3) (i2 := 5) (by decide +kernel) ?_ ?_
  ·skip
   intro wd480 gd480
   have S481 := S476.keep gd480
   have hf482 := spUp gd480 hf477
   have hf483 := spUp gd480 hf478
   have hf484 := spUp gd480 hf479
   obtain ⟨b485, w485, r485, g485, T485⟩ := zb0 (P := Tryd.prog) S481 35 (v := zv35) ((zad zPart) ++ ([.slice none 0 0, .slice none 0 0] : List Value)) (by kernel_rfl)
   have S486 := T485
   dsimp only [lAa, lAn, lA0, lAs] at S486
   have hf487 := spUp g485 hf482
   have hf488 := spUp g485 hf483
   have hf489 := spUp g485 hf484
   refine d_v (v := .pointer (some ⟨b485, 0, none⟩)) rfl rfl rfl (zbr ty35 r485) (.inl g485) <| zbo (i := 5) (by decide +kernel) ?_
   intro wd490 gd490
   have S491 := S486.keep gd490
   have hf492 := spUp gd490 hf487
   have hf493 := spUp gd490 hf488
   have hf494 := spUp gd490 hf489
   obtain ⟨b495, w495, r495, g495, T495⟩ := zb0 (P := Tryd.prog) S491 35 (v := zv35) ((zad zPart) ++ ([.slice none 0 0, .slice none 0 0] : List Value)) (by kernel_rfl)
   have S496 := T495
   dsimp only [lAa, lAn, lA0, lAs] at S496
   have hf497 := spUp g495 hf492
   have hf498 := spUp g495 hf493
   have hf499 := spUp g495 hf494
   refine d_v (v := .pointer (some ⟨b495, 0, none⟩)) rfl rfl rfl (zbr ty35 r495) (.inl g495) <| zbo (i := 6) (by decide +kernel) ?_
   intro wd500 gd500
   have S501 := S496.keep gd500
   have hf502 := spUp gd500 hf497
   have hf503 := spUp gd500 hf498
   have hf504 := spUp gd500 hf499
   obtain ⟨w505, r505, g505, T505⟩ := za7 (P := Tryd.prog) (v := .agg ((zad (xB.part)) ++ ([.slice A65 (xB.next).length c65, .slice A67 (xB.final).length c67] : List Value)).toArray) (vs := ((zad (xB.part)) ++ ([.slice A65 (xB.next).length c65, .slice A67 (xB.final).length c67] : List Value))) (cs := ((zad zPart) ++ ([.slice none 0 0, .slice none 0 0] : List Value))) S501 ty35 rfl (zal (zaf ok63_0) rfl) (zal (zaf (zao)) rfl) (j := 3) rfl (zcc (zaz _) (by simp [Value.oneCell']))
   have S506 := T505.fx 3 (box b485 35 ((zad (xB.part)) ++ ([.slice A65 (xB.next).length c65, .slice A67 (xB.final).length c67] : List Value))) rfl
   dsimp only [lAa, lAn, lA0, lAs] at S506
   have hf507 : (CFs ⟨b69, 0, none⟩ ((zad (xB.part)) ++ ([.slice A65 (xB.next).length c65, .slice A67 (xB.final).length c67] : List Value))).1 w505 := (CF.box (m := 259) (S506.box_at (j := 1) rfl) (zaw (zal (zaf ok63_0) rfl)))
   have hf508 : (CFs ⟨b69, 0, none⟩ ((zad (xB.part)) ++ ([.slice A65 (xB.next).length c65, .slice A67 (xB.final).length c67] : List Value))).1 w505 := (CF.box (m := 259) (S506.box_at (j := 1) rfl) (zaw (zal (zaf ok63_0) rfl)))
   have hf509 : (CFs ⟨b69, 0, none⟩ ((zad (xB.part)) ++ ([.slice A65 (xB.next).length c65, .slice A67 (xB.final).length c67] : List Value))).1 w505 := (CF.box (m := 259) (S506.box_at (j := 1) rfl) (zaw (zal (zaf ok63_0) rfl)))
   refine d_s rfl rfl (za2 rfl rfl r505) (.inr (za1 (by decide +kernel) (zbu hf508 (zbu hf509 trivial)))) <| zbo (i := 7) (by decide +kernel) ?_
   intro wd510 gd510
   have S511 := S506.keep gd510
   have hf512 := spUp gd510 hf507
   have hf513 := spUp gd510 hf508
   have hf514 := spUp gd510 hf509
   obtain ⟨w515, r515, g515, T515⟩ := za7 (P := Tryd.prog) (v := .agg ((zad (xB.part)) ++ ([.slice A65 (xB.next).length c65, .slice A67 (xB.final).length c67] : List Value)).toArray) (vs := ((zad (xB.part)) ++ ([.slice A65 (xB.next).length c65, .slice A67 (xB.final).length c67] : List Value))) (cs := ((zad zPart) ++ ([.slice none 0 0, .slice none 0 0] : List Value))) S511 ty35 rfl (zal (zaf ok63_0) rfl) (zal (zaf (zao)) rfl) (j := 2) rfl (zcc (zaz _) (by simp [Value.oneCell']))
   have S516 := T515.fx 2 (box b475 35 ((zad (xB.part)) ++ ([.slice A65 (xB.next).length c65, .slice A67 (xB.final).length c67] : List Value))) rfl
   dsimp only [lAa, lAn, lA0, lAs] at S516
   have hf517 : (CFs ⟨b69, 0, none⟩ ((zad (xB.part)) ++ ([.slice A65 (xB.next).length c65, .slice A67 (xB.final).length c67] : List Value))).1 w515 := (CF.box (m := 259) (S516.box_at (j := 1) rfl) (zaw (zal (zaf ok63_0) rfl)))
   have hf518 : (CFs ⟨b69, 0, none⟩ ((zad (xB.part)) ++ ([.slice A65 (xB.next).length c65, .slice A67 (xB.final).length c67] : List Value))).1 w515 := (CF.box (m := 259) (S516.box_at (j := 1) rfl) (zaw (zal (zaf ok63_0) rfl)))
   have hf519 : (CFs ⟨b69, 0, none⟩ ((zad (xB.part)) ++ ([.slice A65 (xB.next).length c65, .slice A67 (xB.final).length c67] : List Value))).1 w515 := (CF.box (m := 259) (S516.box_at (j := 1) rfl) (zaw (zal (zaf ok63_0) rfl)))
   refine d_s rfl rfl (za2 rfl rfl r515) (.inr (za1 (by decide +kernel) (za1 (by decide +kernel) (zbu hf519 trivial)))) <| zbo (i := 8) (by decide +kernel) ?_
   intro wd520 gd520
   have S521 := S516.keep gd520
   have hf522 := spUp gd520 hf517
   have hf523 := spUp gd520 hf518
   have hf524 := spUp gd520 hf519
   obtain ⟨w525, r525, g525, T525⟩ := za7 (P := Tryd.prog) (v := .agg ((zad (xB.part)) ++ ([.slice A65 (xB.next).length c65, .slice A67 (xB.final).length c67] : List Value)).toArray) (vs := ((zad (xB.part)) ++ ([.slice A65 (xB.next).length c65, .slice A67 (xB.final).length c67] : List Value))) (cs := ((zad zPart) ++ ([.slice none 0 0, .slice none 0 0] : List Value))) S521 ty35 rfl (zal (zaf ok63_0) rfl) (zal (zaf (zao)) rfl) (j := 4) rfl (zcc (zaz _) (by simp [Value.oneCell']))
   have S526 := T525.fx 4 (box b495 35 ((zad (xB.part)) ++ ([.slice A65 (xB.next).length c65, .slice A67 (xB.final).length c67] : List Value))) rfl
   dsimp only [lAa, lAn, lA0, lAs] at S526
   have hf527 : (CFs ⟨b69, 0, none⟩ ((zad (xB.part)) ++ ([.slice A65 (xB.next).length c65, .slice A67 (xB.final).length c67] : List Value))).1 w525 := (CF.box (m := 259) (S526.box_at (j := 1) rfl) (zaw (zal (zaf ok63_0) rfl)))
   have hf528 : (CFs ⟨b69, 0, none⟩ ((zad (xB.part)) ++ ([.slice A65 (xB.next).length c65, .slice A67 (xB.final).length c67] : List Value))).1 w525 := (CF.box (m := 259) (S526.box_at (j := 1) rfl) (zaw (zal (zaf ok63_0) rfl)))
   have hf529 : (CFs ⟨b69, 0, none⟩ ((zad (xB.part)) ++ ([.slice A65 (xB.next).length c65, .slice A67 (xB.final).length c67] : List Value))).1 w525 := (CF.box (m := 259) (S526.box_at (j := 1) rfl) (zaw (zal (zaf ok63_0) rfl)))
   refine d_s rfl rfl (za2 rfl rfl r525) (.inr (za1 (by decide +kernel) (za1 (by decide +kernel) (za1 (by decide +kernel) trivial)))) <| zcb (by decide +kernel) ?_
   intro wd530 gd530
   have S531 := S526.keep gd530
   exact jn204 _ _ ⟨h127, b485, b475, b495, (Le.refl _), S531.sub [0, 1, 3, 2, 4] (by decide) rfl _ rfl, r127_1, r127_6, rfl, rfl, rfl, ok13_0, ok63_0, ok63_0, ok63_0, ok63_0⟩
  intro wd532 gd532
  have S533 := S476.keep gd532
  have hf534 := spUp gd532 hf477
  have hf535 := spUp gd532 hf478
  have hf536 := spUp gd532 hf479
  obtain ⟨b537, w537, r537, g537, T537⟩ := zb0 (P := Tryd.prog) S533 35 (v := zv35) ((zad zPart) ++ ([.slice none 0 0, .slice none 0 0] : List Value)) (by kernel_rfl)
  have S538 := T537
  dsimp only [lAa, lAn, lA0, lAs] at S538
  have hf539 := spUp g537 hf534
  have hf540 := spUp g537 hf535
  have hf541 := spUp g537 hf536
  refine d_v (v := .pointer (some ⟨b537, 0, none⟩)) rfl rfl rfl (zbr ty35 r537) (.inl g537) <| zbo (i := 3) (by decide +kernel) ?_
  intro wd542 gd542
  have S543 := S538.keep gd542
  have hf544 := spUp gd542 hf539
  have hf545 := spUp gd542 hf540
  have hf546 := spUp gd542 hf541
  obtain ⟨b547, w547, r547, g547, T547⟩ := zb0 (P := Tryd.prog) S543 35 (v := zv35) ((zad zPart) ++ ([.slice none 0 0, .slice none 0 0] : List Value)) (by kernel_rfl)
  have S548 := T547
  dsimp only [lAa, lAn, lA0, lAs] at S548
  have hf549 := spUp g547 hf544
  have hf550 := spUp g547 hf545
  have hf551 := spUp g547 hf546
  refine d_v (v := .pointer (some ⟨b547, 0, none⟩)) rfl rfl rfl (zbr ty35 r547) (.inl g547) <| zbo (i := 6) (by decide +kernel) ?_
  intro wd552 gd552
  have S553 := S548.keep gd552
  have hf554 := spUp gd552 hf549
  have hf555 := spUp gd552 hf550
  have hf556 := spUp gd552 hf551
  obtain ⟨w557, r557, g557, T557⟩ := za7 (P := Tryd.prog) (v := .agg ((zad (xB.part)) ++ ([.slice A65 (xB.next).length c65, .slice A67 (xB.final).length c67] : List Value)).toArray) (vs := ((zad (xB.part)) ++ ([.slice A65 (xB.next).length c65, .slice A67 (xB.final).length c67] : List Value))) (cs := ((zad zPart) ++ ([.slice none 0 0, .slice none 0 0] : List Value))) S553 ty35 rfl (zal (zaf ok63_0) rfl) (zal (zaf (zao)) rfl) (j := 4) rfl (zcc (zaz _) (by simp [Value.oneCell']))
  have S558 := T557.fx 4 (box b547 35 ((zad (xB.part)) ++ ([.slice A65 (xB.next).length c65, .slice A67 (xB.final).length c67] : List Value))) rfl
  dsimp only [lAa, lAn, lA0, lAs] at S558
  have hf559 : (CFs ⟨b69, 0, none⟩ ((zad (xB.part)) ++ ([.slice A65 (xB.next).length c65, .slice A67 (xB.final).length c67] : List Value))).1 w557 := (CF.box (m := 259) (S558.box_at (j := 1) rfl) (zaw (zal (zaf ok63_0) rfl)))
  have hf560 : (CFs ⟨b69, 0, none⟩ ((zad (xB.part)) ++ ([.slice A65 (xB.next).length c65, .slice A67 (xB.final).length c67] : List Value))).1 w557 := (CF.box (m := 259) (S558.box_at (j := 1) rfl) (zaw (zal (zaf ok63_0) rfl)))
  have hf561 : (CFs ⟨b69, 0, none⟩ ((zad (xB.part)) ++ ([.slice A65 (xB.next).length c65, .slice A67 (xB.final).length c67] : List Value))).1 w557 := (CF.box (m := 259) (S558.box_at (j := 1) rfl) (zaw (zal (zaf ok63_0) rfl)))
  refine d_s rfl rfl (za2 rfl rfl r557) (.inr (za1 (by decide +kernel) (zbu hf560 (zbu hf561 trivial)))) <| zbo (i := 7) (by decide +kernel) ?_
  intro wd562 gd562
  have S563 := S558.keep gd562
  have hf564 := spUp gd562 hf559
  have hf565 := spUp gd562 hf560
  have hf566 := spUp gd562 hf561
  obtain ⟨w567, r567, g567, T567⟩ := za7 (P := Tryd.prog) (v := .agg ((zad (xB.part)) ++ ([.slice A65 (xB.next).length c65, .slice A67 (xB.final).length c67] : List Value)).toArray) (vs := ((zad (xB.part)) ++ ([.slice A65 (xB.next).length c65, .slice A67 (xB.final).length c67] : List Value))) (cs := ((zad zPart) ++ ([.slice none 0 0, .slice none 0 0] : List Value))) S563 ty35 rfl (zal (zaf ok63_0) rfl) (zal (zaf (zao)) rfl) (j := 2) rfl (zcc (zaz _) (by simp [Value.oneCell']))
  have S568 := T567.fx 2 (box b475 35 ((zad (xB.part)) ++ ([.slice A65 (xB.next).length c65, .slice A67 (xB.final).length c67] : List Value))) rfl
  dsimp only [lAa, lAn, lA0, lAs] at S568
  have hf569 : (CFs ⟨b69, 0, none⟩ ((zad (xB.part)) ++ ([.slice A65 (xB.next).length c65, .slice A67 (xB.final).length c67] : List Value))).1 w567 := (CF.box (m := 259) (S568.box_at (j := 1) rfl) (zaw (zal (zaf ok63_0) rfl)))
  have hf570 : (CFs ⟨b69, 0, none⟩ ((zad (xB.part)) ++ ([.slice A65 (xB.next).length c65, .slice A67 (xB.final).length c67] : List Value))).1 w567 := (CF.box (m := 259) (S568.box_at (j := 1) rfl) (zaw (zal (zaf ok63_0) rfl)))
  have hf571 : (CFs ⟨b69, 0, none⟩ ((zad (xB.part)) ++ ([.slice A65 (xB.next).length c65, .slice A67 (xB.final).length c67] : List Value))).1 w567 := (CF.box (m := 259) (S568.box_at (j := 1) rfl) (zaw (zal (zaf ok63_0) rfl)))
  refine d_s rfl rfl (za2 rfl rfl r567) (.inr (za1 (by decide +kernel) (za1 (by decide +kernel) (zbu hf571 trivial)))) <| zbo (i := 8) (by decide +kernel) ?_
  intro wd572 gd572
  have S573 := S568.keep gd572
  have hf574 := spUp gd572 hf569
  have hf575 := spUp gd572 hf570
  have hf576 := spUp gd572 hf571
  obtain ⟨w577, r577, g577, T577⟩ := za7 (P := Tryd.prog) (v := .agg ((zad (xB.part)) ++ ([.slice A65 (xB.next).length c65, .slice A67 (xB.final).length c67] : List Value)).toArray) (vs := ((zad (xB.part)) ++ ([.slice A65 (xB.next).length c65, .slice A67 (xB.final).length c67] : List Value))) (cs := ((zad zPart) ++ ([.slice none 0 0, .slice none 0 0] : List Value))) S573 ty35 rfl (zal (zaf ok63_0) rfl) (zal (zaf (zao)) rfl) (j := 3) rfl (zcc (zaz _) (by simp [Value.oneCell']))
  have S578 := T577.fx 3 (box b537 35 ((zad (xB.part)) ++ ([.slice A65 (xB.next).length c65, .slice A67 (xB.final).length c67] : List Value))) rfl
  dsimp only [lAa, lAn, lA0, lAs] at S578
  have hf579 : (CFs ⟨b69, 0, none⟩ ((zad (xB.part)) ++ ([.slice A65 (xB.next).length c65, .slice A67 (xB.final).length c67] : List Value))).1 w577 := (CF.box (m := 259) (S578.box_at (j := 1) rfl) (zaw (zal (zaf ok63_0) rfl)))
  have hf580 : (CFs ⟨b69, 0, none⟩ ((zad (xB.part)) ++ ([.slice A65 (xB.next).length c65, .slice A67 (xB.final).length c67] : List Value))).1 w577 := (CF.box (m := 259) (S578.box_at (j := 1) rfl) (zaw (zal (zaf ok63_0) rfl)))
  have hf581 : (CFs ⟨b69, 0, none⟩ ((zad (xB.part)) ++ ([.slice A65 (xB.next).length c65, .slice A67 (xB.final).length c67] : List Value))).1 w577 := (CF.box (m := 259) (S578.box_at (j := 1) rfl) (zaw (zal (zaf ok63_0) rfl)))
  refine d_s rfl rfl (za2 rfl rfl r577) (.inr (za1 (by decide +kernel) (za1 (by decide +kernel) (za1 (by decide +kernel) trivial)))) <| zcb (by decide +kernel) ?_
  intro wd582 gd582
  have S583 := S578.keep gd582
  exact jn204 _ _ ⟨h127, b547, b475, b537, (Le.refl _), S583.sub [0, 1, 4, 2, 3] (by decide) rfl _ rfl, r127_1, r127_6, rfl, rfl, rfl, ok13_0, ok63_0, ok63_0, ok63_0, ok63_0⟩
 intro wd584 gd584
 have S585 := S138.keep gd584
 have hf586 := spUp gd584 hf139
 have hf587 := spUp gd584 hf140
 have hf588 := spUp gd584 hf141
 obtain ⟨b589, w589, r589, g589, T589⟩ := zb0 (P := Tryd.prog) S585 35 (v := zv35) ((zad zPart) ++ ([.slice none 0 0, .slice none 0 0] : List Value)) (by kernel_rfl)
 have S590 := T589
 dsimp only [lAa, lAn, lA0, lAs] at S590
 have hf591 := spUp g589 hf586
 have hf592 := spUp g589 hf587
 have hf593 := spUp g589 hf588
 refine d_v (v := .pointer (some ⟨b589, 0, none⟩)) rfl rfl rfl (zbr ty35 r589) (.inl g589) ?_
 refine ra_two (i := 3) (i2 := 4) (by decide +kernel) ?_ ?_
 ·skip
  intro wd594 gd594
  have S595 := S590.keep gd594
  have hf596 := spUp gd594 hf591
  have hf597 := spUp gd594 hf592
  have hf598 := spUp gd594 hf593
  obtain ⟨b599, w599, r599, g599, T599⟩ := zb0 (P := Tryd.prog) S595 35 (v := zv35) ((zad zPart) ++ ([.slice none 0 0, .slice none 0 0] : List Value)) (by kernel_rfl)
  have S600 := T599
  dsimp only [lAa, lAn, lA0, lAs] at S600
  have hf601 := spUp g599 hf596
  have hf602 := spUp g599 hf597
  have hf603 := spUp g599 hf598
  refine d_v (v := .pointer (some ⟨b599, 0, none⟩)) rfl rfl rfl (zbr ty35 r599) (.inl g599) <| zbo (i := 4) (by decide +kernel) ?_
  intro wd604 gd604
  have S605 := S600.keep gd604
  have hf606 := spUp gd604 hf601
  have hf607 := spUp gd604 hf602
  have hf608 := spUp gd604 hf603
  obtain ⟨b609, w609, r609, g609, T609⟩ := zb0 (P := Tryd.prog) S605 35 (v := zv35) ((zad zPart) ++ ([.slice none 0 0, .slice none 0 0] : List Value)) (by kernel_rfl)
  have S610 := T609
  dsimp only [lAa, lAn, lA0, lAs] at S610
  have hf611 := spUp g609 hf606
  have hf612 := spUp g609 hf607
  have hf613 := spUp g609 hf608
  refine d_v (v := .pointer (some ⟨b609, 0, none⟩)) rfl rfl rfl (zbr ty35 r609) (.inl g609) <| zbo (i := 6) (by decide +kernel) ?_
  intro wd614 gd614
  have S615 := S610.keep gd614
  have hf616 := spUp gd614 hf611
  have hf617 := spUp gd614 hf612
  have hf618 := spUp gd614 hf613
  obtain ⟨w619, r619, g619, T619⟩ := za7 (P := Tryd.prog) (v := .agg ((zad (xB.part)) ++ ([.slice A65 (xB.next).length c65, .slice A67 (xB.final).length c67] : List Value)).toArray) (vs := ((zad (xB.part)) ++ ([.slice A65 (xB.next).length c65, .slice A67 (xB.final).length c67] : List Value))) (cs := ((zad zPart) ++ ([.slice none 0 0, .slice none 0 0] : List Value))) S615 ty35 rfl (zal (zaf ok63_0) rfl) (zal (zaf (zao)) rfl) (j := 3) rfl (zcc (zaz _) (by simp [Value.oneCell']))
  have S620 := T619.fx 3 (box b599 35 ((zad (xB.part)) ++ ([.slice A65 (xB.next).length c65, .slice A67 (xB.final).length c67] : List Value))) rfl
  dsimp only [lAa, lAn, lA0, lAs] at S620
  have hf621 : (CFs ⟨b69, 0, none⟩ ((zad (xB.part)) ++ ([.slice A65 (xB.next).length c65, .slice A67 (xB.final).length c67] : List Value))).1 w619 := (CF.box (m := 259) (S620.box_at (j := 1) rfl) (zaw (zal (zaf ok63_0) rfl)))
  have hf622 : (CFs ⟨b69, 0, none⟩ ((zad (xB.part)) ++ ([.slice A65 (xB.next).length c65, .slice A67 (xB.final).length c67] : List Value))).1 w619 := (CF.box (m := 259) (S620.box_at (j := 1) rfl) (zaw (zal (zaf ok63_0) rfl)))
  have hf623 : (CFs ⟨b69, 0, none⟩ ((zad (xB.part)) ++ ([.slice A65 (xB.next).length c65, .slice A67 (xB.final).length c67] : List Value))).1 w619 := (CF.box (m := 259) (S620.box_at (j := 1) rfl) (zaw (zal (zaf ok63_0) rfl)))
  refine d_s rfl rfl (za2 rfl rfl r619) (.inr (za1 (by decide +kernel) (zbu hf622 (zbu hf623 trivial)))) <| zbo (i := 7) (by decide +kernel) ?_
  intro wd624 gd624
  have S625 := S620.keep gd624
  have hf626 := spUp gd624 hf621
  have hf627 := spUp gd624 hf622
  have hf628 := spUp gd624 hf623
  obtain ⟨w629, r629, g629, T629⟩ := za7 (P := Tryd.prog) (v := .agg ((zad (xB.part)) ++ ([.slice A65 (xB.next).length c65, .slice A67 (xB.final).length c67] : List Value)).toArray) (vs := ((zad (xB.part)) ++ ([.slice A65 (xB.next).length c65, .slice A67 (xB.final).length c67] : List Value))) (cs := ((zad zPart) ++ ([.slice none 0 0, .slice none 0 0] : List Value))) S625 ty35 rfl (zal (zaf ok63_0) rfl) (zal (zaf (zao)) rfl) (j := 4) rfl (zcc (zaz _) (by simp [Value.oneCell']))
  have S630 := T629.fx 4 (box b609 35 ((zad (xB.part)) ++ ([.slice A65 (xB.next).length c65, .slice A67 (xB.final).length c67] : List Value))) rfl
  dsimp only [lAa, lAn, lA0, lAs] at S630
  have hf631 : (CFs ⟨b69, 0, none⟩ ((zad (xB.part)) ++ ([.slice A65 (xB.next).length c65, .slice A67 (xB.final).length c67] : List Value))).1 w629 := (CF.box (m := 259) (S630.box_at (j := 1) rfl) (zaw (zal (zaf ok63_0) rfl)))
  have hf632 : (CFs ⟨b69, 0, none⟩ ((zad (xB.part)) ++ ([.slice A65 (xB.next).length c65, .slice A67 (xB.final).length c67] : List Value))).1 w629 := (CF.box (m := 259) (S630.box_at (j := 1) rfl) (zaw (zal (zaf ok63_0) rfl)))
  have hf633 : (CFs ⟨b69, 0, none⟩ ((zad (xB.part)) ++ ([.slice A65 (xB.next).length c65, .slice A67 (xB.final).length c67] : List Value))).1 w629 := (CF.box (m := 259) (S630.box_at (j := 1) rfl) (zaw (zal (zaf ok63_0) rfl)))
  refine d_s rfl rfl (za2 rfl rfl r629) (.inr (za1 (by decide +kernel) (za1 (by decide +kernel) (zbu hf633 trivial)))) <| zbo (i := 8) (by decide +kernel) ?_
  intro wd634 gd634
  have S635 := S630.keep gd634
  have hf636 := spUp gd634 hf631
  have hf637 := spUp gd634 hf632
  have hf638 := spUp gd634 hf633
  obtain ⟨w639, r639, g639, T639⟩ := za7 (P := Tryd.prog) (v := .agg ((zad (xB.part)) ++ ([.slice A65 (xB.next).length c65, .slice A67 (xB.final).length c67] : List Value)).toArray) (vs := ((zad (xB.part)) ++ ([.slice A65 (xB.next).length c65, .slice A67 (xB.final).length c67] : List Value))) (cs := ((zad zPart) ++ ([.slice none 0 0, .slice none 0 0] : List Value))) S635 ty35 rfl (zal (zaf ok63_0) rfl) (zal (zaf (zao)) rfl) (j := 2) rfl (zcc (zaz _) (by simp [Value.oneCell']))
  have S640 := T639.fx 2 (box b589 35 ((zad (xB.part)) ++ ([.slice A65 (xB.next).length c65, .slice A67 (xB.final).length c67] : List Value))) rfl
  dsimp only [lAa, lAn, lA0, lAs] at S640
  have hf641 : (CFs ⟨b69, 0, none⟩ ((zad (xB.part)) ++ ([.slice A65 (xB.next).length c65, .slice A67 (xB.final).length c67] : List Value))).1 w639 := (CF.box (m := 259) (S640.box_at (j := 1) rfl) (zaw (zal (zaf ok63_0) rfl)))
  have hf642 : (CFs ⟨b69, 0, none⟩ ((zad (xB.part)) ++ ([.slice A65 (xB.next).length c65, .slice A67 (xB.final).length c67] : List Value))).1 w639 := (CF.box (m := 259) (S640.box_at (j := 1) rfl) (zaw (zal (zaf ok63_0) rfl)))
  have hf643 : (CFs ⟨b69, 0, none⟩ ((zad (xB.part)) ++ ([.slice A65 (xB.next).length c65, .slice A67 (xB.final).length c67] : List Value))).1 w639 := (CF.box (m := 259) (S640.box_at (j := 1) rfl) (zaw (zal (zaf ok63_0) rfl)))
  refine d_s rfl rfl (za2 rfl rfl r639) (.inr (za1 (by decide +kernel) (za1 (by decide +kernel) (za1 (by decide +kernel) trivial)))) <| zcb (by decide +kernel) ?_
  intro wd644 gd644
  have S645 := S640.keep gd644
  exact jn204 _ _ ⟨h127, b599, b609, b589, (Le.refl _), S645.sub [0, 1, 3, 4, 2] (by decide) rfl _ rfl, r127_1, r127_6, rfl, rfl, rfl, ok13_0, ok63_0, ok63_0, ok63_0, ok63_0⟩
 intro wd646 gd646
 have S647 := S590.keep gd646
 have hf648 := spUp gd646 hf591
 have hf649 := spUp gd646 hf592
 have hf650 := spUp gd646 hf593
 obtain ⟨b651, w651, r651, g651, T651⟩ := zb0 (P := Tryd.prog) S647 35 (v := zv35) ((zad zPart) ++ ([.slice none 0 0, .slice none 0 0] : List Value)) (by kernel_rfl)
 have S652 := T651
 dsimp only [lAa, lAn, lA0, lAs] at S652
 have hf653 := spUp g651 hf648
 have hf654 := spUp g651 hf649
 have hf655 := spUp g651 hf650
 refine d_v (v := .pointer (some ⟨b651, 0, none⟩)) rfl rfl rfl (zbr ty35 r651) (.inl g651) <| zbo (i := 3) (by decide +kernel) ?_
 intro wd656 gd656
 have S657 := S652.keep gd656
 have hf658 := spUp gd656 hf653
 have hf659 := spUp gd656 hf654
 have hf660 := spUp gd656 hf655
 obtain ⟨b661, w661, r661, g661, T661⟩ := zb0 (P := Tryd.prog) S657 35 (v := zv35) ((zad zPart) ++ ([.slice none 0 0, .slice none 0 0] : List Value)) (by kernel_rfl)
 have S662 := T661
 dsimp only [lAa, lAn, lA0, lAs] at S662
 have hf663 := spUp g661 hf658
 have hf664 := spUp g661 hf659
 have hf665 := spUp g661 hf660
 refine d_v (v := .pointer (some ⟨b661, 0, none⟩)) rfl rfl rfl (zbr ty35 r661) (.inl g661) <| zbo (i := 6) (by decide +kernel) ?_
 intro wd666 gd666
 have S667 := S662.keep gd666
 have hf668 := spUp gd666 hf663
 have hf669 := spUp gd666 hf664
 have hf670 := spUp gd666 hf665
 obtain ⟨w671, r671, g671, T671⟩ := za7 (P := Tryd.prog) (v := .agg ((zad (xB.part)) ++ ([.slice A65 (xB.next).length c65, .slice A67 (xB.final).length c67] : List Value)).toArray) (vs := ((zad (xB.part)) ++ ([.slice A65 (xB.next).length c65, .slice A67 (xB.final).length c67] : List Value))) (cs := ((zad zPart) ++ ([.slice none 0 0, .slice none 0 0] : List Value))) S667 ty35 rfl (zal (zaf ok63_0) rfl) (zal (zaf (zao)) rfl) (j := 4) rfl (zcc (zaz _) (by simp [Value.oneCell']))
 have S672 := T671.fx 4 (box b661 35 ((zad (xB.part)) ++ ([.slice A65 (xB.next).length c65, .slice A67 (xB.final).length c67] : List Value))) rfl
 dsimp only [lAa, lAn, lA0, lAs] at S672
 have hf673 : (CFs ⟨b69, 0, none⟩ ((zad (xB.part)) ++ ([.slice A65 (xB.next).length c65, .slice A67 (xB.final).length c67] : List Value))).1 w671 := (CF.box (m := 259) (S672.box_at (j := 1) rfl) (zaw (zal (zaf ok63_0) rfl)))
 have hf674 : (CFs ⟨b69, 0, none⟩ ((zad (xB.part)) ++ ([.slice A65 (xB.next).length c65, .slice A67 (xB.final).length c67] : List Value))).1 w671 := (CF.box (m := 259) (S672.box_at (j := 1) rfl) (zaw (zal (zaf ok63_0) rfl)))
 have hf675 : (CFs ⟨b69, 0, none⟩ ((zad (xB.part)) ++ ([.slice A65 (xB.next).length c65, .slice A67 (xB.final).length c67] : List Value))).1 w671 := (CF.box (m := 259) (S672.box_at (j := 1) rfl) (zaw (zal (zaf ok63_0) rfl)))
 refine d_s rfl rfl (za2 rfl rfl r671) (.inr (za1 (by decide +kernel) (zbu hf674 (zbu hf675 trivial)))) <| zbo (i := 7) (by decide +kernel) ?_
 intro wd676 gd676
 have S677 := S672.keep gd676
 have hf678 := spUp gd676 hf673
 have hf679 := spUp gd676 hf674
 have hf680 := spUp gd676 hf675
 obtain ⟨w681, r681, g681, T681⟩ := za7 (P := Tryd.prog) (v := .agg ((zad (xB.part)) ++ ([.slice A65 (xB.next).length c65, .slice A67 (xB.final).length c67] : List Value)).toArray) (vs := ((zad (xB.part)) ++ ([.slice A65 (xB.next).length c65, .slice A67 (xB.final).length c67] : List Value))) (cs := ((zad zPart) ++ ([.slice none 0 0, .slice none 0 0] : List Value))) S677 ty35 rfl (zal (zaf ok63_0) rfl) (zal (zaf (zao)) rfl) (j := 3) rfl (zcc (zaz _) (by simp [Value.oneCell']))
 have S682 := T681.fx 3 (box b651 35 ((zad (xB.part)) ++ ([.slice A65 (xB.next).length c65, .slice A67 (xB.final).length c67] : List Value))) rfl
 dsimp only [lAa, lAn, lA0, lAs] at S682
 have hf683 : (CFs ⟨b69, 0, none⟩ ((zad (xB.part)) ++ ([.slice A65 (xB.next).length c65, .slice A67 (xB.final).length c67] : List Value))).1 w681 := (CF.box (m := 259) (S682.box_at (j := 1) rfl) (zaw (zal (zaf ok63_0) rfl)))
 have hf684 : (CFs ⟨b69, 0, none⟩ ((zad (xB.part)) ++ ([.slice A65 (xB.next).length c65, .slice A67 (xB.final).length c67] : List Value))).1 w681 := (CF.box (m := 259) (S682.box_at (j := 1) rfl) (zaw (zal (zaf ok63_0) rfl)))
 have hf685 : (CFs ⟨b69, 0, none⟩ ((zad (xB.part)) ++ ([.slice A65 (xB.next).length c65, .slice A67 (xB.final).length c67] : List Value))).1 w681 := (CF.box (m := 259) (S682.box_at (j := 1) rfl) (zaw (zal (zaf ok63_0) rfl)))
 refine d_s rfl rfl (za2 rfl rfl r681) (.inr (za1 (by decide +kernel) (za1 (by decide +kernel) (zbu hf685 trivial)))) <| zbo (i := 8) (by decide +kernel) ?_
 intro wd686 gd686
 have S687 := S682.keep gd686
 have hf688 := spUp gd686 hf683
 have hf689 := spUp gd686 hf684
 have hf690 := spUp gd686 hf685
 obtain ⟨w691, r691, g691, T691⟩ := za7 (P := Tryd.prog) (v := .agg ((zad (xB.part)) ++ ([.slice A65 (xB.next).length c65, .slice A67 (xB.final).length c67] : List Value)).toArray) (vs := ((zad (xB.part)) ++ ([.slice A65 (xB.next).length c65, .slice A67 (xB.final).length c67] : List Value))) (cs := ((zad zPart) ++ ([.slice none 0 0, .slice none 0 0] : List Value))) S687 ty35 rfl (zal (zaf ok63_0) rfl) (zal (zaf (zao)) rfl) (j := 2) rfl (zcc (zaz _) (by simp [Value.oneCell']))
 have S692 := T691.fx 2 (box b589 35 ((zad (xB.part)) ++ ([.slice A65 (xB.next).length c65, .slice A67 (xB.final).length c67] : List Value))) rfl
 dsimp only [lAa, lAn, lA0, lAs] at S692
 have hf693 : (CFs ⟨b69, 0, none⟩ ((zad (xB.part)) ++ ([.slice A65 (xB.next).length c65, .slice A67 (xB.final).length c67] : List Value))).1 w691 := (CF.box (m := 259) (S692.box_at (j := 1) rfl) (zaw (zal (zaf ok63_0) rfl)))
 have hf694 : (CFs ⟨b69, 0, none⟩ ((zad (xB.part)) ++ ([.slice A65 (xB.next).length c65, .slice A67 (xB.final).length c67] : List Value))).1 w691 := (CF.box (m := 259) (S692.box_at (j := 1) rfl) (zaw (zal (zaf ok63_0) rfl)))
 have hf695 : (CFs ⟨b69, 0, none⟩ ((zad (xB.part)) ++ ([.slice A65 (xB.next).length c65, .slice A67 (xB.final).length c67] : List Value))).1 w691 := (CF.box (m := 259) (S692.box_at (j := 1) rfl) (zaw (zal (zaf ok63_0) rfl)))
 refine d_s rfl rfl (za2 rfl rfl r691) (.inr (za1 (by decide +kernel) (za1 (by decide +kernel) (za1 (by decide +kernel) trivial)))) <| zcb (by decide +kernel) ?_
 intro wd696 gd696
 have S697 := S692.keep gd696
 exact jn204 _ _ ⟨h127, b661, b651, b589, (Le.refl _), S697.sub [0, 1, 4, 3, 2] (by decide) rfl _ rfl, r127_1, r127_6, rfl, rfl, rfl, ok13_0, ok63_0, ok63_0, ok63_0, ok63_0⟩
end Go.Proofs.YtfoemogojbnfhaaDoor
namespace Go.Proofs.YtfoemogojbnfhaaDoor
open Go Go.ChangeShapes Go.WideShapes Go.ChangeAt Go.RowKit Gx
set_option linter.unusedVariables false
theorem own : ownKnob Tryd.prog.godebug = none := by kernel_rfl
def laid : List (String × DataW Unit) := [("math/bits.deBruijn64tab", Rows.laid_math_bits_deBruijn64tab)]
theorem gTab : Tryd.prog.globalNamed "math/bits.deBruijn64tab" = some 0 := by kernel_rfl
theorem tTab : (Tryd.prog.globals[0]?).map (·.type) = some 222 := by kernel_rfl
theorem door_met (os : Os) (args : Array Value) : laidMetH Tryd.prog laid ((World.doorLaid Tryd.prog 4000 os).forCall (fun _ _ => 0) ⟨#[], args, []⟩).memory :=
  laidMetH_of_parts3 (fuel := 8) (laidMet_of_run' 8 (by kernel_rfl) (by kernel_rfl)) (by kernel_rfl) (by kernel_rfl)
set_option maxRecDepth 20000 in
theorem tab_of_laid {W : World} (h : laidMetH Tryd.prog laid W) : Block 0 tzTab W := by
  rw [MakeChecks.laidMetH_plain _ _ _ (by kernel_rfl)] at h
  obtain ⟨ps, ⟨g0, t0, cs0, f0, p0, q0, hg0, ht0, hv0, hd0, _⟩, _, _⟩ := h
  obtain rfl := Option.some.inj (gTab.symm.trans hg0)
  obtain rfl := Option.some.inj (tTab.symm.trans ht0)
  obtain ⟨xs, m, _, hx, hl, hn, hel⟩ := DataW.trod_array (n := 64) (e := 5) (by kernel_rfl) hd0
  have c5 : Tryd.prog.cellsOf 5 = 1 := by kernel_rfl
  have c70 : Tryd.prog.cellsOf 222 = 64 := by kernel_rfl
  rw [c70] at hl
  intro j hj
  have hj64 : j < 64 := hj
  rw [World.var?_cell hg0 hv0 j]
  have h2 := hel j hj64
  rw [c5, Nat.mul_one, List.getElem?_eq_getElem (by omega)] at h2
  obtain ⟨z, hz, hzx, _⟩ := DataW.trod_int (k := .u8) (by kernel_rfl) h2
  have h3 := congrArg (fun l : List Value => l[0]?) hz
  simp only [List.getElem?_take, List.getElem?_drop, List.getElem?_cons_zero, Nat.add_zero] at h3
  have h4 : cs0[j]? = some (.int .u8 z) := by rw [← Array.getElem?_toList]; simpa using h3
  rw [h4]
  simp only [Prod.mk.injEq] at hx
  have h6 : (xs.map (·.1))[j]? = some (.lit (.int .u8 z)) := by rw [List.getElem?_map, List.getElem?_eq_getElem (by omega), Option.map_some, hzx]
  have h7 : Rows.laid_math_bits_deBruijn64tab (H := Unit) = .agg (tzTab.map fun v => match v with | .int k n => .lit (.int k n) | _ => .nil) := by kernel_rfl
  rw [h7] at hx
  injection hx.1 with h8
  rw [← h8] at h6
  have h9 : ∀ j, j < 64 → ∃ n, tzTab[j]? = some (.int .u8 n) := fun j hj => ⟨_, by unfold tzTab; rw [List.getElem?_map, List.getElem?_eq_getElem (by exact hj)]; rfl⟩
  obtain ⟨n, hn9⟩ := h9 j hj64
  rw [List.getElem?_map, hn9] at h6
  simp at h6
  rw [hn9, h6]
end Go.Proofs.YtfoemogojbnfhaaDoor
