/- My own library for walks through the translated code, and the walks of the functions that the law SeekPaths comes to, part 7; no conditions but those that each contract tells. -/
import Derived.ProofKit
import Derived.OpenShut
import Derived.ShutString
import Derived.ChangeOld
import Derived.Below
import Derived.DataElems
import Derived.Test.YtfoemogojbnfhaaDoorTie
import Derived.Test.YtfoemogojbnfhaaDoorCards
import Derived.LaidMore
import Derived.Stop.Joined
import Derived.MakeChecks
import Derived.Test.YtfoemogojbnfhaaDoorLSeekPaths5
namespace Gx
open Go Go.RowKit
set_option linter.unusedSimpArgs false
set_option linter.unusedSectionVars false
set_option linter.unusedVariables false
def Opens {α : Type} (P : Program) (k : Kd α) (t : TypeId) : Prop :=
  ∀ {H : Type} {enc : TypeId × Value → H} {w : World} {spare : Nat → Bool} {held : Bool} {fuel : Nat} {cs : List Value} {x : DataW H × List MemPlace}, DataW.trod enc P w 0 spare held fuel t cs = some x → ∃ m, k.rep (hp w) m cs
section
variable {P : Program} {t e : TypeId}
theorem inK_wf {k : IntKind} {n : Int} (h : (Lit.int k n).wf = true) : inK k n := by
  simp only [Lit.wf, Bool.and_eq_true, decide_eq_true_eq] at h
  exact h
theorem Opens.int {k : IntKind} (ht : P.underlying t = some (.int k)) : Opens P (Kd.int k) t := fun h => by
  obtain ⟨n, rfl, _, hw⟩ := DataW.trod_int ht h
  exact ⟨n, rfl, inK_wf hw⟩
theorem Opens.bool (ht : P.underlying t = some .bool) : Opens P Kd.bool t := fun h => by
  obtain ⟨b, rfl, _⟩ := DataW.trod_bool ht h
  exact ⟨b, rfl, trivial⟩
theorem Opens.string (ht : P.underlying t = some .string) : Opens P Kd.string t := fun h => by
  obtain ⟨s, rfl, _, hs⟩ := DataW.trod_string ht h
  exact ⟨s, rfl, hs⟩
theorem exists_list {α : Type} {Q : Nat → α → Prop} : ∀ (n : Nat), (∀ i, i < n → ∃ m, Q i m) → ∃ l : List α, l.length = n ∧ ∀ i m, l[i]? = some m → Q i m
  | 0, _ => ⟨[], rfl, fun i m h => by simp at h⟩
  | n + 1, h => by
    obtain ⟨l, hl, hq⟩ := exists_list n fun i hi => h i (by omega)
    obtain ⟨m, hm⟩ := h n (by omega)
    refine ⟨l ++ [m], by simp [hl], fun i y hy => ?_⟩
    rw [List.getElem?_append] at hy
    split at hy
    · exact hq i y hy
    · rename_i hi
      have e : i - l.length = 0 := by
        rcases Nat.eq_zero_or_pos (i - l.length) with h0 | h0
        · exact h0
        · rw [List.getElem?_eq_none (by simp; omega)] at hy; cases hy
      rw [e] at hy
      simp at hy
      subst hy
      have : i = n := by omega
      rw [this]; exact hm
theorem Opens.ints {k : IntKind} {n : Nat} (hn : 0 < n) (ht : P.underlying t = some (.array n e)) (he : P.underlying e = some (.int k)) (hc : P.cellsOf e = 1) (hct : P.cellsOf t = n) : Opens P (kInts k n hn) t := fun {H enc w spare held fuel cs x} h => by
  obtain ⟨xs, m, _, _, hl, hx, hel⟩ := DataW.trod_array ht h
  rw [hct] at hl
  have h1 : ∀ i, i < n → ∃ z : Int, cs[i]? = some (.int k z) ∧ inK k z := fun i hi => by
    have h2 := hel i hi
    rw [hc, Nat.mul_one, List.getElem?_eq_getElem (by omega)] at h2
    obtain ⟨z, hz, _, hw⟩ := DataW.trod_int he h2
    refine ⟨z, ?_, inK_wf hw⟩
    have h3 := congrArg (fun l : List Value => l[0]?) hz
    simpa [List.getElem?_take, List.getElem?_drop] using h3
  obtain ⟨l, hll, hq⟩ := exists_list n h1
  refine ⟨l, ?_, hll, fun z hz => ?_⟩
  · apply List.ext_getElem?
    intro i
    rw [encInts, List.getElem?_map]
    by_cases hi : i < n
    · have h4 := hq i (l[i]'(by omega)) (List.getElem?_eq_getElem _)
      rw [h4.1, List.getElem?_eq_getElem (by omega)]; rfl
    · rw [List.getElem?_eq_none (by omega), List.getElem?_eq_none (by omega)]; rfl
  · obtain ⟨i, hi⟩ := List.mem_iff_getElem?.1 hz
    exact (hq i z hi).2
theorem Opens.set (ht : P.underlying t = some (.array 4 e)) (he : P.underlying e = some (.int .u64)) (hc : P.cellsOf e = 1) (hct : P.cellsOf t = 4) : Opens P kSet t := fun h => by
  obtain ⟨l, hl, hok⟩ := Opens.ints (n := 4) (by omega) ht he hc hct h
  exact ⟨ofWords l, by rw [hl, encSet_of hok], trivial⟩
theorem Opens.slice {α : Type} {k : Kd α} (ht : P.underlying t = some (.slice e)) (hc : P.cellsOf e = k.sz) (ho : Opens P k e) : Opens P k.slice t := fun {H enc w spare held fuel cs x} h => by
  rcases DataW.trod_slice ht h with ⟨rfl, _⟩ | ⟨a, len, cap, elems, rest, n, _, rfl, _, _, hl, hm, hlen, hel, _, _⟩
  · exact ⟨[], none, 0, rfl, Nat.le_refl _, by simp [maxLen], fun hne => (hne rfl).elim⟩
  · rw [hc] at hel
    have h1 : ∀ i, i < len → ∃ m, ∃ seg, k.rep (hp w) m seg ∧ ∀ j v, seg[j]? = some v → gcell (hp w) (a.add (i * k.sz + j)) = some v := fun i hi => by
      have h2 := hel i hi
      rw [List.getElem?_eq_getElem (by omega)] at h2
      obtain ⟨seg, hseg, hd⟩ := Option.bind_eq_some_iff.1 h2
      obtain ⟨m, hr⟩ := ho hd
      refine ⟨m, seg, hr, fun j v hj => ?_⟩
      obtain ⟨_, hlen2, hcell⟩ := World.cells?_some hseg
      have hjl : j < k.sz := by
        have := (List.getElem?_eq_some_iff.1 hj).1
        rw [k.len hr] at this; exact this
      have h5 := hcell j hjl
      rw [hj] at h5
      rw [Addr.add_add] at h5
      show gcell (hp w) _ = _
      unfold gcell hp
      unfold World.cell? at h5
      exact h5
    obtain ⟨l, hll, hq⟩ := exists_list len h1
    refine ⟨l, some a, cap, by rw [hll], by omega, hm, fun _ => ⟨a, rfl, hq⟩⟩
end
end Gx
namespace Gx
open Go Go.RowKit
set_option linter.unusedSimpArgs false
set_option linter.unusedSectionVars false
set_option linter.unusedVariables false
section
variable {P : Program} {t : TypeId}
theorem trod_field {H : Type} {enc : TypeId × Value → H} {w : World} {spare : Nat → Bool} {held : Bool} {fuel : Nat} {cs : List Value} {x : DataW H × List MemPlace} {α : Type} {k : Kd α} {q o ft : Nat} (hf : fieldInfo P t q = some (o, ft)) (hc : P.cellsOf ft = k.sz) (ho : Opens P k ft) (h : DataW.trod enc P w 0 spare held fuel t cs = some x) : ∃ m, k.rep (hp w) m ((cs.drop o).take k.sz) := by
  obtain ⟨fs, fd, hu, hq, rfl, rfl⟩ := fieldInfo_parts hf
  obtain ⟨xs, n, _, _, _, hl, hp⟩ := DataW.trod_struct hu h
  have h1 := hp q fd hq
  have hlt : q < fs.size := (Array.getElem?_eq_some_iff.1 hq).1
  rw [hc, List.getElem?_eq_getElem (by omega)] at h1
  exact ho h1
theorem trod_len {H : Type} {enc : TypeId × Value → H} {w : World} {spare : Nat → Bool} {held : Bool} {fuel : Nat} {cs : List Value} {x : DataW H × List MemPlace} {q o ft : Nat} (hf : fieldInfo P t q = some (o, ft)) (h : DataW.trod enc P w 0 spare held fuel t cs = some x) : cs.length = P.cellsOf t := by
  obtain ⟨fs, fd, hu, hq, rfl, rfl⟩ := fieldInfo_parts hf
  obtain ⟨xs, n, _, _, hl, _, _⟩ := DataW.trod_struct hu h
  exact hl
theorem Opens.spot {a b : TypeId} (h0 : fieldInfo P t 0 = some (0, a)) (h1 : fieldInfo P t 1 = some (4, b)) (hc : P.cellsOf t = 5) (ha : P.cellsOf a = 4) (hb : P.cellsOf b = 1) (oa : Opens P kSet a) (ob : Opens P (Kd.int .u8) b) : Opens P kSpot t := fun {H enc w spare held fuel cs x} h => by
  obtain ⟨s, e0, _⟩ := trod_field h0 ha oa h
  obtain ⟨n, e1, hn⟩ := trod_field h1 hb ob h
  have hl := trod_len h0 h
  rw [hc] at hl
  refine ⟨⟨s, n⟩, ?_, hn⟩
  have e2 : cs = (cs.drop 0).take 4 ++ (cs.drop 4).take 1 := by
    rw [List.drop_zero, List.take_of_length_le (l := cs.drop 4) (by simp; omega), List.take_append_drop]
  rw [e2]
  show (cs.drop 0).take kSet.sz ++ (cs.drop 4).take (Kd.int .u8).sz = _
  rw [e0, e1]; rfl
def kMach : Kd Mach where
  sz := 5
  pos := by omega
  rep := fun h m cs => ∃ A0 c0 A1 c1 A2 c2 A3 c3, cs = [.slice A0 m.spots.length c0, .slice A1 m.first.length c1, .slice A2 m.follow.length c2, .slice A3 m.last.length c3, .bool m.empty] ∧
    ((m.spots.length ≤ c0 ∧ c0 ≤ maxLen) ∧ Leads kSpot h A0 m.spots) ∧ ((m.first.length ≤ c1 ∧ c1 ≤ maxLen) ∧ Leads (Kd.int .i64) h A1 m.first) ∧ ((m.follow.length ≤ c2 ∧ c2 ≤ maxLen) ∧ Leads (Kd.int .i64).slice h A2 m.follow) ∧ ((m.last.length ≤ c3 ∧ c3 ≤ maxLen) ∧ Leads Kd.bool h A3 m.last)
  mono := fun hl ⟨A0, c0, A1, c1, A2, c2, A3, c3, e, h0, h1, h2, h3⟩ => ⟨A0, c0, A1, c1, A2, c2, A3, c3, e, ⟨h0.1, h0.2.mono hl⟩, ⟨h1.1, h1.2.mono hl⟩, ⟨h2.1, h2.2.mono hl⟩, ⟨h3.1, h3.2.mono hl⟩⟩
  len := fun ⟨_, _, _, _, _, _, _, _, e, _⟩ => by rw [e]; rfl
  one := fun ⟨_, _, _, _, _, _, _, _, e, _⟩ u hu => by rw [e] at hu; exact one_cons rfl (one_cons rfl (one_cons rfl (one_cons rfl (one_cons rfl one_nil)))) u hu
theorem list5 {cs : List Value} (h : cs.length = 5) {a b c d e : Value} (h0 : (cs.drop 0).take 1 = [a]) (h1 : (cs.drop 1).take 1 = [b]) (h2 : (cs.drop 2).take 1 = [c]) (h3 : (cs.drop 3).take 1 = [d]) (h4 : (cs.drop 4).take 1 = [e]) : cs = [a, b, c, d, e] := by
  match cs, h with
  | [x0, x1, x2, x3, x4], _ => simp at h0 h1 h2 h3 h4; simp [h0, h1, h2, h3, h4]
theorem Opens.mach {t0 t1 t2 t3 t4 : TypeId} (h0 : fieldInfo P t 0 = some (0, t0)) (h1 : fieldInfo P t 1 = some (1, t1)) (h2 : fieldInfo P t 2 = some (2, t2)) (h3 : fieldInfo P t 3 = some (3, t3)) (h4 : fieldInfo P t 4 = some (4, t4)) (hc : P.cellsOf t = 5) (c0 : P.cellsOf t0 = 1) (c1 : P.cellsOf t1 = 1) (c2 : P.cellsOf t2 = 1) (c3 : P.cellsOf t3 = 1) (c4 : P.cellsOf t4 = 1)
    (o0 : Opens P kSpot.slice t0) (o1 : Opens P (Kd.int .i64).slice t1) (o2 : Opens P (Kd.int .i64).slice.slice t2) (o3 : Opens P Kd.bool.slice t3) (o4 : Opens P Kd.bool t4) : Opens P kMach t := fun h => by
  obtain ⟨m0, A0, d0, e0, b0, b0', l0⟩ := trod_field h0 c0 o0 h
  obtain ⟨m1, A1, d1, e1, b1, b1', l1⟩ := trod_field h1 c1 o1 h
  obtain ⟨m2, A2, d2, e2, b2, b2', l2⟩ := trod_field h2 c2 o2 h
  obtain ⟨m3, A3, d3, e3, b3, b3', l3⟩ := trod_field h3 c3 o3 h
  obtain ⟨m4, e4, _⟩ := trod_field h4 c4 o4 h
  have hl := trod_len h0 h
  rw [hc] at hl
  exact ⟨⟨m0, m1, m2, m3, m4⟩, A0, d0, A1, d1, A2, d2, A3, d3, list5 hl e0 e1 e2 e3 e4, ⟨⟨b0, b0'⟩, l0⟩, ⟨⟨b1, b1'⟩, l1⟩, ⟨⟨b2, b2'⟩, l2⟩, ⟨b3, b3'⟩, l3⟩
end
end Gx
namespace Go.Proofs.YtfoemogojbnfhaaDoor
open Go Go.ChangeShapes Go.WideShapes Go.ChangeAt Go.RowKit Gx
set_option linter.unusedVariables false
theorem own : ownKnob Tryd.prog.godebug = none := by kernel_rfl
theorem laidOut : laidOutB Tryd.prog = true := by kernel_rfl
def laid : List (String × DataW Unit) := [("math/bits.deBruijn64tab", Rows.laid_math_bits_deBruijn64tab)]
theorem gTab : Tryd.prog.globalNamed "math/bits.deBruijn64tab" = some 0 := by kernel_rfl
theorem tTab : (Tryd.prog.globals[0]?).map (·.type) = some 222 := by kernel_rfl
theorem door_met (os : Os) (args : Array Value) : laidMetH Tryd.prog laid ((World.doorLaid Tryd.prog 4000 os).forCall (fun _ _ => 0) ⟨#[], args, []⟩).memory :=
  laidMetH_of_parts3 (fuel := 8) (laidMet_of_run' 8 (by kernel_rfl) (by kernel_rfl)) (by kernel_rfl) (by kernel_rfl)
set_option maxRecDepth 20000 in
theorem tab_of_laid {W : World} (h : laidMetH Tryd.prog laid W) : Block 0 tzTab W := by
  rw [MakeChecks.laidMetH_plain _ _ _ (by kernel_rfl)] at h
  obtain ⟨ps, ⟨g0, t0, cs0, f0, p0, q0, hg0, ht0, hv0, hd0, _⟩, _, _⟩ := h
  obtain rfl := Option.some.inj (gTab.symm.trans hg0)
  obtain rfl := Option.some.inj (tTab.symm.trans ht0)
  obtain ⟨xs, m, _, hx, hl, hn, hel⟩ := DataW.trod_array (n := 64) (e := 5) (by kernel_rfl) hd0
  have c5 : Tryd.prog.cellsOf 5 = 1 := by kernel_rfl
  have c70 : Tryd.prog.cellsOf 222 = 64 := by kernel_rfl
  rw [c70] at hl
  intro j hj
  have hj64 : j < 64 := hj
  rw [World.var?_cell hg0 hv0 j]
  have h2 := hel j hj64
  rw [c5, Nat.mul_one, List.getElem?_eq_getElem (by omega)] at h2
  obtain ⟨z, hz, hzx, _⟩ := DataW.trod_int (k := .u8) (by kernel_rfl) h2
  have h3 := congrArg (fun l : List Value => l[0]?) hz
  simp only [List.getElem?_take, List.getElem?_drop, List.getElem?_cons_zero, Nat.add_zero] at h3
  have h4 : cs0[j]? = some (.int .u8 z) := by rw [← Array.getElem?_toList]; simpa using h3
  rw [h4]
  simp only [Prod.mk.injEq] at hx
  have h6 : (xs.map (·.1))[j]? = some (.lit (.int .u8 z)) := by rw [List.getElem?_map, List.getElem?_eq_getElem (by omega), Option.map_some, hzx]
  have h7 : Rows.laid_math_bits_deBruijn64tab (H := Unit) = .agg (tzTab.map fun v => match v with | .int k n => .lit (.int k n) | _ => .nil) := by kernel_rfl
  rw [h7] at hx
  injection hx.1 with h8
  rw [← h8] at h6
  have h9 : ∀ j, j < 64 → ∃ n, tzTab[j]? = some (.int .u8 n) := fun j hj => ⟨_, by unfold tzTab; rw [List.getElem?_map, List.getElem?_eq_getElem (by exact hj)]; rfl⟩
  obtain ⟨n, hn9⟩ := h9 j hj64
  rw [List.getElem?_map, hn9] at h6
  simp at h6
  rw [hn9, h6]
end Go.Proofs.YtfoemogojbnfhaaDoor
