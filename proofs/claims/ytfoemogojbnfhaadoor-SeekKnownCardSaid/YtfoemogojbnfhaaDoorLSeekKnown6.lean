/- My own library for walks through the translated code, and the walks of the functions that the law SeekKnown comes to, part 7; no conditions but those that each contract tells. -/
import Derived.Test.YtfoemogojbnfhaaDoorTie
import Derived.Test.YtfoemogojbnfhaaDoorCards
import Derived.LaidMore
import Derived.Stop.Joined
import Derived.MakeChecks
import Derived.Test.YtfoemogojbnfhaaDoorLSeekKnown5
namespace Gx
open Go Go.RowKit
set_option linter.unusedSimpArgs false
set_option linter.unusedSectionVars false
set_option linter.unusedVariables false
section
variable {P : Program} {t : TypeId}
theorem trod_field {H : Type} {enc : TypeId × Value → H} {w : World} {spare : Nat → Bool} {held : Bool} {fuel : Nat} {cs : List Value} {x : DataW H × List MemPlace} {α : Type} {k : Kd α} {q o ft : Nat} (hf : fieldInfo P t q = some (o, ft)) (hc : P.cellsOf ft = k.sz) (ho : Opens P k ft) (h : DataW.trod enc P w 0 spare held fuel t cs = some x) : ∃ m, k.rep (hp w) m ((cs.drop o).take k.sz) := by
  obtain ⟨fs, fd, hu, hq, rfl, rfl⟩ := fieldInfo_parts hf
  obtain ⟨xs, n, _, _, _, hl, hp⟩ := DataW.trod_struct hu h
  have h1 := hp q fd hq
  have hlt : q < fs.size := (Array.getElem?_eq_some_iff.1 hq).1
  rw [hc, List.getElem?_eq_getElem (by omega)] at h1
  exact ho h1
theorem trod_len {H : Type} {enc : TypeId × Value → H} {w : World} {spare : Nat → Bool} {held : Bool} {fuel : Nat} {cs : List Value} {x : DataW H × List MemPlace} {q o ft : Nat} (hf : fieldInfo P t q = some (o, ft)) (h : DataW.trod enc P w 0 spare held fuel t cs = some x) : cs.length = P.cellsOf t := by
  obtain ⟨fs, fd, hu, hq, rfl, rfl⟩ := fieldInfo_parts hf
  obtain ⟨xs, n, _, _, hl, _, _⟩ := DataW.trod_struct hu h
  exact hl
theorem Opens.spot {a b : TypeId} (h0 : fieldInfo P t 0 = some (0, a)) (h1 : fieldInfo P t 1 = some (4, b)) (hc : P.cellsOf t = 5) (ha : P.cellsOf a = 4) (hb : P.cellsOf b = 1) (oa : Opens P kSet a) (ob : Opens P (Kd.int .u8) b) : Opens P kSpot t := fun {H enc w spare held fuel cs x} h => by
  obtain ⟨s, e0, _⟩ := trod_field h0 ha oa h
  obtain ⟨n, e1, hn⟩ := trod_field h1 hb ob h
  have hl := trod_len h0 h
  rw [hc] at hl
  refine ⟨⟨s, n⟩, ?_, hn⟩
  have e2 : cs = (cs.drop 0).take 4 ++ (cs.drop 4).take 1 := by
    rw [List.drop_zero, List.take_of_length_le (l := cs.drop 4) (by simp; omega), List.take_append_drop]
  rw [e2]
  show (cs.drop 0).take kSet.sz ++ (cs.drop 4).take (Kd.int .u8).sz = _
  rw [e0, e1]; rfl
end
end Gx
namespace Go.Proofs.YtfoemogojbnfhaaDoor
open Go Go.ChangeShapes Go.WideShapes Go.ChangeAt Go.RowKit Gx
set_option linter.unusedVariables false
theorem own : ownKnob Tryd.prog.godebug = none := by kernel_rfl
def laid : List (String × DataW Unit) := [("math/bits.deBruijn64tab", Rows.laid_math_bits_deBruijn64tab)]
theorem gTab : Tryd.prog.globalNamed "math/bits.deBruijn64tab" = some 0 := by kernel_rfl
theorem tTab : (Tryd.prog.globals[0]?).map (·.type) = some 222 := by kernel_rfl
theorem door_met (os : Os) (args : Array Value) : laidMetH Tryd.prog laid ((World.doorLaid Tryd.prog 4000 os).forCall (fun _ _ => 0) ⟨#[], args, []⟩).memory :=
  laidMetH_of_parts3 (fuel := 8) (laidMet_of_run' 8 (by kernel_rfl) (by kernel_rfl)) (by kernel_rfl) (by kernel_rfl)
set_option maxRecDepth 20000 in
theorem tab_of_laid {W : World} (h : laidMetH Tryd.prog laid W) : Block 0 tzTab W := by
  rw [MakeChecks.laidMetH_plain _ _ _ (by kernel_rfl)] at h
  obtain ⟨ps, ⟨g0, t0, cs0, f0, p0, q0, hg0, ht0, hv0, hd0, _⟩, _, _⟩ := h
  obtain rfl := Option.some.inj (gTab.symm.trans hg0)
  obtain rfl := Option.some.inj (tTab.symm.trans ht0)
  obtain ⟨xs, m, _, hx, hl, hn, hel⟩ := DataW.trod_array (n := 64) (e := 5) (by kernel_rfl) hd0
  have c5 : Tryd.prog.cellsOf 5 = 1 := by kernel_rfl
  have c70 : Tryd.prog.cellsOf 222 = 64 := by kernel_rfl
  rw [c70] at hl
  intro j hj
  have hj64 : j < 64 := hj
  rw [World.var?_cell hg0 hv0 j]
  have h2 := hel j hj64
  rw [c5, Nat.mul_one, List.getElem?_eq_getElem (by omega)] at h2
  obtain ⟨z, hz, hzx, _⟩ := DataW.trod_int (k := .u8) (by kernel_rfl) h2
  have h3 := congrArg (fun l : List Value => l[0]?) hz
  simp only [List.getElem?_take, List.getElem?_drop, List.getElem?_cons_zero, Nat.add_zero] at h3
  have h4 : cs0[j]? = some (.int .u8 z) := by rw [← Array.getElem?_toList]; simpa using h3
  rw [h4]
  simp only [Prod.mk.injEq] at hx
  have h6 : (xs.map (·.1))[j]? = some (.lit (.int .u8 z)) := by rw [List.getElem?_map, List.getElem?_eq_getElem (by omega), Option.map_some, hzx]
  have h7 : Rows.laid_math_bits_deBruijn64tab (H := Unit) = .agg (tzTab.map fun v => match v with | .int k n => .lit (.int k n) | _ => .nil) := by kernel_rfl
  rw [h7] at hx
  injection hx.1 with h8
  rw [← h8] at h6
  have h9 : ∀ j, j < 64 → ∃ n, tzTab[j]? = some (.int .u8 n) := fun j hj => ⟨_, by unfold tzTab; rw [List.getElem?_map, List.getElem?_eq_getElem (by exact hj)]; rfl⟩
  obtain ⟨n, hn9⟩ := h9 j hj64
  rw [List.getElem?_map, hn9] at h6
  simp at h6
  rw [hn9, h6]
end Go.Proofs.YtfoemogojbnfhaaDoor
