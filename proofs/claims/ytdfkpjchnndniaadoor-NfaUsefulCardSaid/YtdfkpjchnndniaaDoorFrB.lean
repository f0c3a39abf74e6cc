/- What the rows of this seat have in common; the listed table, if there is one, read off the condition that it is laid. -/
import Derived.Test.YtdfkpjchnndniaaDoorTie
import Derived.Test.YtdfkpjchnndniaaDoorCards
import Derived.Test.YtdfkpjchnndniaaDoorF2
import Derived.Test.YtdfkpjchnndniaaDoorTzB
import Derived.LaidMore
import Derived.Stop.Joined
import Derived.MakeChecks
namespace Go.Proofs.YtdfkpjchnndniaaDoor
open Go Go.ChangeShapes Go.WideShapes Go.ChangeAt Go.RowKit Gx
set_option linter.unusedVariables false

theorem own : ownKnob Tryd.prog.godebug = none := by kernel_rfl
theorem laidOut : laidOutB Tryd.prog = true := by kernel_rfl
def laid : List (String × DataW Unit) := [("math/bits.deBruijn64tab", Rows.laid_math_bits_deBruijn64tab)]
theorem gTab : Tryd.prog.globalNamed "math/bits.deBruijn64tab" = some 0 := by kernel_rfl
theorem tTab : (Tryd.prog.globals[0]?).map (·.type) = some 81 := by kernel_rfl
theorem door_met (os : Os) (args : Array Value) : laidMetH Tryd.prog laid ((World.doorLaid Tryd.prog 4000 os).forCall (fun _ _ => 0) ⟨#[], args, []⟩).memory :=
  laidMetH_of_parts3 (fuel := 8) (laidMet_of_run' 8 (by kernel_rfl) (by kernel_rfl)) (by kernel_rfl) (by kernel_rfl)
theorem tab_of_laid {W : World} (h : laidMetH Tryd.prog laid W) : Block 0 tzTab W := by
  rw [MakeChecks.laidMetH_plain _ _ _ (by kernel_rfl)] at h
  obtain ⟨ps, ⟨g0, t0, cs0, f0, p0, q0, hg0, ht0, hv0, hd0, _⟩, _, _⟩ := h
  obtain rfl := Option.some.inj (gTab.symm.trans hg0)
  obtain rfl := Option.some.inj (tTab.symm.trans ht0)
  obtain ⟨xs, m, _, hx, hl, hn, hel⟩ := DataW.trod_array (n := 64) (e := 5) (by kernel_rfl) hd0
  have c5 : Tryd.prog.cellsOf 5 = 1 := by kernel_rfl
  have c70 : Tryd.prog.cellsOf 81 = 64 := by kernel_rfl
  rw [c70] at hl
  intro j hj
  have hj64 : j < 64 := hj
  rw [World.var?_cell hg0 hv0 j]
  have h2 := hel j hj64
  rw [c5, Nat.mul_one, List.getElem?_eq_getElem (by omega)] at h2
  obtain ⟨z, hz, hzx, _⟩ := DataW.trod_int (k := .u8) (by kernel_rfl) h2
  have h3 := congrArg (fun l : List Value => l[0]?) hz
  simp only [List.getElem?_take, List.getElem?_drop, List.getElem?_cons_zero, Nat.add_zero] at h3
  have h4 : cs0[j]? = some (.int .u8 z) := by rw [← Array.getElem?_toList]; simpa using h3
  rw [h4]
  simp only [Prod.mk.injEq] at hx
  have h6 : (xs.map (·.1))[j]? = some (.lit (.int .u8 z)) := by rw [List.getElem?_map, List.getElem?_eq_getElem (by omega), Option.map_some, hzx]
  have h7 : Rows.laid_math_bits_deBruijn64tab (H := Unit) = .agg (tzTab.map fun v => match v with | .int k n => .lit (.int k n) | _ => .nil) := by kernel_rfl
  rw [h7] at hx
  injection hx.1 with h8
  rw [← h8] at h6
  have h9 : ∀ j, j < 64 → ∃ n, tzTab[j]? = some (.int .u8 n) := fun j hj => ⟨_, by unfold tzTab; rw [List.getElem?_map, List.getElem?_eq_getElem (by exact hj)]; rfl⟩
  obtain ⟨n, hn9⟩ := h9 j hj64
  rw [List.getElem?_map, hn9] at h6
  simp at h6
  rw [hn9, h6]
end Go.Proofs.YtdfkpjchnndniaaDoor
