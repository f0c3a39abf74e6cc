/- My own library for walks through the translated code, part N7: laws of the model alone, no word of the program. -/
import Derived.Test.YtdfkpjchnndniaaDoorN6
namespace Gx
open Go Go.RowKit
set_option linter.unusedSimpArgs false
set_option linter.unusedSectionVars false
set_option linter.unusedVariables false

/-! ### The chapter's machine -/
def someM : Mach := ⟨[⟨setOf [97], 0⟩, ⟨setOf [98], 0⟩, ⟨setOf [99], 0⟩], [0], [[1, 2], [], []], [false, true, false], true⟩
def noM : Mach := ⟨[], [], [], [], false⟩
/-! ### The sets of a machine -/
def addS (out : List BSet) (s : BSet) : List BSet := if out.any fun x => decide (s = x) then out else out ++ [s]
def setsOfTo (m : Mach) (t : Int) : List BSet := ((m.spots.take t.toNat).map fun x => x.set).foldl addS []
def setsM (m : Mach) : List BSet := (m.spots.map fun x => x.set).foldl addS []
theorem sets_0 (m : Mach) : ([] : List BSet) = setsOfTo m 0 := rfl
theorem sets_step (m : Mach) {t : Int} (h0 : 0 ≤ t) (h1 : t < (m.spots.length : Int)) : setsOfTo m (t + 1) = addS (setsOfTo m t) (at_ m.spots t).set := by
  unfold setsOfTo
  rw [take_next _ h0 h1, List.map_append, List.foldl_append]; rfl
theorem sets_old (m : Mach) {t : Int} (h0 : 0 ≤ t) (h1 : t < (m.spots.length : Int)) {out : List BSet} (ho : out = setsOfTo m t) (h : (out.any fun x => decide ((at_ m.spots t).set = x)) = true) : out = setsOfTo m (t + 1) := by
  rw [sets_step m h0 h1, ← ho]
  unfold addS; rw [if_pos h]
theorem sets_new (m : Mach) {t : Int} (h0 : 0 ≤ t) (h1 : t < (m.spots.length : Int)) {out : List BSet} (ho : out = setsOfTo m t) (h : (out.any fun x => decide ((at_ m.spots t).set = x)) = false) : out ++ [(at_ m.spots t).set] = setsOfTo m (t + 1) := by
  rw [sets_step m h0 h1, ← ho]
  unfold addS; rw [if_neg (by rw [h]; simp)]
theorem sets_end (m : Mach) {t : Int} (h : (m.spots.length : Int) ≤ t) : setsM m = setsOfTo m t := by
  unfold setsM setsOfTo; rw [List.take_of_length_le (by omega)]
theorem fold_add_len : ∀ (l out : List BSet), (l.foldl addS out).length ≤ out.length + l.length
  | [], out => by simp
  | s :: l, out => by
    have := fold_add_len l (addS out s)
    have h2 : (addS out s).length ≤ out.length + 1 := by unfold addS; split <;> simp
    simp only [List.foldl_cons, List.length_cons]; omega
theorem setsTo_len' (m : Mach) {t : Int} (h0 : 0 ≤ t) : ((setsOfTo m t).length : Int) ≤ t := by
  have := fold_add_len ((m.spots.take t.toNat).map fun x => x.set) []
  have h2 := List.length_take_le t.toNat m.spots
  simp only [List.length_map, List.length_nil, Nat.zero_add] at this
  unfold setsOfTo; omega
end Gx
