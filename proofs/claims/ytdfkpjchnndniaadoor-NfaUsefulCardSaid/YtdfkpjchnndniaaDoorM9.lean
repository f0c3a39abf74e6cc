/- My own library for walks through the translated code, part M9: laws of the model alone, no word of the program. -/
import Derived.Test.YtdfkpjchnndniaaDoorM7
import Derived.Test.YtdfkpjchnndniaaDoorM8
namespace Gx
open Go Go.RowKit
set_option linter.unusedSimpArgs false
set_option linter.unusedSectionVars false
set_option linter.unusedVariables false

/-! ### Partitions: an array and a number -/
structure PartM where
  of : List Int
  n : Int
deriving DecidableEq
instance : Inhabited PartM := ⟨⟨[], 0⟩⟩
def encPart (p : PartM) : List Value := encInts .u8 p.of ++ [.int .i64 p.n]
def okPart (p : PartM) : Prop := okInts .u8 256 p.of ∧ inK .i64 p.n
theorem encPart_one (p : PartM) : ∀ u ∈ encPart p, u.oneCell' = true := fun u hu => by
  simp only [encPart, List.mem_append, List.mem_singleton] at hu
  rcases hu with h | h
  · exact encInts_one _ _ u h
  · subst h; rfl
theorem encPart_len {p : PartM} (h : okPart p) : (encPart p).length = 257 := by simp [encPart, encInts, h.1.1]
def kPart : Kd PartM := .flat encPart okPart 257 (by omega) (fun _ h => encPart_len h) encPart_one
theorem okPart_zero : okPart ⟨List.replicate 256 0, 0⟩ := ⟨okInts_rep (by constructor <;> decide) _, by constructor <;> decide⟩
theorem okPart_one : okPart ⟨List.replicate 256 0, 1⟩ := ⟨okInts_rep (by constructor <;> decide) _, by constructor <;> decide⟩
theorem encPart_of {p : PartM} (h : okPart p) : ((encPart p).drop 0).take 256 = encInts .u8 p.of := by
  unfold encPart
  rw [List.drop_zero, List.take_append_of_le_length (by simp [encInts, h.1.1]), List.take_of_length_le (by simp [encInts, h.1.1])]
theorem encPart_n {p : PartM} (h : okPart p) : ((encPart p).drop 256).take 1 = [.int .i64 p.n] := by
  unfold encPart
  have hl : (encInts .u8 p.of).length = 256 := by simp [encInts, h.1.1]
  rw [List.drop_append_of_le_length (by omega), List.drop_of_length_le (by omega)]
  rfl
theorem encPart_at {p : PartM} (h : okPart p) {i : Int} (h0 : 0 ≤ i) (h1 : i < ((256 : Nat) : Int)) : ((encPart p).drop (0 + i.toNat * 1)).take 1 = [.int .u8 (at_ p.of i)] := by
  rw [Nat.zero_add, Nat.mul_one]
  refine take1 ?_
  unfold encPart
  have hl : (encInts .u8 p.of).length = 256 := by simp [encInts, h.1.1]
  rw [List.getElem?_append_left (by omega)]
  exact encInts_get h.1 h0 h1
theorem encPart_put {p : PartM} (h : okPart p) {i v : Int} (h0 : 0 ≤ i) (h1 : i < ((256 : Nat) : Int)) : lput (encPart p) (0 + i.toNat * 1) [.int .u8 v] = encPart ⟨p.of.set i.toNat v, p.n⟩ := by
  have hl : (encInts .u8 p.of).length = 256 := by simp [encInts, h.1.1]
  simp only [lput, encPart, Nat.zero_add, Nat.mul_one]
  rw [List.set_append_left _ _ (by omega)]
  simp [encInts, List.map_set]
theorem encPart_putN {p : PartM} (h : okPart p) {v : Int} : lput (encPart p) 256 [.int .i64 v] = encPart ⟨p.of, v⟩ := by
  have hl : (encInts .u8 p.of).length = 256 := by simp [encInts, h.1.1]
  simp only [lput, encPart]
  rw [List.set_append_right _ _ (by omega), hl]; rfl
theorem okPart_put {p : PartM} (h : okPart p) (i : Nat) {v : Int} (hv : inK .u8 v) : okPart ⟨p.of.set i v, p.n⟩ := ⟨okInts_set h.1 i hv, h.2⟩
theorem okPart_putN {p : PartM} (h : okPart p) {v : Int} (hv : inK .i64 v) : okPart ⟨p.of, v⟩ := ⟨h.1, hv⟩
end Gx
