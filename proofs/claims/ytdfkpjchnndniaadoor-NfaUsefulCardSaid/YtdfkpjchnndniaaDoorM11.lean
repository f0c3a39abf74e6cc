/- My own library for walks through the translated code, part M11: laws of the model alone, no word of the program. -/
import Derived.Test.YtdfkpjchnndniaaDoorM10
namespace Gx
open Go Go.RowKit
set_option linter.unusedSimpArgs false
set_option linter.unusedSectionVars false
set_option linter.unusedVariables false

section
variable {P : Program} {ρ : Env} {w w' : World} {d : Option Tmp} {ty : TypeId} {pos : String} {af : Array Edge} {g : Option (Nat × Bool)} {x y : Operand}
/-! ### A field behind an address -/
theorem x_fieldAd {ad : Addr} {q o : Nat} {T ft : TypeId} {m b' : Nat} {gg : Bool} {z : Option Value} (hf : fieldInfo P T q = some (o, ft)) (hs : tyInfo P ft = some (m, b', gg, z)) (hm : Nat.blt 0 m = true) (hx : ev ρ x = .pointer (some ad)) :
    (execOp (ev ρ) ⟨d, .fieldAddr T x q, ty, pos, af, g⟩).run P w = .ok (.value (.pointer (some (ad.add o)))) w := by
  obtain ⟨fs, fd, hu, hq, ho, rfl⟩ := fieldInfo_parts hf
  obtain ⟨ii, d2, hi, hd2, hsz, _, _, _⟩ := tyInfo_parts hs
  have hm' : 0 < m := by simpa [Nat.blt_eq] using hm
  subst ho
  simp [execOp, hx, Instr.fieldAt, Instr.sureAddr, run_underlying hu, hq, fieldPlace, rn_sizeOf hi, hsz, (show ¬ m = 0 by omega), go_sem]
theorem sub_seg {h : Ghost} {ad : Addr} {cs ds : List Value} {o m : Nat} (hc : ∀ j v, cs[j]? = some v → gcell h (ad.add j) = some v) (hs : (cs.drop o).take m = ds) : ∀ j v, ds[j]? = some v → gcell h ((ad.add o).add j) = some v := fun j v hj => by
  rw [add_add]
  refine hc _ _ ?_
  rw [← hs, List.getElem?_take] at hj
  split at hj
  · rwa [List.getElem?_drop] at hj
  · cases hj
end
section
variable {P : Program} {f n : Nat} {k : List Item} {ρ : Env} {w : World} {R : Ending → World → Prop} {ops : Array Oper} {H : Held} {fuel : Nat} {listed : Array Bool}
/-- All orders come to one place, from which there is one way on. -/
theorem ra_join (J : Env → World → Prop) (hj : ∀ ρ w, J ρ w → Run P f n k ρ w R) (h : (∀ ρ w, J ρ w → Run P f n k ρ w R) → RA P f n ops H fuel listed k ρ w R) : RA P f n ops H fuel listed k ρ w R := h hj
end
theorem one_nil : ∀ u ∈ ([] : List Value), u.oneCell' = true := fun u h => by cases h
theorem one_cons {v : Value} {vs : List Value} (h : v.oneCell' = true) (hs : ∀ u ∈ vs, u.oneCell' = true) : ∀ u ∈ v :: vs, u.oneCell' = true := fun u hu => by
  rcases List.mem_cons.1 hu with e | e
  · rw [e]; exact h
  · exact hs u e
theorem row_cells {base : Nat} {w0 w : World} {h : Ghost} {L : List Asrt} {α : Type} [Inhabited α] {kd : Kd α} {xs : List α} {j : Nat} {T : TypeId} {v : Value} (S : St base w0 h w L) (hj : L[j]? = some (row T kd v xs)) : v.cells = #[v] := by
  obtain ⟨A, c, e, _⟩ := S.row_val hj
  rw [e]; rfl
theorem e_make0 {P : Program} {base : Nat} {w0 w : World} {h : Ghost} {L : List Asrt} {α : Type} [Inhabited α] {kd : Kd α} {T E : TypeId} {kk kk' : IntKind} {q : Int} {m b' : Nat} {gg : Bool} {zv : Value} (S : St base w0 h w L) (hT : P.underlying T = some (.slice E)) (ht : tyInfo P E = some (m, b', gg, some zv)) (hm : kd.sz = m)
    (h0 : 0 ≤ q) (hb : (b' : Int) * q ≤ 281474976710656) (h63 : q ≤ 9223372036854775807) :
    ∃ v w', (Instr.makeSlice T (.int kk 0) (.int kk' q)).run P w = .ok v w' ∧ Chg w w' (fun _ => False) ∧ St base w0 h w' (L ++ [row E kd v ([] : List α)]) := by
  obtain ⟨ii, dd, hi, _, hs, hby, _, hzz⟩ := tyInfo_parts ht
  obtain ⟨c, rfl⟩ := Int.eq_ofNat_of_zero_le h0
  subst hby
  obtain ⟨w', hrun, hown, hg⟩ := run_make_own (P := P) w w.heap.size T E ii zv kd.sz hT hi hzz (by rw [hs, hm]) kk kk' c (Int.ofNat_le.1 (by rw [Int.natCast_mul]; exact hb)) (by simp only [maxLen]; omega) (Nat.le_refl _)
  have hc : Chg w w' (fun _ => False) := (Chg.grown hg).mono fun b e => by cases e
  refine ⟨_, w', hrun, hc, ?_⟩
  refine S.row_add (cs := []) hc ?_ (Elems.nil _ _)
  simpa using hown
theorem fill_any {place : Nat → Option (Nat × Nat)} {cells : Array Value} {i off n : Nat} {v : Value} {vc : List Value} {rest : List (Nat × Value)} {r : Array Value} (hp : place i = some (off, n)) (hv : v.cells = vc.toArray) (hn : vc.length = n) (ho : Nat.ble (off + n) cells.size = true)
    (h : Instr.fill place (lput cells.toList off vc).toArray rest = some r) : Instr.fill place cells ((i, v) :: rest) = some r := by
  have ho' : off + n ≤ cells.size := by simpa [Nat.ble_eq] using ho
  simp only [Instr.fill, hp]
  have hs : v.cells.size = n := by rw [hv]; simpa using hn
  rw [if_neg (by simp [hs]; omega)]
  rw [← h]
  congr 1
  rw [hv]
  have := fold_lput off vc 0 cells.toList
  simp only [Array.toArray_toList, Nat.add_zero] at this
  rw [← this, ← Array.foldl_toList]
  simp
theorem fill_end {place : Nat → Option (Nat × Nat)} {cells : Array Value} {cs : List Value} (h : cells = cs.toArray) : Instr.fill place cells [] = some cs.toArray := by rw [h]; rfl
theorem run_joinW {P : Program} {f n : Nat} {x : Item} {k : List Item} {ρ : Env} {w : World} {R : Ending → World → Prop} (J : Env → World → Prop) (hj : ∀ ρ w, J ρ w → Run P f n k ρ w R) (h : (∀ ρ w, J ρ w → Run P f n k ρ w R) → Run P f n (x :: k) ρ w R) : Run P f n (x :: k) ρ w R := h hj
end Gx
