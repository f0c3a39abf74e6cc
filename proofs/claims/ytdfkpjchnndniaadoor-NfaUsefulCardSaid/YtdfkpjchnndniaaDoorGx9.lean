/- My own library for walks through the translated code, part Gx9: laws of the model alone, no word of the program. -/
import Derived.Test.YtdfkpjchnndniaaDoorGx8
namespace Gx
open Go Go.RowKit
set_option linter.unusedSimpArgs false
set_option linter.unusedSectionVars false
set_option linter.unusedVariables false

section
variable {P : Program} {f n : Nat} {k : List Item} {ρ : Env} {w : World} {R : Ending → World → Prop} {ops : Array Oper} {rest : List Nat} {i : Nat}
variable {d : Tmp} {ty : TypeId} {pos : String} {af : Array Edge} {x y : Operand} {op : Op}
variable {base : Nat} {w0 : World} {h : Ghost} {L : List Asrt}
variable {α : Type} [Inhabited α] {kd : Kd α} {xs : List α}

theorem x_slice_hi {T E : TypeId} {A : Option Addr} {len cap : Nat} {q : Int} {kk : IntKind} {dd : Option Tmp} {g : Option (Nat × Bool)} {m b' : Nat} {gg : Bool} {z : Option Value} (hT : P.underlying T = some (.slice E)) (ht : tyInfo P E = some (m, b', gg, z))
    (hx : ev ρ x = .slice A len cap) (hy : ev ρ y = .int kk q) (h0 : 0 ≤ q) (h1 : q ≤ cap) : (execOp (ev ρ) ⟨dd, .slice T x none (some y) none, ty, pos, af, g⟩).run P w = .ok (.value (.slice (if cap = 0 then A else A.map (·.add 0)) q.toNat cap)) w := by
  obtain ⟨ii, d2, hi, hd2, hsz, _, _, _⟩ := tyInfo_parts ht
  simp [execOp, hx, hy, Instr.sliceAt, run_underlying hT, Instr.slice, Instr.sliceBounds, Instr.sliceBound, asIntOf, h0, h1, rn_sizeOf hi, go_sem]
/-- The head of a slice of the call's own. -/
theorem go_slice_hi {j : Nat} {v : Value} {T E : TypeId} {q : Int} {kk : IntKind} {m b' : Nat} {gg : Bool} {z : Option Value} (S : St base w0 h w L) (ho : ops[i]? = some ⟨some d, .slice T x none (some y) none, ty, pos, af, none⟩) (hd : Nat.blt d n = true) (hT : P.underlying T = some (.slice E)) (ht : tyInfo P E = some (m, b', gg, z))
    (hj : L[j]? = some (row E kd v xs)) (hx : ev ρ x = v) (hy : ev ρ y = .int kk q) (h0 : 0 ≤ q) (h1 : q ≤ (xs.length : Int))
    (hk : ∀ v', St base w0 h w (L.set j (row E kd v' (xs.take q.toNat))) → Run P f n (.inRegion ops rest :: k) (upd ρ d v') w R) : Run P f n (.inRegion ops (i :: rest) :: k) ρ w R := by
  obtain ⟨cs, hown, hel⟩ := S.row_at hj
  have hql : (xs.take q.toNat).length = q.toNat := by rw [List.length_take]; omega
  have hcs : (cs.take (q.toNat * kd.sz)).length = q.toNat * kd.sz := by rw [List.length_take, hown.1]; exact Nat.min_eq_left (Nat.mul_le_mul_right _ (by omega))
  have upd_ : ∀ v', (∀ cs, w.ownsRow 0 E kd.sz v xs.length cs → w.ownsRow 0 E kd.sz v' q.toNat (cs.take (q.toNat * kd.sz))) → (∀ g, v'.ownBlock = some g → v.ownBlock = some g) → St base w0 h w (L.set j (row E kd v' (xs.take q.toNat))) := by
    intro v' ho' hb'
    refine S.upd hj fun F hF _ => ?_
    obtain ⟨cs2, h2, h3, h4⟩ := hF
    exact ⟨Chg.refl w _, F, ⟨cs2.take (q.toNat * kd.sz), by rw [hql]; exact ho' cs2 h2, h3.take_ _, fun g hg => h4 g (hb' g hg)⟩, fun b hb => .inl hb⟩
  rcases hown.2 with ⟨hv, hz0⟩ | ⟨g, cap, cur, hv, hb, hh, hl, hc, hsz, htk⟩
  · have hq0 : q.toNat = 0 := by omega
    refine go_v (v := .slice none q.toNat 0) ho hd ?_ (hk _ (upd_ _ (fun cs h2 => ?_) (fun g hg => by simp [Value.ownBlock] at hg)))
    · have := x_slice_hi (w := w) (ρ := ρ) (x := x) (y := y) (ty := ty) (pos := pos) (af := af) (dd := some d) (g := none) hT ht (hx.trans hv) hy h0 (by omega)
      simpa using this
    · rw [hq0]; simp only [Nat.zero_mul, List.take_zero]; exact World.ownsRow_nil _ _ _ _
  · refine go_v (v := .slice (some ⟨g, 0, none⟩) q.toNat cap) ho hd ?_ (hk _ (upd_ _ (fun cs h2 => ?_) (fun g' hg => by rw [hv]; exact hg)))
    · have := x_slice_hi (w := w) (ρ := ρ) (x := x) (y := y) (ty := ty) (pos := pos) (af := af) (dd := some d) (g := none) hT ht (hx.trans hv) hy h0 (by omega)
      simpa [Addr.add] using this
    · refine ⟨by rw [List.length_take, h2.1]; exact Nat.min_eq_left (Nat.mul_le_mul_right _ (by omega)), .inr ⟨g, cap, cur, rfl, hb, hh, by omega, hc, hsz, ?_⟩⟩
      rcases h2.2 with ⟨hv', _⟩ | ⟨g', cap', cur', hv', _, hh', _, _, _, htk'⟩
      · rw [hv] at hv'; cases hv'
      · rw [hv] at hv'
        injection hv' with e1 _ _
        injection e1 with e1
        injection e1 with e1 _ _
        subst e1
        rw [hh] at hh'
        injection hh' with e2
        injection e2 with e2 _ _
        subst e2
        rw [← htk', List.take_take, Nat.min_eq_left (Nat.mul_le_mul_right _ (by omega))]

/-- A byte of a string. -/
theorem x_index_string {T : TypeId} {s : ByteArray} {q : Int} {kk : IntKind} {dd : Option Tmp} {g : Option (Nat × Bool)} (hT : P.underlying T = some .string) (hx : ev ρ x = .string s) (hy : ev ρ y = .int kk q) (h0 : 0 ≤ q) (h1 : q < (s.size : Int)) :
    (execOp (ev ρ) ⟨dd, .index T x y, ty, pos, af, g⟩).run P w = .ok (.value (.int .u8 ((s.data.toList.getD q.toNat 0).toNat : Nat))) w := by
  have hlt : q.toNat < s.size := by omega
  have hg : s[q.toNat]? = some (s.data.toList.getD q.toNat 0) := by
    rw [getElem?_pos s q.toNat hlt]
    congr 1
    have h2 : q.toNat < s.data.toList.length := by simpa using hlt
    rw [List.getD_eq_getElem?_getD, List.getElem?_eq_getElem h2]
    rfl
  simp only [execOp, hx, hy, Instr.index, asIntOf, Sem.run_bind, Sem.run_pure, Result.andThen_ok, run_underlying hT, if_pos h0, hg]
/-- A part of an array value. -/
theorem x_index_arr {T E : TypeId} {len : Nat} {cs : List Value} {q : Int} {kk : IntKind} {dd : Option Tmp} {g : Option (Nat × Bool)} {b' : Nat} {z : Option Value} {v : Value} (hT : P.underlying T = some (.array len E)) (ht : tyInfo P E = some (1, b', false, z)) (hx : ev ρ x = .agg cs.toArray) (hy : ev ρ y = .int kk q) (h0 : 0 ≤ q) (h1 : q < (len : Int)) (hv : cs[q.toNat]? = some v) :
    (execOp (ev ρ) ⟨dd, .index T x y, ty, pos, af, g⟩).run P w = .ok (.value v) w := by
  obtain ⟨ii, d2, hi, hd2, hsz, _, hg2, _⟩ := tyInfo_parts ht
  simp [execOp, hx, hy, Instr.index, asIntOf, run_underlying hT, h0, h1, rn_sizeOf hi, hsz, part, run_isAgg hd2, hg2, hv, go_sem]
/-- A field of a struct value. -/
theorem x_field {T : TypeId} {fs : Array Field} {fd : Field} {q m b' o : Nat} {gg : Bool} {z : Option Value} {cs ds : List Value} {dd : Option Tmp} {g : Option (Nat × Bool)} {v : Value} (hT : P.underlying T = some (.struct fs)) (hf : fs[q]? = some fd) (ho : fd.offset = o) (ht : tyInfo P fd.type = some (m, b', gg, z)) (hx : ev ρ x = .agg cs.toArray) (hs : (cs.drop o).take m = ds) (hm : ds.length = m) (h1 : gg = false → m = 1) (hv : packV gg ds = v) :
    (execOp (ev ρ) ⟨dd, .field T x q, ty, pos, af, g⟩).run P w = .ok (.value v) w := by
  obtain ⟨ii, d2, hi, hd2, hsz, _, hg2, _⟩ := tyInfo_parts ht
  subst ho
  cases gg with
  | true =>
    have e : cs.toArray.extract fd.offset (fd.offset + m) = ds.toArray := by
      apply Array.ext'
      rw [← hs]
      simp
    simp [execOp, hx, Instr.field, run_underlying hT, hf, asAgg, part, run_isAgg hd2, hg2, rn_sizeOf hi, hsz, e, ← hv, packV, go_sem]
    exact hs
  | false =>
    have hm1 := h1 rfl
    subst hm1
    match ds, hm with
    | [u], _ =>
      have hu : cs[fd.offset]? = some u := by
        have : ((cs.drop fd.offset).take 1)[0]? = some u := by rw [hs]; rfl
        rw [List.getElem?_take, if_pos (by omega), List.getElem?_drop] at this
        simpa using this
      simp [execOp, hx, Instr.field, run_underlying hT, hf, asAgg, part, run_isAgg hd2, hg2, hu, ← hv, packV, go_sem]
end
end Gx
