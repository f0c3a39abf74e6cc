/- My own library for walks through the translated code, part Gx5: laws of the model alone, no word of the program. -/
import Derived.Test.YtdfkpjchnndniaaDoorGx4
namespace Gx
open Go Go.RowKit
set_option linter.unusedSimpArgs false

section
variable {P : Program} {f n : Nat} {k : List Item} {ρ : Env} {w : World} {R : Ending → World → Prop} {ops : Array Oper} {rest : List Nat} {i : Nat}
variable {d : Tmp} {ty : TypeId} {pos : String} {af : Array Edge} {x y : Operand} {op : Op}

/-- An operation that hands back a value and leaves the world as it was. -/
theorem go_v {v : Value} (ho : ops[i]? = some ⟨some d, op, ty, pos, af, none⟩) (hd : Nat.blt d n = true) (hr : (execOp (ev ρ) ⟨some d, op, ty, pos, af, none⟩).run P w = .ok (.value v) w)
    (h : Run P f n (.inRegion ops rest :: k) (upd ρ d v) w R) : Run P f n (.inRegion ops (i :: rest) :: k) ρ w R := run_op ho rfl hd hr h
theorem run_reg {id : Nat} {l : List Nat} (hl : List.range ops.size = l) (h : Run P f n (.inRegion ops l :: k) ρ w R) : Run P f n (.code (.region id ops false) :: k) ρ w R := run_region (by rw [hl]; exact h)

/-- The ways meet again behind a part of a region. -/
theorem run_fork {l1 l2 : List Nat} (Q : Env → World → Prop) (h1 : (∀ ρ' w', Q ρ' w' → Run P f n (.inRegion ops l2 :: k) ρ' w' R) → Run P f n (.inRegion ops (l1 ++ l2) :: k) ρ w R) (h2 : ∀ ρ' w', Q ρ' w' → Run P f n (.inRegion ops l2 :: k) ρ' w' R) :
    Run P f n (.inRegion ops (l1 ++ l2) :: k) ρ w R := h1 h2
/-- The ways meet again behind a piece of code. -/
theorem run_join {c : Code} (Q : Env → World → Prop) (h1 : (∀ ρ' w', Q ρ' w' → Run P f n k ρ' w' R) → Run P f n (.code c :: k) ρ w R) (h2 : ∀ ρ' w', Q ρ' w' → Run P f n k ρ' w' R) : Run P f n (.code c :: k) ρ w R := h1 h2

/-! ### Memory -/
variable {base : Nat} {w0 : World} {h : Ghost} {L : List Asrt}

theorem box_new (w : World) (T : TypeId) (cs : List Value) (h : Ghost) : (box w.heap.size T cs).holds h (w.alloc (.cells cs.toArray T)) (fun b => b = w.heap.size) := by
  refine ⟨?_, rfl⟩
  show (w.heap.push (.cells cs.toArray T))[w.heap.size]? = _
  simp
theorem St.alloc (S : St base w0 h w L) (T : TypeId) (cs : List Value) : St base w0 h (w.alloc (.cells cs.toArray T)) (L ++ [box w.heap.size T cs]) := by
  have T1 : St w.heap.size w (fun _ => none) (w.alloc (.cells cs.toArray T)) [box w.heap.size T cs] := by
    refine ⟨(Chg.alloc w _).below, by simp, fun _ _ e => (by cases e), fun _ _ e => (by cases e), fun _ b => b = w.heap.size, fun j A hj => ?_, fun i j hi hj hij => ?_⟩
    · have : j = 0 := by
        have := (List.getElem?_eq_some_iff.1 hj).1
        simpa using this
      subst this
      simp only [List.getElem?_cons_zero, Option.some.injEq] at hj
      subst hj
      exact ⟨box_new w T cs _, fun b hb => ⟨by omega, by subst hb; simp, rfl⟩⟩
    · simp at hi hj; omega
  have := S.call T1
  have e : gor h (fun _ => none) = h := by funext b; unfold gor; cases h b <;> rfl
  rwa [e] at this

theorem zero_cells {T : TypeId} {n b : Nat} {g : Bool} {z : Value} (ht : tyInfo P T = some (n, b, g, some z)) : (zeroValue T).run P w = .ok z w := by
  obtain ⟨i, dd, hi, _, _, _, _, hz⟩ := tyInfo_parts ht
  simp [zeroValue, typeInfo, hi, hz, go_sem]
/-- A new variable. -/
theorem go_box {T : TypeId} {v : Value} {cs : List Value} (S : St base w0 h w L) (ho : ops[i]? = some ⟨some d, .box T x, ty, pos, af, none⟩) (hd : Nat.blt d n = true) (hx : ev ρ x = v) (hv : v.cells = cs.toArray)
    (hk : ∀ b w', St base w0 h w' (L ++ [box b T cs]) → Run P f n (.inRegion ops rest :: k) (upd ρ d (.pointer (some ⟨b, 0, none⟩))) w' R) : Run P f n (.inRegion ops (i :: rest) :: k) ρ w R := by
  refine run_op (v := .pointer (some ⟨w.heap.size, 0, none⟩)) (w' := w.alloc (.cells cs.toArray T)) ho rfl hd ?_ (hk w.heap.size _ (S.alloc T cs))
  simp only [execOp, Instr.box, newVar, newRow, newObj, hx, hv, Sem.run_bind]
  rfl
theorem go_alloc {T : TypeId} {z : Value} {m b' : Nat} {g : Bool} {cs : List Value} (S : St base w0 h w L) (ho : ops[i]? = some ⟨some d, .alloc T, ty, pos, af, none⟩) (hd : Nat.blt d n = true) (ht : tyInfo P T = some (m, b', g, some z)) (hv : z.cells = cs.toArray)
    (hk : ∀ b w', St base w0 h w' (L ++ [box b T cs]) → Run P f n (.inRegion ops rest :: k) (upd ρ d (.pointer (some ⟨b, 0, none⟩))) w' R) : Run P f n (.inRegion ops (i :: rest) :: k) ρ w R := by
  refine run_op (v := .pointer (some ⟨w.heap.size, 0, none⟩)) (w' := w.alloc (.cells cs.toArray T)) ho rfl hd ?_ (hk w.heap.size _ (S.alloc T cs))
  simp only [execOp, Instr.alloc, newVar, newRow, newObj, Sem.run_bind, zero_cells ht, Result.andThen_ok, hv]
  rfl

theorem St.box_at {j b : Nat} {T : TypeId} {cs : List Value} (S : St base w0 h w L) (hj : L[j]? = some (box b T cs)) : w.heap[b]? = some (.cells cs.toArray T (0, 0)) := by
  obtain ⟨Fs, hF, _⟩ := S.sep
  exact ((hF j _ hj).1).1

/-- A variable (or a part of one) is read. -/
theorem go_load {j b off : Nat} {T E : TypeId} {cs ds : List Value} {v : Value} {m b' : Nat} {g : Bool} {z : Option Value} (S : St base w0 h w L) (ho : ops[i]? = some ⟨some d, .load T x, ty, pos, af, none⟩) (hd : Nat.blt d n = true)
    (ht : tyInfo P T = some (m, b', g, z)) (hx : ev ρ x = .pointer (some ⟨b, off, none⟩)) (hj : L[j]? = some (box b E cs)) (hs : (cs.drop off).take m = ds) (hm : ds.length = m) (h1 : g = false → m = 1) (hv : packV g ds = v)
    (hk : Run P f n (.inRegion ops rest :: k) (upd ρ d v) w R) : Run P f n (.inRegion ops (i :: rest) :: k) ρ w R := by
  have hb := S.box_at hj
  refine go_v ho hd ?_ hk
  have hr := run_loadVar (P := P) (w := w) (a := ⟨b, off, none⟩) ht hm h1 (fun q u hq => by
    have hadd : (⟨b, off, none⟩ : Addr).add q = ⟨b, off + q, none⟩ := by unfold Addr.add; split <;> simp_all
    rw [hadd, cell_box hb]
    rw [← hs, List.getElem?_take] at hq
    split at hq
    · rwa [List.getElem?_drop] at hq
    · cases hq)
  simp only [execOp, hx, Instr.loadAt, Instr.sureAddr, Sem.run_bind]
  show (((Sem.pure (⟨b, off, none⟩ : Addr)).run P w).andThen fun a w' => ((loadVar T a).run P w')).andThen _ = _
  simp only [Sem.run, Result.andThen_ok, hr, hv]
  rfl

/-- A variable (or a part of one) is written. -/
theorem go_store {j b off : Nat} {T E : TypeId} {cs vs : List Value} {v : Value} {m b' : Nat} {g : Bool} {z : Option Value} {a : Operand} (S : St base w0 h w L) (ho : ops[i]? = some ⟨none, .store T a x, ty, pos, af, none⟩)
    (ht : tyInfo P T = some (m, b', g, z)) (ha : ev ρ a = .pointer (some ⟨b, off, none⟩)) (hx : ev ρ x = v) (hc : v.cells = vs.toArray) (hm : vs.length = m) (hj : L[j]? = some (box b E cs)) (hfit : off + m ≤ cs.length) (h1 : ∀ u ∈ vs, u.oneCell' = true)
    (hk : ∀ w', St base w0 h w' (L.set j (box b E (lput cs off vs))) → Run P f n (.inRegion ops rest :: k) ρ w' R) : Run P f n (.inRegion ops (i :: rest) :: k) ρ w R := by
  have hb := S.box_at hj
  have hlt : b < w.heap.size := (Array.getElem?_eq_some_iff.1 hb).1
  have S' : St base w0 h (putBlock w b E (lput cs off vs)) (L.set j (box b E (lput cs off vs))) := by
    refine S.upd hj fun F hF _ => ⟨(putBlock_chg w b E _).mono (fun q hq => by subst hq; exact hF.2), F, ⟨putBlock_at hlt _ _, hF.2⟩, fun q hq => .inl hq⟩
  refine run_op_skip (w' := putBlock w b E (lput cs off vs)) ho rfl rfl ?_ (hk _ S')
  have hr := run_storeVar_box (P := P) (v := v) ht hb (by rw [hc]; simpa using hm) hfit (by rw [hc]; simpa using h1)
  rw [hc] at hr
  simp only [execOp, ha, hx, Instr.storeAt, Instr.sureAddr, Sem.run_bind]
  show (((Sem.pure (⟨b, off, none⟩ : Addr)).run P w).andThen fun a w' => ((storeVar T a v).run P w')).andThen _ = _
  simp only [Sem.run, Result.andThen_ok, hr]
  rfl

/-- The address of a field. -/
theorem x_fieldAddr {dd : Option Tmp} {g : Option (Nat × Bool)} {b off q o : Nat} {T : TypeId} {fs : Array Field} {fd : Field} {m b' : Nat} {gg : Bool} {z : Option Value} (ht : P.underlying T = some (.struct fs)) (hf : fs[q]? = some fd) (ho : fd.offset = o) (hs : tyInfo P fd.type = some (m, b', gg, z)) (hm : 0 < m)
    (hx : ev ρ x = .pointer (some ⟨b, off, none⟩)) : (execOp (ev ρ) ⟨dd, .fieldAddr T x q, ty, pos, af, g⟩).run P w = .ok (.value (.pointer (some ⟨b, off + o, none⟩))) w := by
  obtain ⟨ii, d2, hi, hd2, hsz, _, _, _⟩ := tyInfo_parts hs
  have hadd : (⟨b, off, none⟩ : Addr).add o = ⟨b, off + o, none⟩ := by unfold Addr.add; split <;> simp_all
  subst ho
  simp [execOp, hx, Instr.fieldAt, Instr.sureAddr, run_underlying ht, hf, fieldPlace, rn_sizeOf hi, hsz, (show ¬ m = 0 by omega), hadd, go_sem]
/-- The address of an array's element. -/
theorem x_indexAddr_arr {dd : Option Tmp} {g : Option (Nat × Bool)} {b off len : Nat} {q : Int} {T E : TypeId} {kk : IntKind} {m b' : Nat} {gg : Bool} {z : Option Value} (ht : P.underlying T = some (.array len E)) (hs : tyInfo P E = some (m, b', gg, z))
    (hx : ev ρ x = .pointer (some ⟨b, off, none⟩)) (hy : ev ρ y = .int kk q) (h0 : 0 ≤ q) (h1 : q < len) : (execOp (ev ρ) ⟨dd, .indexAddr T x y, ty, pos, af, g⟩).run P w = .ok (.value (.pointer (some ⟨b, off + q.toNat * m, none⟩))) w := by
  obtain ⟨ii, d2, hi, hd2, hsz, _, _, _⟩ := tyInfo_parts hs
  have hadd : (⟨b, off, none⟩ : Addr).add (q.toNat * m) = ⟨b, off + q.toNat * m, none⟩ := by unfold Addr.add; split <;> simp_all
  simp [execOp, hx, hy, Instr.indexAt, asIntOf, Instr.sureAddr, run_underlying ht, rn_sizeOf hi, hsz, h0, h1, hadd, go_sem]
end
end Gx
