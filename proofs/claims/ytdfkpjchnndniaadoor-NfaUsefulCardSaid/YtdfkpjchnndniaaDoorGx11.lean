/- My own library for walks through the translated code, part Gx11: laws of the model alone, no word of the program. -/
import Derived.Test.YtdfkpjchnndniaaDoorGx10
namespace Gx
open Go Go.RowKit
set_option linter.unusedSimpArgs false
set_option linter.unusedSectionVars false
set_option linter.unusedVariables false

section
variable {P : Program} {f n : Nat} {k : List Item} {ρ : Env} {w w' : World} {R : Ending → World → Prop} {ops : Array Oper} {rest : List Nat} {i : Nat} {H : Held} {fuel : Nat} {listed : Array Bool}
variable {d : Tmp} {ty : TypeId} {pos : String} {af : Array Edge} {gd : Option (Nat × Bool)} {x y : Operand} {op : Op} {v : Value}

/-! ### One operation: in the order of the text -/
theorem p_v (ho : ops[i]? = some ⟨some d, op, ty, pos, af, gd⟩) (hw : wantedE ρ ops ⟨some d, op, ty, pos, af, gd⟩ = true) (hd : Nat.blt d n = true) (hr : (execOp (ev ρ) ⟨some d, op, ty, pos, af, gd⟩).run P w = .ok (.value v) w')
    (h : Run P f n (.inRegion ops rest :: k) (upd ρ d v) w' R) : Run P f n (.inRegion ops (i :: rest) :: k) ρ w R := run_op ho hw hd hr h
theorem p_s (ho : ops[i]? = some ⟨none, op, ty, pos, af, gd⟩) (hw : wantedE ρ ops ⟨none, op, ty, pos, af, gd⟩ = true) (hr : (execOp (ev ρ) ⟨none, op, ty, pos, af, gd⟩).run P w = .ok .skip w')
    (h : Run P f n (.inRegion ops rest :: k) ρ w' R) : Run P f n (.inRegion ops (i :: rest) :: k) ρ w R := run_op_skip ho hw rfl hr h
theorem p_off (ho : ops[i]? = some ⟨some d, op, ty, pos, af, gd⟩) (hw : wantedE ρ ops ⟨some d, op, ty, pos, af, gd⟩ = false) (hd : Nat.blt d n = true)
    (h : Run P f n (.inRegion ops rest :: k) (upd ρ d undef) w R) : Run P f n (.inRegion ops (i :: rest) :: k) ρ w R := run_op_off ho hw hd h
theorem p_c {g : FuncId} {args : Array Value} {Q : Value → World → Prop} (ho : ops[i]? = some ⟨some d, op, ty, pos, af, gd⟩) (hw : wantedE ρ ops ⟨some d, op, ty, pos, af, gd⟩ = true) (hd : Nat.blt d n = true) (hr : (execOp (ev ρ) ⟨some d, op, ty, pos, af, gd⟩).run P w = .ok (.enter g args) w)
    (hc : Calls P g args w fun e w2 => ∃ v, e = .returned v ∧ Q v w2) (h : ∀ v w2, Q v w2 → Run P f n (.inRegion ops rest :: k) (upd ρ d v) w2 R) : Run P f n (.inRegion ops (i :: rest) :: k) ρ w R := run_op_call ho hw hd hr hc h
theorem p_c0 {g : FuncId} {args : Array Value} {Q : Value → World → Prop} (ho : ops[i]? = some ⟨none, op, ty, pos, af, gd⟩) (hw : wantedE ρ ops ⟨none, op, ty, pos, af, gd⟩ = true) (hr : (execOp (ev ρ) ⟨none, op, ty, pos, af, gd⟩).run P w = .ok (.enter g args) w)
    (hc : Calls P g args w fun e w2 => ∃ v, e = .returned v ∧ Q v w2) (h : ∀ v w2, Q v w2 → Run P f n (.inRegion ops rest :: k) ρ w2 R) : Run P f n (.inRegion ops (i :: rest) :: k) ρ w R := run_op_call ho hw rfl hr hc h

/-! ### One operation: whatever the order -/
theorem d_q (F : World → Prop) (hF : ∀ w, Of H i w → F w) (ho : ops[i]? = some ⟨some d, op, ty, pos, af, gd⟩) (hs : Region.noSelect ops = true) (hfr : Region.free .any ops listed i = true) (hr : (Region.ready .any ops listed).contains i = true) (hw : wantedE ρ ops ⟨some d, op, ty, pos, af, gd⟩ = true) (hd : Nat.blt d n = true)
    (hv : ∀ w, F w → (execOp (ev ρ) ⟨some d, op, ty, pos, af, gd⟩).run P w = .ok (.value v) w) (hnow : Of H i w) (h : RA P f n ops H fuel (listed.setIfInBounds i true) k (upd ρ d v) w R) : RA P f n ops H (fuel + 1) listed k ρ w R :=
  ra_take ho hs hfr hr hw hd (fun w hO => hv w (hF w hO)) hnow h
theorem d_off (ho : ops[i]? = some ⟨some d, op, ty, pos, af, gd⟩) (hs : Region.noSelect ops = true) (hfr : Region.free .any ops listed i = true) (hr : (Region.ready .any ops listed).contains i = true) (hw : wantedE ρ ops ⟨some d, op, ty, pos, af, gd⟩ = false) (hd : Nat.blt d n = true)
    (hnow : Of H i w) (h : RA P f n ops H fuel (listed.setIfInBounds i true) k (upd ρ d undef) w R) : RA P f n ops H (fuel + 1) listed k ρ w R := ra_off ho hs hfr hr hw hd hnow h
theorem d_v (ho : ops[i]? = some ⟨some d, op, ty, pos, af, gd⟩) (hw : wantedE ρ ops ⟨some d, op, ty, pos, af, gd⟩ = true) (hd : Nat.blt d n = true) (hr : (execOp (ev ρ) ⟨some d, op, ty, pos, af, gd⟩).run P w = .ok (.value v) w') (hk : Gr w w' ∨ Keep ops i w' H)
    (h : RA P f n ops H fuel (listed.setIfInBounds i true) k (upd ρ d v) w' R) : RA1 P f n ops H fuel listed k ρ w R i := ra_op ho hw hd hr hk h
theorem d_s (ho : ops[i]? = some ⟨none, op, ty, pos, af, gd⟩) (hw : wantedE ρ ops ⟨none, op, ty, pos, af, gd⟩ = true) (hr : (execOp (ev ρ) ⟨none, op, ty, pos, af, gd⟩).run P w = .ok .skip w') (hk : Gr w w' ∨ Keep ops i w' H)
    (h : RA P f n ops H fuel (listed.setIfInBounds i true) k ρ w' R) : RA1 P f n ops H fuel listed k ρ w R i := ra_op_skip ho hw rfl hr hk h
theorem d_c {g : FuncId} {args : Array Value} {Q : Value → World → Prop} (ho : ops[i]? = some ⟨some d, op, ty, pos, af, gd⟩) (hw : wantedE ρ ops ⟨some d, op, ty, pos, af, gd⟩ = true) (hd : Nat.blt d n = true) (hr : (execOp (ev ρ) ⟨some d, op, ty, pos, af, gd⟩).run P w = .ok (.enter g args) w)
    (hc : Calls P g args w fun e w2 => ∃ v, e = .returned v ∧ Q v w2) (h : ∀ v w2, Q v w2 → (Gr w w2 ∨ Keep ops i w2 H) ∧ RA P f n ops H fuel (listed.setIfInBounds i true) k (upd ρ d v) w2 R) : RA1 P f n ops H fuel listed k ρ w R i := ra_op_call ho hw hd hr hc h
theorem d_c0 {g : FuncId} {args : Array Value} {Q : Value → World → Prop} (ho : ops[i]? = some ⟨none, op, ty, pos, af, gd⟩) (hw : wantedE ρ ops ⟨none, op, ty, pos, af, gd⟩ = true) (hr : (execOp (ev ρ) ⟨none, op, ty, pos, af, gd⟩).run P w = .ok (.enter g args) w)
    (hc : Calls P g args w fun e w2 => ∃ v, e = .returned v ∧ Q v w2) (h : ∀ v w2, Q v w2 → (Gr w w2 ∨ Keep ops i w2 H) ∧ RA P f n ops H fuel (listed.setIfInBounds i true) k ρ w2 R) : RA1 P f n ops H fuel listed k ρ w R i := ra_op_call ho hw rfl hr hc h
theorem of_nil (i : Nat) (w : World) : Of [] i w := fun p hp => by cases hp
theorem d_m (F : World → Prop) (hF : ∀ w, Of H i w → F w) (ho : ops[i]? = some ⟨some d, op, ty, pos, af, gd⟩) (hs : Region.noSelect ops = true) (hfr : Region.free .any ops listed i = true) (hr : (Region.ready .any ops listed).contains i = true) (hw : wantedE ρ ops ⟨some d, op, ty, pos, af, gd⟩ = true) (hd : Nat.blt d n = true)
    {g : FuncId} {args : Array Value} (he : ∀ w, (execOp (ev ρ) ⟨some d, op, ty, pos, af, gd⟩).run P w = .ok (.enter g args) w) (hv : ∀ w, F w → Calls P g args w fun e w2 => e = .returned v ∧ Gr w w2) (hnow : Of H i w) (h : RA P f n ops H fuel (listed.setIfInBounds i true) k (upd ρ d v) w R) : RA P f n ops H (fuel + 1) listed k ρ w R :=
  ra_mild ho hs hfr hr hw hd (fun w hO => ⟨g, args, he w, hv w (hF w hO)⟩) hnow h
theorem of_all {i : Nat} {w : World} (h : ∀ p ∈ H, p.2.1 w) : Of H i w := fun p hp _ => h p hp
/-- The cells from an address on. -/
def CF (ad : Addr) (seg : List Value) (w : World) : Prop := ∀ j u, seg[j]? = some u → w.cell? (ad.add j) = some u
theorem CF.grow {ad : Addr} {seg : List Value} (hc : Chg w w' (fun _ => False)) (h : CF ad seg w) : CF ad seg w' := fun j u hj => by
  have h1 := h j u hj
  have hlt := World.block_lt_of_cell? w _ h1
  exact (World.cell?_of_block (w := w) (hc.block _ hlt (fun x => x))).trans h1
def CFs (ad : Addr) (seg : List Value) : Sp := ⟨CF ad seg, fun _ _ g h => h.grow g⟩
theorem CF.same {ad : Addr} {seg : List Value} (hh : w'.heap = w.heap) (h : CF ad seg w) : CF ad seg w' := fun j u hj => by
  have h1 := h j u hj
  simpa [World.cell?, hh] using h1
theorem CF.ghost {ad : Addr} {seg : List Value} {h : Ghost} (hs : ∀ j u, seg[j]? = some u → gcell h (ad.add j) = some u) (hle : Le h (hp w)) : CF ad seg w := fun j u hj => gcell_world hle (hs j u hj)
theorem CF.box {b off m : Nat} {T : TypeId} {cs ds : List Value} (hb : w.heap[b]? = some (.cells cs.toArray T (0, 0))) (hs : (cs.drop off).take m = ds) : CF ⟨b, off, none⟩ ds w := fun q u hq => by
  have hadd : (⟨b, off, none⟩ : Addr).add q = ⟨b, off + q, none⟩ := by unfold Addr.add; split <;> simp_all
  rw [hadd, cell_box hb]
  rw [← hs, List.getElem?_take] at hq
  split at hq
  · rwa [List.getElem?_drop] at hq
  · cases hq
end

section
variable {P : Program} {ρ : Env} {w w' : World} {d : Option Tmp} {ty : TypeId} {pos : String} {af : Array Edge} {g : Option (Nat × Bool)} {x y : Operand}
variable {base : Nat} {w0 : World} {h : Ghost} {L : List Asrt}
variable {α : Type} [Inhabited α] {kd : Kd α} {xs : List α}

/-! ### From the machine's steps to the operations -/
theorem x_load {T : TypeId} {m b' : Nat} {gg : Bool} {z : Option Value} {ad : Addr} {seg : List Value} (ht : tyInfo P T = some (m, b', gg, z)) (hm : seg.length = m) (h1 : gg = false → m = 1) (hx : ev ρ x = .pointer (some ad)) (hc : CF ad seg w) :
    (execOp (ev ρ) ⟨d, .load T x, ty, pos, af, g⟩).run P w = .ok (.value (packV gg seg)) w := by
  have hl := run_loadVar (P := P) (w := w) (a := ad) ht hm h1 hc
  simp only [execOp, hx, Instr.loadAt, Instr.sureAddr, Sem.run_bind]
  show (((Sem.pure ad).run P w).andThen fun a w' => ((loadVar T a).run P w')).andThen _ = _
  simp only [Sem.run, Result.andThen_ok, hl]
  rfl
theorem x_box {T : TypeId} {v : Value} {a : Addr} (hx : ev ρ x = v) (hr : (newVar T v).run P w = .ok a w') : (execOp (ev ρ) ⟨d, .box T x, ty, pos, af, g⟩).run P w = .ok (.value (.pointer (some a))) w' := by
  simp only [execOp, Instr.box, hx, Sem.run_bind, hr, Result.andThen_ok]; rfl
theorem x_alloc {T : TypeId} {z : Value} {a : Addr} {m b' : Nat} {gg : Bool} (ht : tyInfo P T = some (m, b', gg, some z)) (hr : (newVar T z).run P w = .ok a w') : (execOp (ev ρ) ⟨d, .alloc T, ty, pos, af, g⟩).run P w = .ok (.value (.pointer (some a))) w' := by
  simp only [execOp, Instr.alloc, Sem.run_bind, zero_cells ht, Result.andThen_ok, hr]; rfl
theorem x_store {T : TypeId} {a : Operand} {v : Value} {ad : Addr} (ha : ev ρ a = .pointer (some ad)) (hx : ev ρ x = v) (hr : (storeVar T ad v).run P w = .ok () w') : (execOp (ev ρ) ⟨d, .store T a x, ty, pos, af, g⟩).run P w = .ok .skip w' := by
  simp only [execOp, ha, hx, Instr.storeAt, Instr.sureAddr, Sem.run_bind]
  show (((Sem.pure ad).run P w).andThen fun a w' => ((storeVar T a v).run P w')).andThen _ = _
  simp only [Sem.run, Result.andThen_ok, hr]
  rfl
theorem x_make {T : TypeId} {a b v : Value} (hx : ev ρ x = a) (hy : ev ρ y = b) (hr : (Instr.makeSlice T a b).run P w = .ok v w') : (execOp (ev ρ) ⟨d, .makeSlice T x y, ty, pos, af, g⟩).run P w = .ok (.value v) w' := by
  simp only [execOp, hx, hy, Sem.run_bind, hr, Result.andThen_ok]; rfl
theorem x_build_slice {T : TypeId} {len : Nat} {parts : Array (Nat × Operand)} {pv : List (Nat × Value)} {v : Value} (hp : (parts.map fun (i, x) => (i, ev ρ x)) = pv.toArray) (hr : (Instr.buildSlice T len pv.toArray).run P w = .ok v w') : (execOp (ev ρ) ⟨d, .buildSlice T len parts, ty, pos, af, g⟩).run P w = .ok (.value v) w' := by
  simp only [execOp, hp, Sem.run_bind, hr, Result.andThen_ok]; rfl
theorem x_build {T : TypeId} {parts : Array (Nat × Operand)} {pv : List (Nat × Value)} {v : Value} (hp : (parts.map fun (i, x) => (i, ev ρ x)) = pv.toArray) (hr : (Instr.build T pv.toArray).run P w = .ok v w) : (execOp (ev ρ) ⟨d, .build T parts, ty, pos, af, g⟩).run P w = .ok (.value v) w := by
  simp only [execOp, hp, Sem.run_bind, hr, Result.andThen_ok]; rfl
theorem x_append {T : TypeId} {a b v : Value} (hx : ev ρ x = a) (hy : ev ρ y = b) (hr : (Builtin.append_ #[T, T] ty #[a, b]).run P w = .ok v w') : (execOp (ev ρ) ⟨d, .call ⟨.builtin .append, #[x, y], #[T, T]⟩, ty, pos, af, g⟩).run P w = .ok (.value v) w' := by
  have h1 : ((#[x, y] : Array Operand).map (ev ρ)) = #[a, b] := by simp [hx, hy]
  simp only [execOp, resolve, invoke, builtin, Sem.run_bind, Sem.run_pure, Result.andThen_ok, h1, hr]
theorem x_slice {T : TypeId} {lo hi : Option Operand} {lv hv : Option Value} {a v : Value} (hx : ev ρ x = a) (hl : lo.map (ev ρ) = lv) (hh : hi.map (ev ρ) = hv) (hr : (Instr.sliceAt T a lv hv none).run P w = .ok v w) : (execOp (ev ρ) ⟨d, .slice T x lo hi none, ty, pos, af, g⟩).run P w = .ok (.value v) w := by
  simp only [execOp, hx, hl, hh, Option.map_none, Sem.run_bind, hr, Result.andThen_ok]; rfl
theorem x_index_ro {A : Option Addr} {ad : Addr} {len cap m b' : Nat} {q : Int} {T E : TypeId} {kk : IntKind} {gg : Bool} {z : Option Value} (hT : P.underlying T = some (.slice E)) (ht : tyInfo P E = some (m, b', gg, z))
    (hx : ev ρ x = .slice A len cap) (hy : ev ρ y = .int kk q) (hA : ∃ a, A = some a ∧ ad = a.add (q.toNat * m)) (h0 : 0 ≤ q) (h1 : q < (len : Int)) : (execOp (ev ρ) ⟨d, .indexAddr T x y, ty, pos, af, g⟩).run P w = .ok (.value (.pointer (some ad))) w := by
  obtain ⟨a, rfl, rfl⟩ := hA
  exact x_indexAddr_slice hT ht hx hy h0 h1
theorem x_index_own {v : Value} {ad : Addr} {len m b' : Nat} {q : Int} {T E : TypeId} {kk : IntKind} {gg : Bool} {z : Option Value} (hT : P.underlying T = some (.slice E)) (ht : tyInfo P E = some (m, b', gg, z))
    (hx : ev ρ x = v) (hy : ev ρ y = .int kk q) (hA : ∃ g cap, v = .slice (some ⟨g, 0, none⟩) len cap ∧ ad = ⟨g, q.toNat * m, none⟩) (h0 : 0 ≤ q) (h1 : q < (len : Int)) : (execOp (ev ρ) ⟨d, .indexAddr T x y, ty, pos, af, g⟩).run P w = .ok (.value (.pointer (some ad))) w := by
  obtain ⟨b, cap, rfl, rfl⟩ := hA
  have hadd : (⟨b, 0, none⟩ : Addr).add (q.toNat * m) = ⟨b, q.toNat * m, none⟩ := by unfold Addr.add; split <;> simp_all
  rw [← hadd]
  exact x_indexAddr_slice hT ht hx hy h0 h1
theorem x_len_own {T E : TypeId} {v : Value} {len : Nat} (hT : P.underlying T = some (.slice E)) (hx : ev ρ x = v) (hv : ∃ A c, v = .slice A len c) : (execOp (ev ρ) ⟨d, .call ⟨.builtin .len, #[x], #[T]⟩, ty, pos, af, g⟩).run P w = .ok (.value (.int .i64 len)) w := by
  obtain ⟨A, c, rfl⟩ := hv
  exact x_len_slice hT hx

/-! ### What the machine's steps do to what is owned -/
theorem e_box (S : St base w0 h w L) (T : TypeId) {v : Value} (cs : List Value) (hv : v.cells = cs.toArray) : ∃ b w', (newVar T v).run P w = .ok (⟨b, 0, none⟩ : Addr) w' ∧ Chg w w' (fun _ => False) ∧ St base w0 h w' (L ++ [box b T cs]) :=
  ⟨w.heap.size, w.alloc (.cells cs.toArray T), by simp only [newVar, newRow, newObj, hv, Sem.run_bind]; rfl, Chg.alloc _ _, S.alloc T cs⟩
theorem e_store {j b off : Nat} {T E : TypeId} {cs vs : List Value} {v : Value} {m b' : Nat} {gg : Bool} {z : Option Value} (S : St base w0 h w L) (ht : tyInfo P T = some (m, b', gg, z)) (hc : v.cells = vs.toArray) (hm : vs.length = m) (hj : L[j]? = some (box b E cs)) (hfit : off + m ≤ cs.length) (h1 : ∀ u ∈ vs, u.oneCell' = true) :
    ∃ w', (storeVar T ⟨b, off, none⟩ v).run P w = .ok () w' ∧ Chg w w' (fun q => q = b) ∧ St base w0 h w' (L.set j (box b E (lput cs off vs))) := by
  have hb := S.box_at hj
  have hlt : b < w.heap.size := (Array.getElem?_eq_some_iff.1 hb).1
  have S' : St base w0 h (putBlock w b E (lput cs off vs)) (L.set j (box b E (lput cs off vs))) := by
    refine S.upd hj fun F hF _ => ⟨(putBlock_chg w b E _).mono (fun q hq => by subst hq; exact hF.2), F, ⟨putBlock_at hlt _ _, hF.2⟩, fun q hq => .inl hq⟩
  have hr := run_storeVar_box (P := P) (v := v) ht hb (by rw [hc]; simpa using hm) hfit (by rw [hc]; simpa using h1)
  rw [hc] at hr
  exact ⟨_, hr, putBlock_chg w b E _, S'⟩
theorem e_make {T E : TypeId} {kk kk' : IntKind} {q : Int} {m b' : Nat} {gg : Bool} {zv : Value} {z : α} {zc : List Value} (S : St base w0 h w L) (hT : P.underlying T = some (.slice E)) (ht : tyInfo P E = some (m, b', gg, some zv)) (hm : kd.sz = m) (hz : zv.cells = zc.toArray) (hr : kd.rep h z zc)
    (h0 : 0 ≤ q) (hb : (b' : Int) * q ≤ 281474976710656) (h63 : q ≤ 9223372036854775807) :
    ∃ v w', (Instr.makeSlice T (.int kk q) (.int kk' q)).run P w = .ok v w' ∧ Chg w w' (fun _ => False) ∧ St base w0 h w' (L ++ [row E kd v (List.replicate q.toNat z)]) := by
  obtain ⟨ii, dd, hi, _, hs, hby, _, hzz⟩ := tyInfo_parts ht
  have hrun := run_make (P := P) w T E ii zv hT hi hzz kk kk' q q h0 (Int.le_refl _) (by rw [hby]; exact hb) h63
  rw [hz, hs, ← hm] at hrun
  refine ⟨_, _, hrun, Chg.alloc _ _, ?_⟩
  have hown := World.ownsRow_lit (e := E) (base := w.heap.size) (size := kd.sz) w (madeCells zc.toArray (q.toNat * kd.sz)) q.toNat (Nat.le_refl _) (by simp only [maxLen]; omega) (size_madeCells _ _)
  refine S.row_add (cs := (madeCells zc.toArray (q.toNat * kd.sz)).toList) (Chg.alloc _ _) ?_ (made_elems hr)
  simpa using hown
theorem e_build {T E : TypeId} {m b' len : Nat} {gg : Bool} {zv : Value} {pv : List (Nat × Value)} {cs : List Value} {zc : Array Value} (S : St base w0 h w L) (hT : P.underlying T = some (.slice E)) (ht : tyInfo P E = some (m, b', gg, some zv)) (hm : kd.sz = m) (hlen : xs.length = len) (hsmall : Nat.ble (len * m) 1000 = true)
    (hz : (if len * m = 0 then #[] else zv.cells) = zc) (hf : Instr.fill (fun i => some (i * m, m)) ((Array.range (len * m)).map (zc[· % zc.size]!)) pv = some cs.toArray) (hel : Elems kd h xs cs) :
    ∃ v w', (Instr.buildSlice T len pv.toArray).run P w = .ok v w' ∧ Chg w w' (fun _ => False) ∧ St base w0 h w' (L ++ [row E kd v xs]) := by
  have hsm : len * m ≤ 1000 := by simpa [Nat.ble_eq] using hsmall
  refine ⟨_, _, run_build_slice hT ht hsm hz hf, Chg.alloc _ _, ?_⟩
  have hcs : cs.length = len * kd.sz := by rw [hel.1, hlen]
  have hown := World.ownsRow_lit (e := E) (base := w.heap.size) (size := kd.sz) w cs.toArray len (Nat.le_refl _) (by have := kd.pos; simp only [maxLen]; rw [← hm] at hsm; have : len ≤ len * kd.sz := Nat.le_mul_of_pos_right _ kd.pos; omega) (by simpa using hcs)
  subst hlen
  refine S.row_add (cs := cs) (Chg.alloc _ _) ?_ hel
  simpa using hown
theorem e_index_ro {hh : Ghost} {A : Option Addr} {q : Int} {m : Nat} (hl : Leads kd hh A xs) (hm : kd.sz = m) (h0 : 0 ≤ q) (h1 : q < (xs.length : Int)) : ∃ ad seg, (∃ a, A = some a ∧ ad = a.add (q.toNat * m)) ∧ kd.rep hh (at_ xs q) seg ∧ ∀ j u, seg[j]? = some u → gcell hh (ad.add j) = some u := by
  obtain ⟨a, e, seg, h2, h3⟩ := hl.seg h0 h1
  subst hm
  exact ⟨_, seg, ⟨a, e, rfl⟩, h2, h3⟩
theorem e_index_own {j : Nat} {v : Value} {q : Int} {m : Nat} {E : TypeId} (S : St base w0 h w L) (hj : L[j]? = some (row E kd v xs)) (hm : kd.sz = m) (h0 : 0 ≤ q) (h1 : q < (xs.length : Int)) :
    ∃ ad, (∃ g cap, v = .slice (some ⟨g, 0, none⟩) xs.length cap ∧ ad = ⟨g, q.toNat * m, none⟩) ∧ AtOwn v m q ad := by
  obtain ⟨cs, hown, _⟩ := S.row_at hj
  rcases hown.2 with ⟨_, he⟩ | ⟨g, cap, cur, hv, _⟩
  · omega
  · exact ⟨_, ⟨g, cap, hv, rfl⟩, g, by rw [hv]; rfl, rfl⟩
theorem e_load_own {j : Nat} {v : Value} {q : Int} {m : Nat} {T : TypeId} {ad : Addr} (S : St base w0 h w L) (hj : L[j]? = some (row T kd v xs)) (hm : kd.sz = m) (ha : AtOwn v m q ad) (h0 : 0 ≤ q) (hq : q < (xs.length : Int)) : ∃ seg, kd.rep h (at_ xs q) seg ∧ CF ad seg w := by
  obtain ⟨cs, hown, hel⟩ := S.row_at hj
  obtain ⟨g, hg, rfl⟩ := ha
  subst hm
  refine ⟨_, hel.2 _ _ (at_some h0 hq), fun p u hp => ?_⟩
  rw [List.getElem?_take] at hp
  split at hp
  · rw [List.getElem?_drop] at hp
    have := hown.cells hg _ u hp
    rwa [show (⟨g, q.toNat * kd.sz, none⟩ : Addr).add p = (⟨g, 0, none⟩ : Addr).add (q.toNat * kd.sz + p) by
      unfold Addr.add; split <;> split <;> simp_all]
  · cases hp
theorem e_len_own {j : Nat} {v : Value} {T : TypeId} (S : St base w0 h w L) (hj : L[j]? = some (row T kd v xs)) : ∃ A c, v = .slice A xs.length c := by
  obtain ⟨A, c, e, _⟩ := S.row_val hj
  exact ⟨A, c, e⟩
end
end Gx
