/- My own library for walks through the translated code, part Gx14: laws of the model alone, no word of the program. -/
import Derived.Test.YtdfkpjchnndniaaDoorGx13
namespace Gx
open Go Go.RowKit
set_option linter.unusedSimpArgs false
set_option linter.unusedSectionVars false
set_option linter.unusedVariables false

def fieldInfo (P : Program) (T : TypeId) (q : Nat) : Option (Nat × TypeId) :=
  match P.underlying T with
  | some (.struct fs) => (fs[q]?).map fun f => (f.offset, f.type)
  | _ => none
def placesInfo (P : Program) (T : TypeId) : Option (List (Nat × Nat)) :=
  match P.underlying T with
  | some (.struct fs) => fs.toList.mapM fun f => (P.info? f.type).map fun i => (f.offset, i.size)
  | _ => none
theorem fieldInfo_parts {P : Program} {T : TypeId} {q o : Nat} {ft : TypeId} (h : fieldInfo P T q = some (o, ft)) : ∃ fs fd, P.underlying T = some (.struct fs) ∧ fs[q]? = some fd ∧ fd.offset = o ∧ fd.type = ft := by
  unfold fieldInfo at h
  split at h
  · rename_i fs hu
    cases hq : fs[q]? with
    | none => rw [hq] at h; cases h
    | some fd =>
      rw [hq] at h
      simp only [Option.map_some, Option.some.injEq, Prod.mk.injEq] at h
      exact ⟨fs, fd, hu, hq, h.1, h.2⟩
  · cases h

section
variable {P : Program} {ρ : Env} {w w' : World} {d : Option Tmp} {ty : TypeId} {pos : String} {af : Array Edge} {g : Option (Nat × Bool)} {x y : Operand}
theorem x_fieldAt {b off q o : Nat} {T ft : TypeId} {m b' : Nat} {gg : Bool} {z : Option Value} (hf : fieldInfo P T q = some (o, ft)) (hs : tyInfo P ft = some (m, b', gg, z)) (hm : Nat.blt 0 m = true) (hx : ev ρ x = .pointer (some ⟨b, off, none⟩)) :
    (execOp (ev ρ) ⟨d, .fieldAddr T x q, ty, pos, af, g⟩).run P w = .ok (.value (.pointer (some ⟨b, off + o, none⟩))) w := by
  obtain ⟨fs, fd, hu, hq, ho, rfl⟩ := fieldInfo_parts hf
  exact x_fieldAddr hu hq ho hs (by simpa [Nat.blt_eq] using hm) hx
theorem x_fieldOf {T ft : TypeId} {q m b' o : Nat} {gg : Bool} {z : Option Value} {cs ds : List Value} {v : Value} (hf : fieldInfo P T q = some (o, ft)) (ht : tyInfo P ft = some (m, b', gg, z)) (hx : ev ρ x = .agg cs.toArray) (hs : (cs.drop o).take m = ds) (hm : ds.length = m) (h1 : gg = false → m = 1) (hv : packV gg ds = v) :
    (execOp (ev ρ) ⟨d, .field T x q, ty, pos, af, g⟩).run P w = .ok (.value v) w := by
  obtain ⟨fs, fd, hu, hq, ho, rfl⟩ := fieldInfo_parts hf
  exact x_field hu hq ho ht hx hs hm h1 hv
theorem mapM_places {P : Program} {w : World} : ∀ (l : List Field) (ps : List (Nat × Nat)), l.mapM (fun f => (P.info? f.type).map fun i => (f.offset, i.size)) = some ps → (l.mapM fun f => (do pure (f.offset, ← Go.sizeOf f.type) : Sem (Nat × Nat))).run P w = .ok ps w
  | [], ps, h => by
    simp only [List.mapM_nil, Option.pure_def, Option.some.injEq] at h
    subst h
    rfl
  | f :: l, ps, h => by
    rw [List.mapM_cons] at h
    cases hi : P.info? f.type with
    | none => simp [hi] at h
    | some i =>
      cases hl : l.mapM (fun f => (P.info? f.type).map fun i => (f.offset, i.size)) with
      | none => simp [hi, hl] at h
      | some qs =>
        simp [hi, hl] at h
        subst h
        have ih := mapM_places (w := w) l qs hl
        rw [List.mapM_cons]
        simp only [Sem.run_bind, rn_sizeOf hi, Result.andThen_ok, Sem.run_pure, ih]
theorem run_build_struct {T : TypeId} {ps : List (Nat × Nat)} {zc : Array Value} {m b' : Nat} {gg : Bool} {zv : Value} {pv : List (Nat × Value)} {cs : List Value} (hp : placesInfo P T = some ps) (ht : tyInfo P T = some (m, b', gg, some zv)) (hz : zv.cells = zc)
    (hf : Instr.fill (ps.toArray[·]?) zc pv = some cs.toArray) : (Instr.build T pv.toArray).run P w = .ok (.agg cs.toArray) w := by
  unfold placesInfo at hp
  split at hp
  · rename_i fs hu
    have h1 := mapM_places (w := w) fs.toList ps hp
    have h2 : (fs.mapM fun f => (do pure (f.offset, ← Go.sizeOf f.type) : Sem (Nat × Nat))).run P w = .ok ps.toArray w := by
      rw [Array.mapM_eq_mapM_toList, Sem.run_map]
      show ((fs.toList.mapM fun f => (do pure (f.offset, ← Go.sizeOf f.type) : Sem (Nat × Nat))).run P w).andThen _ = _
      rw [h1]; rfl
    subst hz
    simp only [Instr.build, Sem.run_bind, zero_cells ht, Result.andThen_ok, run_underlying hu, h2, hf]
    rfl
  · cases hp
end
theorem calls_some {P : Program} {f : FuncId} {args : Array Value} {w : World} {R : Ending → World → Prop} (h : Calls P f args w R) : ∃ e w', R e w' := by
  obtain ⟨e, w', _, hr, _⟩ := h []
  exact ⟨e, w', hr⟩
def LeadsS {α : Type} [Inhabited α] (kd : Kd α) (A : Option Addr) (xs : List α) : Sp := ⟨fun w => Leads kd (hp w) A xs, fun _ _ g h => h.mono (Le.below (Chg.below g))⟩
/-- A block that holds these cells from its start on. -/
def Block (b : Nat) (cs : List Value) (w : World) : Prop := ∀ j, j < cs.length → w.cell? ⟨b, j, none⟩ = cs[j]?
theorem Block.gr {b : Nat} {cs : List Value} {w w2 : World} (g : Gr w w2) (h : Block b cs w) : Block b cs w2 := fun j hj => by
  have h1 := h j hj
  rw [List.getElem?_eq_getElem hj] at h1 ⊢
  have hlt := World.block_lt_of_cell? w _ h1
  exact (World.cell?_of_block (w := w) (g.block _ hlt (fun x => x))).trans h1
def BlockS (b : Nat) (cs : List Value) : Sp := ⟨Block b cs, fun _ _ g h => h.gr g⟩
theorem Block.st {b : Nat} {cs : List Value} {w w2 : World} {h : Ghost} {L : List Asrt} (S : St w.heap.size w h w2 L) (hb : Block b cs w) : Block b cs w2 := hb.gr (Chg.of_below S.below)
section
variable {ops : Array Oper} {H : Held} {i j : Nat} {F : Sp} {w : World}
theorem keep_w (hw : waits ops j i = true) (h : Keep ops j w H) : Keep ops j w ((i, F) :: H) := ⟨fun e => (by rw [hw] at e; cases e), h⟩
theorem keep_v (hf : F.1 w) (h : Keep ops j w H) : Keep ops j w ((i, F) :: H) := ⟨fun _ => hf, h⟩
end
section
variable {H : Held} {i j : Nat} {F : Sp} {w : World}
theorem of_eq (hf : F.1 w) (h : Of H i w) : Of ((j, F) :: H) i w := fun p hp hi => by
  rcases List.mem_cons.1 hp with e | e
  · subst e; exact hf
  · exact h p e hi
theorem of_ne (hn : Nat.beq j i = false) (h : Of H i w) : Of ((j, F) :: H) i w := fun p hp hi => by
  rcases List.mem_cons.1 hp with e | e
  · subst e; simp at hi; subst hi; simp at hn
  · exact h p e hi
end
end Gx
