/- My own library for walks through the translated code, part M3: laws of the model alone, no word of the program. -/
import Derived.Test.YtdfkpjchnndniaaDoorM2
import Derived.Laws.Cover3
namespace Gx
open Go Go.RowKit
set_option linter.unusedSimpArgs false
set_option linter.unusedVariables false
theorem cons_eq {α : Type} {a b : α} {l m : List α} (h : a = b) (k : l = m) : a :: l = b :: m := by rw [h, k]
theorem lput_all {cs vs : List Value} (h : vs.length = cs.length) : lput cs 0 vs = vs := by
  rw [lput_eq vs cs 0 (by omega)]
  simp [h]
section
variable {P : Program} {w : World}
theorem run_build_array {T E : TypeId} {n m b' b2 : Nat} {gg g2 : Bool} {z : Option Value} {zv : Value} {pv : List (Nat × Value)} {cs : List Value} (hT : P.underlying T = some (.array n E)) (hE : tyInfo P E = some (m, b', gg, z)) (ht : tyInfo P T = some (n * m, b2, g2, some zv))
    (hf : Instr.fill (fun i => some (i * m, m)) zv.cells pv = some cs.toArray) : (Instr.build T pv.toArray).run P w = .ok (.agg cs.toArray) w := by
  obtain ⟨ii, d2, hii, hd2, hsz, _, hg, _⟩ := tyInfo_parts hE
  simp only [Instr.build, Sem.run_bind, zero_cells ht, Result.andThen_ok, run_underlying hT, rn_sizeOf hii, hsz, hf]
  rfl
end
/-- Some of what is owned, in another order. -/
theorem St.sub {base : Nat} {w0 w : World} {h : Ghost} {L : List Asrt} (S : St base w0 h w L) (is : List Nat) (hnd : is.Nodup) (hlt : (is.all fun i => Nat.blt i L.length) = true) (L' : List Asrt) (hL : L' = is.map fun i => L.getD i emp) : St base w0 h w L' :=
  S.pick is hnd (fun i hi => by have := List.all_eq_true.1 hlt i hi; simpa [Nat.blt_eq] using this) L' hL
section
variable {P : Program} {ρ : Env} {w w' : World} {d : Option Tmp} {ty : TypeId} {pos : String} {af : Array Edge} {g : Option (Nat × Bool)} {x y : Operand}
theorem y_call {fo : Operand} {f : FuncId} {as : Array Operand} {ts : Array TypeId} {cap : Array Value} {args : List Value} (hf : Callable P f)
    (ho : ev ρ fo = .func (.func f) #[] cap) (ha : as.toList.map (ev ρ) ++ cap.toList = args) : (execOp (ev ρ) ⟨d, .call ⟨.value fo, as, ts⟩, ty, pos, af, g⟩).run P w = .ok (.enter f args.toArray) w := by
  refine x_call hf ho ?_
  subst ha
  apply Array.ext'
  simp
theorem y_makeFunc {fn : Fn} {fs cs : Array Operand} {fv cv : List Value} (hf : fs.toList.map (ev ρ) = fv) (hc : cs.toList.map (ev ρ) = cv) : (execOp (ev ρ) ⟨d, .makeFunc fn fs cs, ty, pos, af, g⟩).run P w = .ok (.value (.func fn fv.toArray cv.toArray)) w := by
  refine x_makeFunc ?_ ?_
  · subst hf; apply Array.ext'; simp
  · subst hc; apply Array.ext'; simp
theorem y_build_slice {T : TypeId} {len : Nat} {parts : Array (Nat × Operand)} {pv : List (Nat × Value)} {v : Value} (hp : parts.toList.map (fun p => (p.1, ev ρ p.2)) = pv) (hr : (Instr.buildSlice T len pv.toArray).run P w = .ok v w') : (execOp (ev ρ) ⟨d, .buildSlice T len parts, ty, pos, af, g⟩).run P w = .ok (.value v) w' := by
  refine x_build_slice ?_ hr
  subst hp; apply Array.ext'; simp
theorem y_build {T : TypeId} {parts : Array (Nat × Operand)} {pv : List (Nat × Value)} {v : Value} (hp : parts.toList.map (fun p => (p.1, ev ρ p.2)) = pv) (hr : (Instr.build T pv.toArray).run P w = .ok v w) : (execOp (ev ρ) ⟨d, .build T parts, ty, pos, af, g⟩).run P w = .ok (.value v) w := by
  refine x_build ?_ hr
  subst hp; apply Array.ext'; simp
end
section
variable {P : Program} {f n : Nat} {k : List Item} {ρ : Env} {w : World} {R : Ending → World → Prop} {ops : Array Oper}
theorem da_start {id : Nat} (H : Held) (m : Nat) (hn : ops.size = m) (hm : P.follows .mixedOrders = true) (h : ∀ w', Chg w w' (fun _ => False) → w'.heap = w.heap → RA P f n ops H m (Array.replicate m false) k ρ w' R) : Run P f n (.code (.region id ops true) :: k) ρ w R := by
  subst hn
  exact ra_start H hm h
end
structure Spot where
  set : BSet
  tag : Int
deriving DecidableEq
instance : Inhabited Spot := ⟨⟨0, 0⟩⟩
def encSpot (s : Spot) : List Value := [.int .u64 (wd s.set 0), .int .u64 (wd s.set 1), .int .u64 (wd s.set 2), .int .u64 (wd s.set 3), .int .u8 s.tag]
theorem encSpot_one (s : Spot) : ∀ u ∈ encSpot s, u.oneCell' = true := by simp [encSpot, Value.oneCell']
def okSpot (s : Spot) : Prop := inK .u8 s.tag
def kSpot : Kd Spot := .flat encSpot okSpot 5 (by omega) (fun _ _ => rfl) encSpot_one
structure Mach where
  spots : List Spot
  first : List Int
  follow : List (List Int)
  last : List Bool
  empty : Bool
instance : Inhabited Mach := ⟨⟨[], [], [], [], false⟩⟩
theorem ones_nil : ∀ v ∈ ([] : List Value), v.cells = #[v] := fun v hv => by cases hv
theorem ones_cons {v : Value} {vs : List Value} (h : v.cells = #[v]) (hs : ∀ v ∈ vs, v.cells = #[v]) : ∀ u ∈ v :: vs, u.cells = #[u] := fun u hu => by
  rcases List.mem_cons.1 hu with e | e
  · rw [e]; exact h
  · exact hs u e
/-- Values under their numbers. -/
def num : Nat → List Value → List (Nat × Value)
  | _, [] => []
  | k, v :: vs => (k, v) :: num (k + 1) vs
theorem fill_num : ∀ (vs : List Value) (k : Nat) (cs : List Value), (∀ v ∈ vs, v.cells = #[v]) → k + vs.length ≤ cs.length → Instr.fill (fun i => some (i * 1, 1)) cs.toArray (num k vs) = some (cs.take k ++ vs ++ cs.drop (k + vs.length)).toArray
  | [], k, cs, _, _ => by simp [num, Instr.fill]
  | v :: vs, k, cs, h1, h2 => by
    have hv := h1 v (by simp)
    simp only [List.length_cons] at h2
    have hns : ¬ (v.cells.size ≠ 1 ∨ k * 1 + v.cells.size > cs.length) := by rw [hv]; simp; omega
    simp only [num, Instr.fill]
    rw [if_neg (by simpa using hns)]
    have e : (v.cells.zipIdx.foldl (fun cs (c, j) => cs.setIfInBounds (k * 1 + j) c) cs.toArray) = (cs.set k v).toArray := by
      rw [hv]; simp
    rw [e, fill_num vs (k + 1) (cs.set k v) (fun u hu => h1 u (by simp [hu])) (by simp; omega)]
    congr 2
    rw [List.take_succ_eq_append_getElem (by simp; omega)]
    simp only [List.getElem_set_self, List.take_set_of_le (Nat.le_refl k), List.drop_set, List.length_cons, List.append_assoc, List.cons_append, List.nil_append]
    rw [if_pos (by omega), show k + 1 + vs.length = k + (vs.length + 1) by omega]
theorem fill_ones (vs : List Value) (z : Value) {zc : Array Value} (hz : zc = #[z]) (h1 : ∀ v ∈ vs, v.cells = #[v]) : Instr.fill (fun i => some (i * 1, 1)) ((Array.range (vs.length * 1)).map (zc[· % zc.size]!)) (num 0 vs) = some vs.toArray := by
  have e : ((Array.range (vs.length * 1)).map (zc[· % zc.size]!)) = (((Array.range (vs.length * 1)).map (zc[· % zc.size]!)).toList).toArray := rfl
  rw [e, fill_num vs 0 _ h1 (by simp)]
  simp
section
variable {P : Program} {w : World} {base : Nat} {w0 : World} {h : Ghost} {L : List Asrt} {α : Type} [Inhabited α] {kd : Kd α} {xs : List α}
/-- A slice that is written out, each element of one cell. -/
theorem e_build_ones {T E : TypeId} {b' len : Nat} {gg : Bool} {zv : Value} (vs : List Value) (S : St base w0 h w L) (hT : P.underlying T = some (.slice E)) (ht : tyInfo P E = some (1, b', gg, some zv)) (hm : kd.sz = 1) (hz : zv.cells = #[zv]) (hlen : xs.length = len) (hl2 : vs.length = len) (hsmall : Nat.ble (len * 1) 1000 = true)
    (h1 : ∀ v ∈ vs, v.cells = #[v]) (cs : List Value) (hel : Elems kd h xs cs) (hcs : cs = vs) :
    ∃ v w', (Instr.buildSlice T len (num 0 vs).toArray).run P w = .ok v w' ∧ Chg w w' (fun _ => False) ∧ St base w0 h w' (L ++ [row E kd v xs]) := by
  subst hl2
  subst hcs
  cases cs with
  | nil => exact e_build (cs := []) (zc := #[]) S hT ht hm hlen hsmall rfl (by simp [num, Instr.fill]) hel
  | cons v vs =>
    refine e_build S hT ht hm hlen hsmall (zc := #[zv]) ?_ (fill_ones (v :: vs) zv rfl h1) hel
    rw [if_neg (by simp), hz]
end
section
variable {P : Program} {ρ : Env} {w w' : World} {d : Option Tmp} {ty : TypeId} {pos : String} {af : Array Edge} {g : Option (Nat × Bool)} {x y : Operand}
theorem x_eql_nil {A : Option Addr} {l c : Nat} {t t2 e : TypeId} (hT : P.underlying t = some (.slice e)) (hx : ev ρ x = .slice A l c) (hy : ev ρ y = .slice none 0 0) : (execOp (ev ρ) ⟨d, .binOp .eql t x y t2, ty, pos, af, g⟩).run P w = .ok (.value (.bool A.isNone)) w := by
  have hg : (eqGuard .eql t x y (.slice A l c) (.slice none 0 0)).run P w = .ok () w := by unfold eqGuard; rfl
  have h1 := run_equalIn_slice_nil (P := P) (w := w) 9999 t e A l c hT
  simp only [execOp, hx, hy, Sem.run_bind, hg, Result.andThen_ok, binOp, Op.equal, Op.maxDepth]
  rw [show (10000 : Nat) = 9999 + 1 from rfl, h1]
  rfl
theorem x_neq_nil {A : Option Addr} {l c : Nat} {t t2 e : TypeId} (hT : P.underlying t = some (.slice e)) (hx : ev ρ x = .slice A l c) (hy : ev ρ y = .slice none 0 0) : (execOp (ev ρ) ⟨d, .binOp .neq t x y t2, ty, pos, af, g⟩).run P w = .ok (.value (.bool (!A.isNone))) w := by
  have hg : (eqGuard .neq t x y (.slice A l c) (.slice none 0 0)).run P w = .ok () w := by unfold eqGuard; rfl
  have h1 := run_equalIn_slice_nil (P := P) (w := w) 9999 t e A l c hT
  simp only [execOp, hx, hy, Sem.run_bind, hg, Result.andThen_ok, binOp, Op.equal, Op.maxDepth]
  rw [show (10000 : Nat) = 9999 + 1 from rfl, h1]
  rfl
theorem leads_isNone {α : Type} [Inhabited α] {k : Kd α} {h : Ghost} {A : Option Addr} {xs : List α} (hl : Leads k h A xs) (hn : A.isNone = true) : xs = [] := by
  cases xs with
  | nil => rfl
  | cons a l =>
    obtain ⟨ad, e, _⟩ := hl (by simp)
    rw [e] at hn; cases hn
end
theorem fold_lput (off : Nat) : ∀ (seg : List Value) (n : Nat) (cs : List Value), (seg.zipIdx n).foldl (fun (cs : Array Value) (p : Value × Nat) => cs.setIfInBounds (off + p.2) p.1) cs.toArray = (lput cs (off + n) seg).toArray
  | [], n, cs => rfl
  | v :: seg, n, cs => by
    simp only [List.zipIdx_cons, List.foldl_cons, lput]
    have e : cs.toArray.setIfInBounds (off + n) v = (cs.set (off + n) v).toArray := by simp
    rw [e, fold_lput off seg (n + 1)]
    rfl
theorem fill_segs (m : Nat) : ∀ (vs : List (Value × List Value)) (k : Nat) (cs : List Value), (∀ p ∈ vs, p.1.cells = p.2.toArray ∧ p.2.length = m) → (k + vs.length) * m ≤ cs.length →
    Instr.fill (fun i => some (i * m, m)) cs.toArray (num k (vs.map (·.1))) = some (cs.take (k * m) ++ vs.flatMap (·.2) ++ cs.drop ((k + vs.length) * m)).toArray
  | [], k, cs, _, _ => by simp [num, Instr.fill]
  | p :: vs, k, cs, h1, h2 => by
    obtain ⟨hv, hl⟩ := h1 p (by simp)
    simp only [List.length_cons] at h2
    have hkm : k * m + m ≤ cs.length := by
      have : (k + 1) * m ≤ (k + (vs.length + 1)) * m := Nat.mul_le_mul_right m (by omega)
      rw [Nat.add_mul, Nat.one_mul] at this
      omega
    have hns : ¬ (p.1.cells.size ≠ m ∨ k * m + p.1.cells.size > cs.length) := by rw [hv]; simp [hl]; omega
    simp only [List.map_cons, num, Instr.fill]
    rw [if_neg (by simpa using hns)]
    have e : (p.1.cells.zipIdx.foldl (fun cs (c, j) => cs.setIfInBounds (k * m + j) c) cs.toArray) = (lput cs (k * m) p.2).toArray := by
      rw [hv, ← Array.foldl_toList]
      have := fold_lput (k * m) p.2 0 cs
      rw [Nat.add_zero] at this
      simpa using this
    have hll : (lput cs (k * m) p.2).length = cs.length := lput_length _ _ _
    rw [e, fill_segs m vs (k + 1) _ (fun q hq => h1 q (by simp [hq])) (by rw [hll]; rw [show k + 1 + vs.length = k + (vs.length + 1) by omega]; exact h2)]
    congr 2
    rw [lput_eq p.2 cs (k * m) (by omega), hl]
    have e1 : (k + 1) * m = k * m + m := by rw [Nat.add_mul, Nat.one_mul]
    have hlk : (cs.take (k * m)).length = k * m := by rw [List.length_take]; omega
    have e2 : k + 1 + vs.length = k + (vs.length + 1) := by omega
    rw [e1, e2, List.flatMap_cons, List.length_cons]
    have t1 : (cs.take (k * m) ++ p.2 ++ cs.drop (k * m + m)).take (k * m + m) = cs.take (k * m) ++ p.2 := by
      rw [List.take_append_of_le_length (by rw [List.length_append, hlk, hl]; exact Nat.le_refl _), List.take_of_length_le (by rw [List.length_append, hlk, hl]; exact Nat.le_refl _)]
    have hge : k * m + m ≤ (k + (vs.length + 1)) * m := by rw [← e1]; exact Nat.mul_le_mul_right m (by omega)
    have t2 : (cs.take (k * m) ++ p.2 ++ cs.drop (k * m + m)).drop ((k + (vs.length + 1)) * m) = cs.drop ((k + (vs.length + 1)) * m) := by
      rw [List.drop_append, List.length_append, hlk, hl, List.drop_of_length_le (by rw [List.length_append, hlk, hl]; exact hge), List.nil_append, List.drop_drop]
      congr 1; omega
    rw [t1, t2]
    simp only [List.append_assoc]
section
variable {P : Program} {w : World} {base : Nat} {w0 : World} {h : Ghost} {L : List Asrt} {α : Type} [Inhabited α] {kd : Kd α} {xs : List α}
/-- A slice that is written out, each element of m cells. -/
theorem e_build_segs {T E : TypeId} {m b' len : Nat} {gg : Bool} {zv : Value} (vs : List (Value × List Value)) (S : St base w0 h w L) (hT : P.underlying T = some (.slice E)) (ht : tyInfo P E = some (m, b', gg, some zv)) (hm : kd.sz = m) (hlen : xs.length = len) (hl2 : vs.length = len) (hsmall : Nat.ble (len * m) 1000 = true)
    (h1 : ∀ p ∈ vs, p.1.cells = p.2.toArray ∧ p.2.length = m) {cs : List Value} (hel : Elems kd h xs cs) (hcs : cs = vs.flatMap (·.2)) :
    ∃ v w', (Instr.buildSlice T len (num 0 (vs.map (·.1))).toArray).run P w = .ok v w' ∧ Chg w w' (fun _ => False) ∧ St base w0 h w' (L ++ [row E kd v xs]) := by
  subst hl2
  subst hcs
  refine e_build S hT ht hm hlen hsmall rfl ?_ hel
  have e : ∀ (z : Array Value) (n : Nat), ((Array.range n).map (z[· % z.size]!)) = (((Array.range n).map (z[· % z.size]!)).toList).toArray := fun _ _ => rfl
  rw [e, fill_segs m vs 0 _ h1 (by simp)]
  simp
theorem segs_nil {m : Nat} : ∀ p ∈ ([] : List (Value × List Value)), p.1.cells = p.2.toArray ∧ p.2.length = m := fun p hp => by cases hp
theorem segs_cons {m : Nat} {v : Value} {c : List Value} {vs : List (Value × List Value)} (h : v.cells = c.toArray) (hl : c.length = m) (hs : ∀ p ∈ vs, p.1.cells = p.2.toArray ∧ p.2.length = m) : ∀ p ∈ (v, c) :: vs, p.1.cells = p.2.toArray ∧ p.2.length = m := fun p hp => by
  rcases List.mem_cons.1 hp with e | e
  · subst e; exact ⟨h, hl⟩
  · exact hs p e
end
end Gx
