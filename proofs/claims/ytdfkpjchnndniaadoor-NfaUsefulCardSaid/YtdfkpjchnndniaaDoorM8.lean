/- My own library for walks through the translated code, part M8: laws of the model alone, no word of the program. -/
import Derived.Test.YtdfkpjchnndniaaDoorM3
import Derived.ChangeMaps4
namespace Gx
open Go Go.RowKit
set_option linter.unusedSimpArgs false
set_option linter.unusedSectionVars false
set_option linter.unusedVariables false

/-! ### Maps of the call's own -/
section
variable {α β : Type}
def pairs (ke : α → Value) (ve : β → Value) (kvs : List (α × β)) : List (Value × Value) := kvs.map fun p => (ke p.1, ve p.2)
def amap (ke : α → Value) (ve : β → Value) (b : Nat) (kvs : List (α × β)) : Asrt where
  holds := fun _ w F => (∃ es clock, w.heap[b]? = some (.map es clock) ∧ es.toList.map (fun e => (e.key, e.val)) = pairs ke ve kvs) ∧ F b
  mono := fun _ h => h
  far := fun hf h => ⟨by rw [hf b h.2]; exact h.1, h.2⟩
variable [DecidableEq α]
/-- The first place that holds a key. -/
def lookAt (k : α) : List (α × β) → Nat → Option (Nat × β)
  | [], _ => none
  | p :: r, i => if k = p.1 then some (i, p.2) else lookAt k r (i + 1)
def valAt (k : α) (kvs : List (α × β)) : Option β := (lookAt k kvs 0).map (·.2)
def putAt (k : α) (v : β) (kvs : List (α × β)) : List (α × β) := match lookAt k kvs 0 with
  | some (i, _) => kvs.set i (k, v)
  | none => kvs ++ [(k, v)]
/-- What a key's type must meet. -/
structure KeyK (P : Program) (kt : TypeId) (ke : α → Value) : Prop where
  eq : ∀ a b w, (Op.equal kt (ke a) (ke b)).run P w = .ok (decide (a = b)) w
  chk : ∀ a e w, (Instr.checkKey e 10000 kt (ke a)).run P w = .ok () w
  now : ∃ d, P.underlying kt = some d ∧ ((∀ a b, Instr.sameNow d (ke a) (ke b) = none) ∨ (∀ a b, Instr.sameNow d (ke a) (ke b) = some (decide (a = b))))
  same : ∀ a, Instr.sameBits 10000 (ke a) (ke a) = true
variable {P : Program} {kt : TypeId} {ke : α → Value} {ve : β → Value} {w : World}
def put2 (ve : β → Value) (o : Option (Nat × β)) : Option (Nat × Value) := o.map fun p => (p.1, ve p.2)
theorem run_asking (K : KeyK P kt ke) (k : α) : ∀ (es : List MapEntry) (kvs : List (α × β)) (i : Nat), es.map (fun e => (e.key, e.val)) = pairs ke ve kvs → (Instr.findAsking kt (ke k) es i).run P w = .ok (put2 ve (lookAt k kvs i)) w
  | [], [], i, _ => rfl
  | e :: es, p :: kvs, i, h => by
    simp only [pairs, List.map_cons, List.cons.injEq, Prod.mk.injEq] at h
    obtain ⟨⟨h1, h2⟩, h3⟩ := h
    simp only [Instr.findAsking, Sem.run_bind, h1, K.eq, Result.andThen_ok]
    by_cases hk : k = p.1
    · simp [hk, lookAt, put2, h2, Sem.run_pure]
    · simp only [hk, decide_false, Bool.false_eq_true, if_false, lookAt]
      exact run_asking K k es kvs (i + 1) h3
  | [], _ :: _, _, h => by simp [pairs] at h
  | _ :: _, [], _, h => by simp [pairs] at h
theorem findNow_true (k : α) {d : TypeDesc} (hs : ∀ a b, Instr.sameNow d (ke a) (ke b) = some (decide (a = b))) : ∀ (es : List MapEntry) (kvs : List (α × β)) (i : Nat), es.map (fun e => (e.key, e.val)) = pairs ke ve kvs → Instr.findNow d (ke k) es i = some (put2 ve (lookAt k kvs i))
  | [], [], i, _ => rfl
  | e :: es, p :: kvs, i, h => by
    simp only [pairs, List.map_cons, List.cons.injEq, Prod.mk.injEq] at h
    obtain ⟨⟨h1, h2⟩, h3⟩ := h
    simp only [Instr.findNow, h1, hs]
    by_cases hk : k = p.1
    · simp [hk, lookAt, put2, h2]
    · simp only [hk, decide_false, lookAt, if_false]
      exact findNow_true k hs es kvs (i + 1) h3
  | [], _ :: _, _, h => by simp [pairs] at h
  | _ :: _, [], _, h => by simp [pairs] at h
theorem run_findKey (K : KeyK P kt ke) (k : α) {es : List MapEntry} {kvs : List (α × β)} (h : es.map (fun e => (e.key, e.val)) = pairs ke ve kvs) : (Instr.findKey kt (ke k) es).run P w = .ok (put2 ve (lookAt k kvs 0)) w := by
  obtain ⟨d, hd, hn⟩ := K.now
  simp only [Instr.findKey, Sem.run_bind, run_underlying hd, Result.andThen_ok]
  rcases hn with hn | hn
  · cases es with
    | nil =>
      cases kvs with
      | nil => rfl
      | cons p r => simp [pairs] at h
    | cons e es =>
      have h1 : e.key = ke (kvs.head (by rintro rfl; simp [pairs] at h)).1 := by
        cases kvs with
        | nil => simp [pairs] at h
        | cons p r =>
          simp only [pairs, List.map_cons, List.cons.injEq, Prod.mk.injEq] at h
          exact h.1.1
      have : Instr.findNow d (ke k) (e :: es) 0 = none := by simp only [Instr.findNow, h1, hn]
      simp only [this]
      exact run_asking K k (e :: es) kvs 0 h
  · simp only [findNow_true k hn es kvs 0 h]
    rfl
end
section
variable {α β : Type} [DecidableEq α] {P : Program} {kt : TypeId} {ke : α → Value} {ve : β → Value} {w w' : World} {base : Nat} {w0 : World} {h : Ghost} {L : List Asrt}
theorem e_makeMap (S : St base w0 h w L) (T : TypeId) (ke : α → Value) (ve : β → Value) : ∃ b w', (Instr.makeMap T none).run P w = .ok (.map (some b)) w' ∧ Chg w w' (fun _ => False) ∧ St base w0 h w' (L ++ [amap ke ve b []]) := by
  refine ⟨w.heap.size, w.alloc (.map #[] 0), rfl, Chg.alloc _ _, ?_⟩
  have T1 : St w.heap.size w (fun _ => none) (w.alloc (.map #[] 0)) [amap ke ve w.heap.size ([] : List (α × β))] := by
    refine ⟨(Chg.alloc w _).below, by simp, fun _ _ e => (by cases e), fun _ _ e => (by cases e), fun _ b => b = w.heap.size, fun j A hj => ?_, fun i j hi hj hij => ?_⟩
    · have : j = 0 := by
        have := (List.getElem?_eq_some_iff.1 hj).1
        simpa using this
      subst this
      simp only [List.getElem?_cons_zero, Option.some.injEq] at hj
      subst hj
      refine ⟨⟨⟨#[], 0, ?_, rfl⟩, rfl⟩, fun b hb => ⟨by omega, by subst hb; simp, rfl⟩⟩
      show (w.heap.push (.map #[] 0))[w.heap.size]? = _
      simp
    · simp at hi hj; omega
  have := S.call T1
  have e : gor h (fun _ => none) = h := by funext b; unfold gor; cases h b <;> rfl
  rwa [e] at this
theorem St.map_at {j b : Nat} {kvs : List (α × β)} (S : St base w0 h w L) (hj : L[j]? = some (amap ke ve b kvs)) : ∃ es clock, w.heap[b]? = some (.map es clock) ∧ es.toList.map (fun e => (e.key, e.val)) = pairs ke ve kvs := by
  obtain ⟨Fs, hF, _⟩ := S.sep
  exact (hF j _ hj).1.1
/-- What is told of a key. -/
def lookVal (ve : β → Value) (z : Value) (o : Option β) : Value := match o with
  | some b => ve b
  | none => z
theorem e_lookup {j b : Nat} {T et : TypeId} {kvs : List (α × β)} {z : Value} (K : KeyK P kt ke) (S : St base w0 h w L) (hj : L[j]? = some (amap ke ve b kvs)) (hT : P.underlying T = some (.map kt et)) (hz : (zeroValue et).run P w = .ok z w) (k : α) :
    (Instr.lookup T (.map (some b)) (ke k) true).run P w = .ok (.tuple #[lookVal ve z (valAt k kvs), .bool (valAt k kvs).isSome]) w := by
  obtain ⟨es, clock, hb, hes⟩ := S.map_at hj
  have hg : (getObj b).run P w = .ok (.map es clock) w := by simp [getObj, Sem.run, hb]
  simp only [Instr.lookup, Sem.run_bind, run_underlying hT, Result.andThen_ok, hg, K.chk, run_findKey K k hes, Sem.run_pure]
  unfold valAt put2
  cases lookAt k kvs 0 with
  | none => simp [hz, Sem.run_bind, lookVal, Sem.run_pure]
  | some p => simp [lookVal, Sem.run_pure]
def setBlock (w : World) (b : Nat) (o : Obj) : World := { w with heap := w.heap.setIfInBounds b o }
theorem setBlock_chg (w : World) (b : Nat) (o : Obj) : Chg w (setBlock w b o) (fun x => x = b) where
  os := rfl
  tape := rfl
  output := rfl
  size := by simp [setBlock]
  block := fun q hq hn => by
    simp only [setBlock]
    rw [Array.getElem?_setIfInBounds_ne (fun e => hn e.symm)]
theorem setBlock_at {w : World} {b : Nat} (hb : b < w.heap.size) (o : Obj) : (setBlock w b o).heap[b]? = some o := by simp [setBlock, hb]
theorem lookAt_get (k : α) : ∀ (kvs : List (α × β)) (i j : Nat) (v : β), lookAt k kvs i = some (j, v) → i ≤ j ∧ kvs[j - i]? = some (k, v)
  | [], _, _, _, h => by simp [lookAt] at h
  | p :: r, i, j, v, h => by
    unfold lookAt at h
    by_cases hk : k = p.1
    · rw [if_pos hk] at h
      simp at h
      obtain ⟨rfl, rfl⟩ := h
      simp [hk]
    · rw [if_neg hk] at h
      obtain ⟨h1, h2⟩ := lookAt_get k r (i + 1) j v h
      refine ⟨by omega, ?_⟩
      rw [show j - i = (j - (i + 1)) + 1 by omega]
      simpa using h2
theorem e_mapUpdate {j b : Nat} {T et : TypeId} {kvs : List (α × β)} (K : KeyK P kt ke) (S : St base w0 h w L) (hj : L[j]? = some (amap ke ve b kvs)) (hT : P.underlying T = some (.map kt et)) (k : α) (v : β) :
    ∃ w', (Instr.mapUpdate T (.map (some b)) (ke k) (ve v)).run P w = .ok () w' ∧ Chg w w' (fun q => q = b) ∧ St base w0 h w' (L.set j (amap ke ve b (putAt k v kvs))) := by
  obtain ⟨es, clock, hb, hes⟩ := S.map_at hj
  have hg : (getObj b).run P w = .ok (.map es clock) w := by simp [getObj, Sem.run, hb]
  have hlt : b < w.heap.size := (Array.getElem?_eq_some_iff.1 hb).1
  have fin : ∀ es' clock', es'.toList.map (fun e => (e.key, e.val)) = pairs ke ve (putAt k v kvs) → St base w0 h (setBlock w b (.map es' clock')) (L.set j (amap ke ve b (putAt k v kvs))) := fun es' clock' he =>
    S.upd hj fun F hF _ => ⟨(setBlock_chg w b _).mono (fun q hq => by subst hq; exact hF.2), F, ⟨⟨es', clock', setBlock_at hlt _, he⟩, hF.2⟩, fun q hq => .inl hq⟩
  cases hl : lookAt k kvs 0 with
  | none =>
    refine ⟨_, ?_, setBlock_chg w b _, fin (es.push { key := ke k, val := ve v, born := clock }) (clock + 1) ?_⟩
    · simp [Instr.mapUpdate, Sem.run_bind, run_underlying hT, Result.andThen_ok, hg, K.chk, run_findKey K k hes, hl, put2, MapKept.run_setObj_map _ hb, setBlock]
    · have hp : putAt k v kvs = kvs ++ [(k, v)] := by unfold putAt; rw [hl]
      rw [hp]
      simp [pairs, Array.toList_push] at hes ⊢
      exact hes
  | some p =>
    obtain ⟨i, u⟩ := p
    obtain ⟨_, hget⟩ := lookAt_get k kvs 0 i u hl
    rw [Nat.sub_zero] at hget
    have hei : (es.toList.map (fun e => (e.key, e.val)))[i]? = some (ke k, ve u) := by rw [hes]; simp [pairs, hget]
    rw [List.getElem?_map, Option.map_eq_some_iff] at hei
    obtain ⟨e, he1, he2⟩ := hei
    simp only [Prod.mk.injEq] at he2
    have he3 : es[i]? = some e := by rw [← Array.getElem?_toList]; exact he1
    have hstay : (Instr.keyThatStays (((es[i]?).map (·.key)).getD (ke k)) (ke k)).run P w = .ok (ke k) w := by
      rw [he3]
      simp only [Option.map_some, Option.getD_some, he2.1, Instr.keyThatStays, K.same, if_true]
      rfl
    refine ⟨_, ?_, setBlock_chg w b _, fin (es.modify i fun e => { e with key := ke k, val := ve v }) clock ?_⟩
    · simp [Instr.mapUpdate, Sem.run_bind, run_underlying hT, Result.andThen_ok, hg, K.chk, run_findKey K k hes, hl, put2, hstay, MapKept.run_setObj_map _ hb, setBlock]
    · have hp : putAt k v kvs = kvs.set i (k, v) := by unfold putAt; rw [hl]
      rw [hp]
      apply List.ext_getElem?
      intro q
      have hq := congrArg (fun l : List (Value × Value) => l[q]?) hes
      simp only [pairs, List.getElem?_map] at hq ⊢
      rw [List.getElem?_set, Array.getElem?_toList, Array.getElem?_modify]
      rw [Array.getElem?_toList] at hq
      by_cases hqi : i = q
      · subst hqi
        have : i < kvs.length := (List.getElem?_eq_some_iff.1 hget).1
        simp [he3, this]
      · simp only [hqi, if_false]; exact hq
end
section
variable {α β : Type} [DecidableEq α] {P : Program} {kt : TypeId} {ke : α → Value} {ve : β → Value} {w : World} {base : Nat} {w0 : World} {h : Ghost} {L : List Asrt}
theorem e_lookup_d {j b : Nat} {T et : TypeId} {kvs : List (α × β)} (K : KeyK P kt ke) (S : St base w0 h w L) (hj : L[j]? = some (amap ke ve b kvs)) (hT : P.underlying T = some (.map kt et)) {z : Value} (hz : (zeroValue et).run P w = .ok z w) (d : β) (k : α) (hd : ve d = z := by rfl) :
    (Instr.lookup T (.map (some b)) (ke k) true).run P w = .ok (.tuple #[ve ((valAt k kvs).getD d), .bool (valAt k kvs).isSome]) w := by
  rw [e_lookup K S hj hT hz k]
  cases valAt k kvs with
  | none => simp [lookVal, hd]
  | some v => simp [lookVal]
end
section
variable {P : Program} {ρ : Env} {w w' : World} {d : Option Tmp} {ty : TypeId} {pos : String} {af : Array Edge} {g : Option (Nat × Bool)} {x y z : Operand}
theorem x_makeMap {T : TypeId} {v : Value} (hr : (Instr.makeMap T none).run P w = .ok v w') : (execOp (ev ρ) ⟨d, .makeMap T none, ty, pos, af, g⟩).run P w = .ok (.value v) w' := by
  simp only [execOp, Option.map_none, Sem.run_bind, hr, Result.andThen_ok]; rfl
theorem x_lookup {T : TypeId} {c : Bool} {a k v : Value} (hx : ev ρ x = a) (hy : ev ρ y = k) (hr : (Instr.lookup T a k c).run P w = .ok v w) : (execOp (ev ρ) ⟨d, .lookup T x y c, ty, pos, af, g⟩).run P w = .ok (.value v) w := by
  simp only [execOp, hx, hy, Sem.run_bind, hr, Result.andThen_ok]; rfl
theorem x_mapUpdate {T : TypeId} {a k v : Value} (hx : ev ρ x = a) (hy : ev ρ y = k) (hz : ev ρ z = v) (hr : (Instr.mapUpdate T a k v).run P w = .ok () w') : (execOp (ev ρ) ⟨d, .mapUpdate T x y z, ty, pos, af, g⟩).run P w = .ok .skip w' := by
  simp only [execOp, hx, hy, hz, Sem.run_bind, hr, Result.andThen_ok]; rfl
end
theorem box_gcell {w : World} {b : Nat} {T : TypeId} {cs : List Value} (hb : w.heap[b]? = some (.cells cs.toArray T (0, 0))) : ∀ j v, cs[j]? = some v → gcell (hp w) ((⟨b, 0, none⟩ : Addr).add j) = some v := fun j v hj => by
  have hadd : (⟨b, 0, none⟩ : Addr).add j = ⟨b, j, none⟩ := by unfold Addr.add; split <;> simp_all
  rw [hadd]
  unfold gcell hp
  simp only [hb]
  simpa using hj
section
variable {P : Program} {ρ : Env} {w w' : World} {d : Option Tmp} {ty : TypeId} {pos : String} {af : Array Edge} {g : Option (Nat × Bool)} {x y : Operand}
theorem x_indexAddr_ad {ad : Addr} {len : Nat} {q : Int} {T E : TypeId} {kk : IntKind} {m b' : Nat} {gg : Bool} {z : Option Value} (ht : P.underlying T = some (.array len E)) (hs : tyInfo P E = some (m, b', gg, z))
    (hx : ev ρ x = .pointer (some ad)) (hy : ev ρ y = .int kk q) (h0 : 0 ≤ q) (h1 : q < len) : (execOp (ev ρ) ⟨d, .indexAddr T x y, ty, pos, af, g⟩).run P w = .ok (.value (.pointer (some (ad.add (q.toNat * m))))) w := by
  obtain ⟨ii, d2, hi, hd2, hsz, _, _, _⟩ := tyInfo_parts hs
  simp [execOp, hx, hy, Instr.indexAt, asIntOf, Instr.sureAddr, run_underlying ht, rn_sizeOf hi, hsz, h0, h1, go_sem]
end
theorem sub_cells {h : Ghost} {ad : Addr} {seg : List Value} {q : Nat} {u : Value} (hc : ∀ j v, seg[j]? = some v → gcell h (ad.add j) = some v) (hu : seg[q]? = some u) : ∀ j v, [u][j]? = some v → gcell h ((ad.add (q * 1)).add j) = some v := fun j v hj => by
  cases j with
  | zero =>
    simp at hj
    subst hj
    have : (ad.add (q * 1)).add 0 = ad.add q := by rw [Nat.mul_one]; unfold Addr.add; simp
    rw [this]
    exact hc q u hu
  | succ j => simp at hj
end Gx
