/- My own library for walks through the translated code, part Gx6: laws of the model alone, no word of the program. -/
import Derived.Test.YtdfkpjchnndniaaDoorGx5
namespace Gx
open Go Go.RowKit
set_option linter.unusedSimpArgs false
set_option linter.unusedSectionVars false
set_option linter.unusedVariables false

/-! ### What a function hands back -/
def resOne (tmps : Array Value) : ResultVar → Sem Value
  | .tmp t => pure (tmps.getD t undef)
  | .cell a t => do loadVar t (← asAddr (tmps.getD a undef))
def ResOk (P : Program) (n : Nat) (ρ : Env) (w : World) (r : ResultVar) (v : Value) : Prop := ∀ tmps, Fits n ρ tmps → (resOne tmps r).run P w = .ok v w
section
variable {P : Program} {f n : Nat} {k : List Item} {ρ : Env} {w : World} {R : Ending → World → Prop} {base : Nat} {w0 : World} {h : Ghost} {L : List Asrt}
theorem res_tmp {t : Nat} {v : Value} (hv : ρ t = v) : ResOk P n ρ w (.tmp t) v := fun tmps ht => by
  simp [resOne, ht.2 t, hv, go_sem]
theorem res_cell {t j b : Nat} {T E : TypeId} {cs : List Value} {v : Value} {m b' : Nat} {g : Bool} {z : Option Value} (S : St base w0 h w L) (ht : tyInfo P T = some (m, b', g, z)) (hx : ρ t = .pointer (some ⟨b, 0, none⟩)) (hj : L[j]? = some (box b E cs)) (hm : cs.length = m) (h1 : g = false → m = 1) (hv : packV g cs = v) :
    ResOk P n ρ w (.cell t T) v := fun tmps hf => by
  have hb := S.box_at hj
  have hr := run_loadVar (P := P) (w := w) (a := ⟨b, 0, none⟩) ht hm h1 (fun q u hq => by
    have hadd : (⟨b, 0, none⟩ : Addr).add q = ⟨b, 0 + q, none⟩ := by unfold Addr.add; split <;> simp_all
    rw [hadd, cell_box hb, Nat.zero_add]; exact hq)
  simp only [resOne, hf.2 t, hx, asAddr, Sem.run_bind]
  show ((Sem.pure (⟨b, 0, none⟩ : Addr)).run P w).andThen _ = _
  simp only [Sem.run, Result.andThen_ok, hr, hv]
theorem results_eq (fn : Func) (tmps : Array Value) : results fn tmps = (do let vs ← fn.results.mapM (resOne tmps); pure (if h : vs.size = 1 then vs[0] else .tuple vs)) := by
  have e : (fun r : ResultVar => match r with | .tmp t => (pure (tmps.getD t undef) : Sem Value) | .cell a t => do loadVar t (← asAddr (tmps.getD a undef))) = resOne tmps := by
    funext r
    cases r <;> rfl
  rw [← e]
  rfl
theorem res0 {fn : Func} (hr : fn.results = #[]) : ∀ tmps, Fits n ρ tmps → (results fn tmps).run P w = .ok (.tuple #[]) w := fun tmps ht => by
  rw [results_eq, hr]; simp [go_sem]
theorem res1 {fn : Func} {r : ResultVar} {v : Value} (hr : fn.results = #[r]) (h1 : ResOk P n ρ w r v) : ∀ tmps, Fits n ρ tmps → (results fn tmps).run P w = .ok v w := fun tmps ht => by
  rw [results_eq, hr]; simp [h1 tmps ht, go_sem]
theorem res2 {fn : Func} {r s : ResultVar} {v u : Value} (hr : fn.results = #[r, s]) (h1 : ResOk P n ρ w r v) (h2 : ResOk P n ρ w s u) : ∀ tmps, Fits n ρ tmps → (results fn tmps).run P w = .ok (.tuple #[v, u]) w := fun tmps ht => by
  rw [results_eq, hr]; simp [h1 tmps ht, h2 tmps ht, go_sem]
theorem res3 {fn : Func} {r s q : ResultVar} {v u x : Value} (hr : fn.results = #[r, s, q]) (h1 : ResOk P n ρ w r v) (h2 : ResOk P n ρ w s u) (h3 : ResOk P n ρ w q x) : ∀ tmps, Fits n ρ tmps → (results fn tmps).run P w = .ok (.tuple #[v, u, x]) w := fun tmps ht => by
  rw [results_eq, hr]; simp [h1 tmps ht, h2 tmps ht, h3 tmps ht, go_sem]
end

/-! ### Slices -/
def at_ {α : Type} [Inhabited α] (xs : List α) (i : Int) : α := xs.getD i.toNat default
theorem at_some {α : Type} [Inhabited α] {xs : List α} {i : Int} (h0 : 0 ≤ i) (h1 : i < (xs.length : Int)) : xs[i.toNat]? = some (at_ xs i) := by
  unfold at_
  rw [List.getD_eq_getElem?_getD, List.getElem?_eq_getElem (by omega)]
  rfl
/-- At an address lies what stands for x. -/
def Seg {α : Type} (k : Kd α) (h : Ghost) (x : α) (ad : Addr) : Prop := ∃ seg, k.rep h x seg ∧ ∀ j u, seg[j]? = some u → gcell h (ad.add j) = some u
theorem Leads.seg {α : Type} [Inhabited α] {k : Kd α} {h : Ghost} {A : Option Addr} {xs : List α} (hl : Leads k h A xs) {i : Int} (h0 : 0 ≤ i) (h1 : i < (xs.length : Int)) : ∃ ad, A = some ad ∧ Seg k h (at_ xs i) (ad.add (i.toNat * k.sz)) := by
  obtain ⟨ad, e, hx⟩ := hl (by intro e; subst e; simp at h1; omega)
  obtain ⟨seg, h2, h3⟩ := hx _ _ (at_some h0 h1)
  exact ⟨ad, e, seg, h2, fun j u hj => by rw [add_add]; exact h3 j u hj⟩
/-- An address in a slice of the call's own. -/
def AtOwn (v : Value) (sz : Nat) (i : Int) (ad : Addr) : Prop := ∃ g, v.ownBlock = some g ∧ ad = ⟨g, i.toNat * sz, none⟩

section
variable {P : Program} {f n : Nat} {k : List Item} {ρ : Env} {w : World} {R : Ending → World → Prop} {ops : Array Oper} {rest : List Nat} {i : Nat}
variable {d : Tmp} {ty : TypeId} {pos : String} {af : Array Edge} {x y : Operand} {op : Op}
variable {base : Nat} {w0 : World} {h : Ghost} {L : List Asrt}
variable {α : Type} [Inhabited α] {kd : Kd α} {xs : List α}

theorem x_indexAddr_slice {A : Addr} {len cap : Nat} {q : Int} {T E : TypeId} {kk : IntKind} {dd : Option Tmp} {g : Option (Nat × Bool)} {m b' : Nat} {gg : Bool} {z : Option Value} (ht : P.underlying T = some (.slice E)) (hs : tyInfo P E = some (m, b', gg, z))
    (hx : ev ρ x = .slice (some A) len cap) (hy : ev ρ y = .int kk q) (h0 : 0 ≤ q) (h1 : q < len) : (execOp (ev ρ) ⟨dd, .indexAddr T x y, ty, pos, af, g⟩).run P w = .ok (.value (.pointer (some (A.add (q.toNat * m))))) w := by
  obtain ⟨ii, d2, hi, hd2, hsz, _, _, _⟩ := tyInfo_parts hs
  simp [execOp, hx, hy, Instr.indexAt, asIntOf, run_underlying ht, rn_sizeOf hi, hsz, h0, h1, go_sem]
/-- The address of an element of a slice that is read. -/
theorem go_index_ro {hh : Ghost} {A : Option Addr} {cap : Nat} {q : Int} {T E : TypeId} {kk : IntKind} {m b' : Nat} {gg : Bool} {z : Option Value} {len : Nat} (ho : ops[i]? = some ⟨some d, .indexAddr T x y, ty, pos, af, none⟩) (hd : Nat.blt d n = true)
    (ht : P.underlying T = some (.slice E)) (hs : tyInfo P E = some (m, b', gg, z)) (hm : kd.sz = m) (hx : ev ρ x = .slice A len cap) (hlen : xs.length = len) (hl : Leads kd hh A xs) (hy : ev ρ y = .int kk q) (h0 : 0 ≤ q) (h1 : q < (xs.length : Int))
    (hk : ∀ ad, Seg kd hh (at_ xs q) ad → Run P f n (.inRegion ops rest :: k) (upd ρ d (.pointer (some ad))) w R) : Run P f n (.inRegion ops (i :: rest) :: k) ρ w R := by
  obtain ⟨ad, rfl, hseg⟩ := hl.seg h0 h1
  subst hm; subst hlen
  exact go_v ho hd (x_indexAddr_slice ht hs hx hy h0 h1) (hk _ hseg)
/-- An element of a slice that is read. -/
theorem go_load_ro {hh : Ghost} {T : TypeId} {m b' : Nat} {gg : Bool} {z : Option Value} {a : α} {ad : Addr} (ho : ops[i]? = some ⟨some d, .load T x, ty, pos, af, none⟩) (hd : Nat.blt d n = true) (ht : tyInfo P T = some (m, b', gg, z)) (hm : kd.sz = m) (h1 : gg = false → m = 1)
    (hx : ev ρ x = .pointer (some ad)) (hs : Seg kd hh a ad) (hle : Le hh (hp w)) (hk : ∀ seg, kd.rep hh a seg → Run P f n (.inRegion ops rest :: k) (upd ρ d (packV gg seg)) w R) : Run P f n (.inRegion ops (i :: rest) :: k) ρ w R := by
  obtain ⟨seg, hr, hc⟩ := hs
  refine go_v ho hd ?_ (hk seg hr)
  have hl := run_loadVar (P := P) (w := w) (a := ad) ht ((kd.len hr).trans hm) h1 (fun q u hq => gcell_world hle (hc q u hq))
  simp only [execOp, hx, Instr.loadAt, Instr.sureAddr, Sem.run_bind]
  show (((Sem.pure ad).run P w).andThen fun a w' => ((loadVar T a).run P w')).andThen _ = _
  simp only [Sem.run, Result.andThen_ok, hl]
  rfl

theorem St.row_at {j : Nat} {T : TypeId} {v : Value} (S : St base w0 h w L) (hj : L[j]? = some (row T kd v xs)) : ∃ cs, w.ownsRow 0 T kd.sz v xs.length cs ∧ Elems kd h xs cs := by
  obtain ⟨Fs, hF, _⟩ := S.sep
  obtain ⟨⟨cs, h1, h2, _⟩, _⟩ := hF j _ hj
  exact ⟨cs, h1, h2⟩
theorem St.row_val {j : Nat} {T : TypeId} {v : Value} (S : St base w0 h w L) (hj : L[j]? = some (row T kd v xs)) : ∃ A c, v = .slice A xs.length c ∧ xs.length ≤ c ∧ c ≤ maxLen := by
  obtain ⟨cs, h1, _⟩ := S.row_at hj
  rcases h1.2 with ⟨hv, h0⟩ | ⟨g, cap, cur, hv, _, _, hl, hc, _⟩
  · exact ⟨none, 0, by rw [hv, h0], by omega, by simp⟩
  · exact ⟨_, cap, hv, hl, hc⟩
theorem St.row_le {j : Nat} {T : TypeId} {v : Value} (S : St base w0 h w L) (hj : L[j]? = some (row T kd v xs)) : xs.length ≤ maxLen := by
  obtain ⟨A, c, _, h1, h2⟩ := S.row_val hj
  omega
/-- A slice of the call's own, as one that is read. -/
theorem St.row_leads {j : Nat} {T : TypeId} {A : Option Addr} {m c : Nat} (S : St base w0 h w L) (hj : L[j]? = some (row T kd (.slice A m c) xs)) : Leads kd (hp w) A xs := by
  obtain ⟨cs, h1, h2⟩ := S.row_at hj
  have hm : xs.length = m := by
    rcases h1.2 with ⟨hv, h0⟩ | ⟨g, cap, cur, hv, _⟩
    · injection hv with _ hm _; omega
    · injection hv with _ hm _; exact hm.symm
  subst hm
  exact h2.leads S.ghost h1 (fun g _ => rfl) rfl

/-- The address of an element of a slice of the call's own. -/
theorem go_index_own {j : Nat} {v : Value} {q : Int} {T E : TypeId} {kk : IntKind} {m b' : Nat} {gg : Bool} {z : Option Value} (S : St base w0 h w L) (ho : ops[i]? = some ⟨some d, .indexAddr T x y, ty, pos, af, none⟩) (hd : Nat.blt d n = true)
    (ht : P.underlying T = some (.slice E)) (hs : tyInfo P E = some (m, b', gg, z)) (hm : kd.sz = m) (hj : L[j]? = some (row E kd v xs)) (hx : ev ρ x = v) (hy : ev ρ y = .int kk q) (h0 : 0 ≤ q) (h1 : q < (xs.length : Int))
    (hk : ∀ ad, AtOwn v m q ad → Run P f n (.inRegion ops rest :: k) (upd ρ d (.pointer (some ad))) w R) : Run P f n (.inRegion ops (i :: rest) :: k) ρ w R := by
  obtain ⟨cs, hown, _⟩ := S.row_at hj
  rcases hown.2 with ⟨_, he⟩ | ⟨g, cap, cur, hv, _⟩
  · omega
  · have hadd : (⟨g, 0, none⟩ : Addr).add (q.toNat * m) = ⟨g, q.toNat * m, none⟩ := by unfold Addr.add; split <;> simp_all
    exact go_v ho hd (x_indexAddr_slice ht hs (hx.trans hv) hy h0 h1) (hk _ ⟨g, by rw [hv]; rfl, hadd⟩)
/-- It is read. -/
theorem go_load_own {j : Nat} {v : Value} {q : Int} {T : TypeId} {m b' : Nat} {gg : Bool} {z : Option Value} {ad : Addr} (S : St base w0 h w L) (ho : ops[i]? = some ⟨some d, .load T x, ty, pos, af, none⟩) (hd : Nat.blt d n = true) (ht : tyInfo P T = some (m, b', gg, z)) (hm : kd.sz = m) (h1 : gg = false → m = 1)
    (hj : L[j]? = some (row T kd v xs)) (hx : ev ρ x = .pointer (some ad)) (ha : AtOwn v m q ad) (h0 : 0 ≤ q) (hq : q < (xs.length : Int)) (hk : ∀ seg, kd.rep h (at_ xs q) seg → Run P f n (.inRegion ops rest :: k) (upd ρ d (packV gg seg)) w R) : Run P f n (.inRegion ops (i :: rest) :: k) ρ w R := by
  obtain ⟨cs, hown, hel⟩ := S.row_at hj
  obtain ⟨g, hg, rfl⟩ := ha
  subst hm
  have hr := hel.2 _ _ (at_some h0 hq)
  refine go_v ho hd ?_ (hk _ hr)
  have hl := run_loadVar (P := P) (w := w) (a := ⟨g, q.toNat * kd.sz, none⟩) ht (kd.len hr) h1 (fun p u hp => by
    rw [List.getElem?_take] at hp
    split at hp
    · rw [List.getElem?_drop] at hp
      have := hown.cells hg _ u hp
      rwa [show (⟨g, q.toNat * kd.sz, none⟩ : Addr).add p = (⟨g, 0, none⟩ : Addr).add (q.toNat * kd.sz + p) by
        unfold Addr.add; split <;> split <;> simp_all]
    · cases hp)
  simp only [execOp, hx, Instr.loadAt, Instr.sureAddr, Sem.run_bind]
  show (((Sem.pure (⟨g, q.toNat * kd.sz, none⟩ : Addr)).run P w).andThen fun a w' => ((loadVar T a).run P w')).andThen _ = _
  simp only [Sem.run, Result.andThen_ok, hl]
  rfl
end
end Gx
