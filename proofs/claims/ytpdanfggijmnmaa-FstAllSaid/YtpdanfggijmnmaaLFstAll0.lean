/- My own library for walks through the translated code, and the walks of the functions that the law FstAll comes to, part 1; no conditions but those that each contract tells. -/
import Derived.WalkKit
import Derived.Below
import Derived.Maps.AppendAt
import Derived.Laws.MakeOwn
import Derived.OrdersHeld
import Derived.Laws.Strings
import Derived.Laws.StructEq
import Derived.ChangeKeysEq
import Derived.Laws.Cover3
import Derived.Test.YtpdanfggijmnmaaProg
import Derived.KernelRfl
import Derived.Lib.TrailingZeros
import Derived.ChangeMaps4
import Derived.Laws.BytesArg
namespace Gx
open Go Go.RowKit
abbrev Env := Nat → Value
def upd (ρ : Env) (d : Nat) (v : Value) : Env := fun t => bif Nat.beq t d then v else ρ t
theorem upd_same (ρ : Env) (d : Nat) (v : Value) : upd ρ d v d = v := by simp [upd]
theorem upd_ne (ρ : Env) {d t : Nat} (v : Value) (h : t ≠ d) : upd ρ d v t = ρ t := by
  have e : Nat.beq t d = false := by
    cases hb : Nat.beq t d with
    | false => rfl
    | true => exact absurd (Nat.eq_of_beq_eq_true hb) h
  simp only [upd, e, cond_false]
def Fits (n : Nat) (ρ : Env) (tmps : Array Value) : Prop := tmps.size = n ∧ ∀ t, tmps.getD t undef = ρ t
theorem Fits.set {n : Nat} {ρ : Env} {tmps : Array Value} (h : Fits n ρ tmps) {d : Nat} (hd : Nat.blt d n = true) (v : Value) : Fits n (upd ρ d v) (tmps.setIfInBounds d v) := by
  have hd' : d < n := by simpa [Nat.blt_eq] using hd
  refine ⟨by simpa using h.1, fun t => ?_⟩
  have ht := h.2 t
  rcases Nat.decEq t d with hne | rfl
  · rw [upd_ne _ _ hne, ← ht]
    simp only [Array.getD_eq_getD_getElem?, Array.getElem?_setIfInBounds]
    rw [if_neg (fun e => hne e.symm)]
  · rw [upd_same]
    simp [Array.getD_eq_getD_getElem?, h.1, hd']
def ev (ρ : Env) : Operand → Value
  | .tmp t => ρ t
  | .const v => v
  | .global g => .pointer (some ⟨g, 0, none⟩)
  | .func f => .func (.func f) #[] #[]
def fr (f : FuncId) (tmps : Array Value) (todo : List Item) : Frame := { (default : Frame) with fn := f, tmps, todo, defers := [], mode := .run, kind := .normal }
def Run (P : Program) (f n : Nat) (todo : List Item) (ρ : Env) (w : World) (R : Ending → World → Prop) : Prop :=
  ∀ tmps, Fits n ρ tmps → ∀ cs, ∃ e w' fr', R e w' ∧ Comes P (lone (fr f tmps todo) cs w) (lone fr' cs w') e ∧ fr'.fn = f ∧ fr'.leaving P w' e
def base0 (f : FuncId) : Frame := { (default : Frame) with fn := f, kind := .normal }
theorem fr_at (f : FuncId) (tmps : Array Value) (todo : List Item) : fr f tmps todo = (base0 f).at ⟨tmps, []⟩ todo := rfl
section
variable {P : Program} {f n : Nat} {k : List Item} {ρ : Env} {w : World} {R : Ending → World → Prop}
theorem Fits.eval {tmps : Array Value} (h : Fits n ρ tmps) : (⟨tmps, []⟩ : Act).eval = ev ρ := by
  funext x
  cases x <;> simp [Act.eval, ev, h.2]
theorem Run.step {todo todo' : List Item} (hs : ∀ tmps, Fits n ρ tmps → ∀ cs, Go.step P (lone ((base0 f).at ⟨tmps, []⟩ todo) cs w) = .next (lone ((base0 f).at ⟨tmps, []⟩ todo') cs w)) (h : Run P f n todo' ρ w R) : Run P f n todo ρ w R := by
  intro tmps ht cs
  obtain ⟨e, w', fr', hr, hc, r⟩ := h tmps ht cs
  exact ⟨e, w', fr', hr, Comes.of_steps (.one (hs tmps ht cs)) hc, r⟩
theorem Run.mono {R' : Ending → World → Prop} {todo : List Item} (h : Run P f n todo ρ w R) (hr : ∀ e w', R e w' → R' e w') : Run P f n todo ρ w R' :=
  fun tmps ht cs => let ⟨e, w', fr', q, rest⟩ := h tmps ht cs; ⟨e, w', fr', hr _ _ q, rest⟩
theorem zao (h : Run P f n k ρ w R) : Run P f n (.code .skip :: k) ρ w R := .step (fun _ _ _ => step_skip) h
theorem zaj {id : Nat} (h : Run P f n k ρ w R) : Run P f n (.inBlock id :: k) ρ w R := .step (fun _ _ _ => step_inBlock) h
theorem zab {x y : Code} (h : Run P f n (.code x :: .code y :: k) ρ w R) : Run P f n (.code (.seq x y) :: k) ρ w R := .step (fun _ _ _ => step_seq) h
theorem zam {id : Nat} {c : Code} (h : Run P f n (.code c :: .inBlock id :: k) ρ w R) : Run P f n (.code (.block id c) :: k) ρ w R := .step (fun _ _ _ => step_block) h
theorem za3 {id : Nat} {k' : List Item} (he : exitTo id k = some k') (h : Run P f n k' ρ w R) : Run P f n (.code (.exit id) :: k) ρ w R := .step (fun _ _ _ => step_exit he) h
theorem run_loop1 {c : Code} (h : Run P f n (.code c :: .inLoop c :: k) ρ w R) : Run P f n (.code (.loop c) :: k) ρ w R := .step (fun _ _ _ => step_loop) h
theorem run_inLoop {c : Code} (h : Run P f n (.code c :: .inLoop c :: k) ρ w R) : Run P f n (.inLoop c :: k) ρ w R := .step (fun _ _ _ => step_inLoop) h
theorem zbh {c : Operand} {x y : Code} {b : Bool} (hc : ev ρ c = .bool b) (h : Run P f n (.code (if b then x else y) :: k) ρ w R) : Run P f n (.code (.cond c x y) :: k) ρ w R :=
  .step (fun tmps ht cs => step_cond (by rw [ht.eval]; exact hc)) h
theorem zbs {c : Operand} {x y : Code} {b : Bool} (hc : ev ρ c = .bool b) (ht : b = true → Run P f n (.code x :: k) ρ w R) (hf : b = false → Run P f n (.code y :: k) ρ w R) : Run P f n (.code (.cond c x y) :: k) ρ w R := by
  refine zbh hc ?_
  cases b
  · exact hf rfl
  · exact ht rfl
theorem zal {c : Operand} {x y : Code} {p : Prop} [Decidable p] (hc : ev ρ c = .bool (decide p)) (ht : p → Run P f n (.code x :: k) ρ w R) (hf : ¬ p → Run P f n (.code y :: k) ρ w R) : Run P f n (.code (.cond c x y) :: k) ρ w R :=
  zbs hc (fun h => ht (of_decide_eq_true h)) (fun h => hf (of_decide_eq_false h))
theorem leave_ret {fn : Func} {v : Value} {tmps : Array Value} {todo : List Item} (hf : P.funcs[f]? = some fn) (hr : (results fn tmps).run P w = .ok v w) :
    ({ (base0 f).at ⟨tmps, []⟩ todo with mode := .returning } : Frame).leaving P w (.returned v) := by
  refine ⟨rfl, rfl, rfl, fn, hf, ?_⟩
  exact hr
theorem zav {fn : Func} {v : Value} (hf : P.funcs[f]? = some fn) (hr : ∀ tmps, Fits n ρ tmps → (results fn tmps).run P w = .ok v w) (h : R (.returned v) w) : Run P f n (.code .ret :: k) ρ w R := by
  intro tmps ht cs
  have h1 := leave_ret (f := f) (todo := .code .ret :: k) hf (hr tmps ht)
  have h2 : Steps P (lone ((base0 f).at ⟨tmps, []⟩ (.code .ret :: k)) cs w) (lone { (base0 f).at ⟨tmps, []⟩ (.code .ret :: k) with mode := .returning } cs w) := Steps.one step_ret
  refine ⟨.returned v, w, { (base0 f).at ⟨tmps, []⟩ (.code .ret :: k) with mode := .returning }, h, ?_, ?_, h1⟩
  · exact h2
  · rfl
theorem run_end {fn : Func} {v : Value} (hf : P.funcs[f]? = some fn) (hr : ∀ tmps, Fits n ρ tmps → (results fn tmps).run P w = .ok v w) (h : R (.returned v) w) : Run P f n [] ρ w R := by
  intro tmps ht cs
  have h1 := leave_ret (f := f) (todo := []) hf (hr tmps ht)
  have h2 : Steps P (lone ((base0 f).at ⟨tmps, []⟩ []) cs w) (lone { (base0 f).at ⟨tmps, []⟩ [] with mode := .returning } cs w) := Steps.one step_end
  refine ⟨.returned v, w, { (base0 f).at ⟨tmps, []⟩ [] with mode := .returning }, h, ?_, ?_, h1⟩
  · exact h2
  · rfl
theorem run_region {id : Nat} {ops : Array Oper} (h : Run P f n (.inRegion ops (List.range ops.size) :: k) ρ w R) : Run P f n (.code (.region id ops false) :: k) ρ w R := .step (fun _ _ _ => step_region) h
theorem zaa {ops : Array Oper} (h : Run P f n k ρ w R) : Run P f n (.inRegion ops [] :: k) ρ w R := .step (fun _ _ _ => step_region_end) h
def updO (ρ : Env) : Option Nat → Value → Env
  | some d, v => upd ρ d v
  | none, _ => ρ
def okO (n : Nat) : Option Nat → Bool
  | some d => Nat.blt d n
  | none => true
theorem Fits.putO {tmps : Array Value} (h : Fits n ρ tmps) {d : Option Nat} (hd : okO n d = true) (v : Value) : Fits n (updO ρ d v) ((⟨tmps, []⟩ : Act).put d v).tmps := by
  cases d with
  | none => exact h
  | some d => exact h.set hd v
theorem put_defers (a : Act) (d : Option Nat) (v : Value) : (a.put d v).defers = a.defers := by cases d <;> rfl
theorem put_eta (tmps : Array Value) (d : Option Nat) (v : Value) : (⟨tmps, []⟩ : Act).put d v = ⟨((⟨tmps, []⟩ : Act).put d v).tmps, []⟩ := by cases d <;> rfl
def boolOf : Value → Option Bool
  | .bool b => some b
  | _ => none
def zb0 (ρ : Env) (ops : Array Oper) (o : Oper) : Bool :=
  match o.guard with
  | none => true
  | some (j, want) => (match (ops[j]?).bind (·.dst) with | some d => boolOf (ρ d) | none => none) == some want
theorem zdp {tmps : Array Value} (h : Fits n ρ tmps) (ops : Array Oper) (o : Oper) : Region.wanted o (yielded ops tmps) = zb0 ρ ops o := by
  unfold Region.wanted zb0
  cases hg : o.guard with
  | none => rfl
  | some jw =>
    obtain ⟨j, want⟩ := jw
    simp only [yielded]
    cases hd : (ops[j]?).bind (·.dst) with
    | none => rfl
    | some d =>
      simp only [Option.bind_some]
      have ht := h.2 d
      rw [Array.getD_eq_getD_getElem?] at ht
      cases hx : tmps[d]? with
      | none => rw [hx] at ht; simp only [Option.getD_none] at ht; rw [← ht]; rfl
      | some v => rw [hx] at ht; simp only [Option.getD_some] at ht; rw [← ht]; cases v <;> rfl
section ops
variable {ops : Array Oper} {rest : List Nat} {i : Nat}
theorem run_op {o : Oper} {v : Value} {w' : World} (ho : ops[i]? = some o) (hw : zb0 ρ ops o = true) (hd : okO n o.dst = true)
    (hr : (execOp (ev ρ) o).run P w = .ok (.value v) w') (h : Run P f n (.inRegion ops rest :: k) (updO ρ o.dst v) w' R) : Run P f n (.inRegion ops (i :: rest) :: k) ρ w R := by
  intro tmps ht cs
  obtain ⟨e, w'', fr', hq, hc, r⟩ := h _ (ht.putO hd v) cs
  refine ⟨e, w'', fr', hq, Comes.of_steps (.one ?_) hc, r⟩
  refine step_lone_go ?_
  show (stepG P true { frame := (base0 f).at ⟨tmps, []⟩ (.inRegion ops (i :: rest) :: k), callers := cs, status := .running, dying := none } w).bare = _
  rw [stepG_op (b := base0 f) (a := ⟨tmps, []⟩) ho (by rw [zdp ht]; exact hw), ht.eval]
  have hfin : ((base0 f).at ⟨tmps, []⟩ (.inRegion ops (i :: rest) :: k)).finish v = fr f ((⟨tmps, []⟩ : Act).put o.dst v).tmps (.inRegion ops rest :: k) := by
    rw [Frame.finish_at, ho, fr_at, ← put_eta]; rfl
  simp [stepG.apply, hr, hfin]
theorem run_op_skip {o : Oper} {w' : World} (ho : ops[i]? = some o) (hw : zb0 ρ ops o = true) (hd : okO n o.dst = true)
    (hr : (execOp (ev ρ) o).run P w = .ok .skip w') (h : Run P f n (.inRegion ops rest :: k) (updO ρ o.dst undef) w' R) : Run P f n (.inRegion ops (i :: rest) :: k) ρ w R := by
  intro tmps ht cs
  obtain ⟨e, w'', fr', hq, hc, r⟩ := h _ (ht.putO hd undef) cs
  refine ⟨e, w'', fr', hq, Comes.of_steps (.one ?_) hc, r⟩
  refine step_lone_go ?_
  show (stepG P true { frame := (base0 f).at ⟨tmps, []⟩ (.inRegion ops (i :: rest) :: k), callers := cs, status := .running, dying := none } w).bare = _
  rw [stepG_op (b := base0 f) (a := ⟨tmps, []⟩) ho (by rw [zdp ht]; exact hw), ht.eval]
  have hfin : ((base0 f).at ⟨tmps, []⟩ (.inRegion ops (i :: rest) :: k)).finish undef = fr f ((⟨tmps, []⟩ : Act).put o.dst undef).tmps (.inRegion ops rest :: k) := by
    rw [Frame.finish_at, ho, fr_at, ← put_eta]; rfl
  simp [stepG.apply, hr, hfin]
theorem run_op_call {o : Oper} {w' : World} {g : FuncId} {args : Array Value} {Q : Value → World → Prop} (ho : ops[i]? = some o) (hw : zb0 ρ ops o = true) (hd : okO n o.dst = true)
    (hr : (execOp (ev ρ) o).run P w = .ok (.enter g args) w') (hc : Calls P g args w' fun e w2 => ∃ v, e = .returned v ∧ Q v w2)
    (h : ∀ v w2, Q v w2 → Run P f n (.inRegion ops rest :: k) (updO ρ o.dst v) w2 R) : Run P f n (.inRegion ops (i :: rest) :: k) ρ w R := by
  intro tmps ht cs
  have hg := stepG_op (P := P) (b := base0 f) (a := ⟨tmps, []⟩) (k := k) (cs := cs) (w := w) (rest := rest) ho (by rw [zdp ht]; exact hw)
  rw [ht.eval] at hg
  obtain ⟨e, w2, fr2, ⟨v, rfl, hQ⟩, hsteps, _, hleave⟩ := hc ((base0 f).at ⟨tmps, []⟩ (.inRegion ops (i :: rest) :: k) :: cs)
  have henter : Go.step P (lone ((base0 f).at ⟨tmps, []⟩ (.inRegion ops (i :: rest) :: k)) cs w) =
      .next (lone (Frame.enter P g args .normal) ((base0 f).at ⟨tmps, []⟩ (.inRegion ops (i :: rest) :: k) :: cs) w') :=
    step_lone_go (by rw [hg]; simp [stepG.apply, hr, Frame.at])
  have hfin : ((base0 f).at ⟨tmps, []⟩ (.inRegion ops (i :: rest) :: k)).finish v = fr f ((⟨tmps, []⟩ : Act).put o.dst v).tmps (.inRegion ops rest :: k) := by
    rw [Frame.finish_at, ho, fr_at, ← put_eta]; rfl
  obtain ⟨e, w3, fr', hq, hcm, r⟩ := h v w2 hQ _ (ht.putO hd v) cs
  refine ⟨e, w3, fr', hq, Comes.of_steps (.head henter (Steps.trans hsteps (.one ?_))) hcm, r⟩
  rw [← hfin]
  exact step_leave_returned hleave
theorem run_op_off {o : Oper} (ho : ops[i]? = some o) (hw : zb0 ρ ops o = false) (hd : okO n o.dst = true)
    (h : Run P f n (.inRegion ops rest :: k) (updO ρ o.dst undef) w R) : Run P f n (.inRegion ops (i :: rest) :: k) ρ w R := by
  intro tmps ht cs
  obtain ⟨e, w'', fr', hq, hc, r⟩ := h _ (ht.putO hd undef) cs
  refine ⟨e, w'', fr', hq, Comes.of_steps (.one ?_) hc, r⟩
  have := step_op_skip (P := P) (b := base0 f) (a := ⟨tmps, []⟩) (k := k) (cs := cs) (w := w) (ops := ops) (i := i) (rest := rest) (by rw [ho]; simpa [zdp ht] using hw)
  rw [ho] at this
  simp only [Option.bind_some] at this
  rw [fr_at, this, put_eta]; rfl
end ops
theorem zas {fn : Func} {c : Code} {args : Array Value} (hf : P.funcs[f]? = some fn) (hb : fn.body = some c) (hn : fn.ntmps = n) (hs : Nat.ble args.size n = true)
    (h : Run P f n [.code c] (fun t => args.getD t undef) w R) : Calls P f args w R := by
  intro cs
  have hs' : args.size ≤ n := by simpa [Nat.ble_eq] using hs
  have henter : Frame.enter P f args .normal = fr f (args ++ Array.replicate (n - args.size) undef) [.code c] := by
    simp [Frame.enter, fr, hf, hb, hn]
    rfl
  obtain ⟨e, w', fr', hq, hc, r⟩ := h (args ++ Array.replicate (n - args.size) undef) ⟨by simp; omega, fun t => by
    simp only [Array.getD_eq_getD_getElem?, Array.getElem?_append, Array.getElem?_replicate]
    by_cases ht : t < args.size
    · rw [if_pos ht]
    · rw [if_neg ht, Array.getElem?_eq_none (by omega)]
      split <;> rfl⟩ cs
  rw [← henter] at hc
  exact ⟨e, w', fr', hq, hc, r⟩
theorem za8 {c : Code} {S : Type} (I : S → Env → World → Prop) (μ : S → Nat) (s : S) (h0 : I s ρ w)
    (step : ∀ s, (∀ s' ρ' w', μ s' < μ s → I s' ρ' w' → Run P f n (.inLoop c :: k) ρ' w' R) → ∀ ρ w, I s ρ w → Run P f n (.code c :: .inLoop c :: k) ρ w R) :
    Run P f n (.code (.loop c) :: k) ρ w R := by
  have all : ∀ m s, μ s < m → ∀ ρ w, I s ρ w → Run P f n (.code c :: .inLoop c :: k) ρ w R := by
    intro m
    induction m with
    | zero => intro s hs; omega
    | succ m ih =>
      intro s hs ρ w hI
      exact step s (fun s' ρ' w' hlt hI' => run_inLoop (ih s' (by omega) ρ' w' hI')) ρ w hI
  exact run_loop1 (all (μ s + 1) s (by omega) ρ w h0)
end
end Gx
namespace Gx
open Go Go.RowKit
abbrev Ghost := Nat → Option Obj
def hp (w : World) : Ghost := fun b => w.heap[b]?
def Le (h h' : Ghost) : Prop := ∀ b o, h b = some o → h' b = some o
theorem Le.refl (h : Ghost) : Le h h := fun _ _ e => e
theorem Le.trans {a b c : Ghost} (h : Le a b) (k : Le b c) : Le a c := fun x o e => k x o (h x o e)
def gor (h k : Ghost) : Ghost := fun b => match h b with | some o => some o | none => k b
theorem Le.gor_left (h k : Ghost) : Le h (gor h k) := fun b o e => by simp [gor, e]
theorem Le.gor_right {h k : Ghost} (hd : ∀ b o, h b = some o → k b = none) : Le k (gor h k) := fun b o e => by
  unfold gor
  cases hb : h b with
  | none => exact e
  | some o' => rw [hd b o' hb] at e; cases e
def gcell (h : Ghost) (a : Addr) : Option Value :=
  match h a.block with
  | some (.cells c _ _) => if a.spot.isSome then none else c[a.off]?
  | _ => none
theorem gcell_mono {h h' : Ghost} (hl : Le h h') {a : Addr} {v : Value} (hc : gcell h a = some v) : gcell h' a = some v := by
  unfold gcell at hc ⊢
  cases hb : h a.block with
  | none => rw [hb] at hc; cases hc
  | some o => rw [hb] at hc; rw [hl _ _ hb]; exact hc
theorem gcell_world {w : World} {h : Ghost} (hl : Le h (hp w)) {a : Addr} {v : Value} (hc : gcell h a = some v) : w.cell? a = some v := gcell_mono hl hc
theorem Le.below {w w' : World} (hb : Below w.heap.size w w') : Le (hp w) (hp w') := fun b o e => by
  have hlt : b < w.heap.size := by
    rcases Nat.lt_or_ge b w.heap.size with h | h
    · exact h
    · unfold hp at e; rw [Array.getElem?_eq_none h] at e; cases e
  unfold hp at e ⊢
  rw [hb.block b hlt]; exact e
structure Kd (α : Type) where
  sz : Nat
  pos : 0 < sz
  rep : Ghost → α → List Value → Prop
  mono : ∀ {h h' : Ghost} {x : α} {cs : List Value}, Le h h' → rep h x cs → rep h' x cs
  len : ∀ {h : Ghost} {x : α} {cs : List Value}, rep h x cs → cs.length = sz
  one : ∀ {h : Ghost} {x : α} {cs : List Value}, rep h x cs → ∀ u ∈ cs, u.oneCell' = true
def Kd.flat {α : Type} (enc : α → List Value) (ok : α → Prop) (n : Nat) (hp : 0 < n) (hl : ∀ x, ok x → (enc x).length = n) (h1 : ∀ x, ∀ u ∈ enc x, u.oneCell' = true) : Kd α where
  sz := n
  pos := hp
  rep := fun _ x cs => cs = enc x ∧ ok x
  mono := fun _ h => h
  len := fun h => by rw [h.1]; exact hl _ h.2
  one := fun h => by rw [h.1]; exact h1 _
def inK (k : IntKind) (x : Int) : Prop := k.min ≤ x ∧ x ≤ k.max
def Kd.int (k : IntKind) : Kd Int := .flat (fun x => [.int k x]) (inK k) 1 (by omega) (fun _ _ => rfl) (fun _ u hu => by simp at hu; subst hu; rfl)
def Kd.bool : Kd Bool := .flat (fun x => [.bool x]) (fun _ => True) 1 (by omega) (fun _ _ => rfl) (fun _ u hu => by simp at hu; subst hu; rfl)
def Kd.string : Kd ByteArray := .flat (fun x => [.string x]) (fun s => s.size ≤ maxLen) 1 (by omega) (fun _ _ => rfl) (fun _ u hu => by simp at hu; subst hu; rfl)
def zbu {α : Type} (k : Kd α) (h : Ghost) (xs : List α) (cs : List Value) : Prop :=
  cs.length = xs.length * k.sz ∧ ∀ i x, xs[i]? = some x → k.rep h x ((cs.drop (i * k.sz)).take k.sz)
def zbe {α : Type} (k : Kd α) (h : Ghost) (A : Option Addr) (xs : List α) : Prop :=
  xs ≠ [] → ∃ ad, A = some ad ∧ ∀ i x, xs[i]? = some x → ∃ seg, k.rep h x seg ∧ ∀ j v, seg[j]? = some v → gcell h (ad.add (i * k.sz + j)) = some v
theorem zbe.mono {α : Type} {k : Kd α} {h h' : Ghost} {A : Option Addr} {xs : List α} (hl : Le h h') (hr : zbe k h A xs) : zbe k h' A xs := fun hne => by
  obtain ⟨ad, e, hx⟩ := hr hne
  exact ⟨ad, e, fun i x hi => let ⟨seg, h1, h2⟩ := hx i x hi; ⟨seg, k.mono hl h1, fun j v hj => gcell_mono hl (h2 j v hj)⟩⟩
def Kd.slice {α : Type} (k : Kd α) : Kd (List α) where
  sz := 1
  pos := by omega
  rep := fun h xs cs => ∃ A c, cs = [.slice A xs.length c] ∧ xs.length ≤ c ∧ c ≤ maxLen ∧ zbe k h A xs
  mono := fun hl ⟨A, c, h1, h2, h3, h4⟩ => ⟨A, c, h1, h2, h3, h4.mono hl⟩
  len := fun ⟨_, _, h, _⟩ => by rw [h]; rfl
  one := fun ⟨_, _, h, _⟩ u hu => by rw [h] at hu; simp at hu; subst hu; rfl
structure Asrt where
  holds : Ghost → World → (Nat → Prop) → Prop
  mono : ∀ {h h' : Ghost} {w : World} {F : Nat → Prop}, Le h h' → holds h w F → holds h' w F
  far : ∀ {h : Ghost} {w w' : World} {F : Nat → Prop}, (∀ b, F b → w'.heap[b]? = w.heap[b]?) → holds h w F → holds h w' F
def emp : Asrt := ⟨fun _ _ _ => True, fun _ h => h, fun _ h => h⟩
def box (b : Nat) (T : TypeId) (cs : List Value) : Asrt where
  holds := fun _ w F => w.heap[b]? = some (.cells cs.toArray T (0, 0)) ∧ F b
  mono := fun _ h => h
  far := fun hf h => ⟨by rw [hf b h.2]; exact h.1, h.2⟩
def row {α : Type} (T : TypeId) (k : Kd α) (v : Value) (xs : List α) : Asrt where
  holds := fun h w F => ∃ cs, w.ownsRow 0 T k.sz v xs.length cs ∧ zbu k h xs cs ∧ ∀ g, v.ownBlock = some g → F g
  mono := fun hl ⟨cs, h1, h2, h3⟩ => ⟨cs, h1, ⟨h2.1, fun i x hi => k.mono hl (h2.2 i x hi)⟩, h3⟩
  far := fun {h w w' F} hf ⟨cs, h1, h2, h3⟩ => by
    refine ⟨cs, ⟨h1.1, ?_⟩, h2, h3⟩
    rcases h1.2 with h4 | ⟨g, cap, cur, hv, hb, hh, hr⟩
    · exact .inl h4
    · have hg : F g := h3 g (by rw [hv]; rfl)
      exact .inr ⟨g, cap, cur, hv, hb, by rw [hf g hg]; exact hh, hr⟩
def Sep (h : Ghost) (w : World) (U : Nat → Prop) (L : List Asrt) : Prop :=
  ∃ Fs : Nat → Nat → Prop, (∀ i A, L[i]? = some A → A.holds h w (Fs i) ∧ ∀ b, Fs i b → U b) ∧ ∀ i j, i < L.length → j < L.length → i ≠ j → ∀ b, Fs i b → ¬ Fs j b
structure Chg (w w' : World) (F : Nat → Prop) : Prop where
  os : w'.os = w.os
  tape : w'.tape = w.tape
  output : w'.output = w.output
  size : w.heap.size ≤ w'.heap.size
  block : ∀ b, b < w.heap.size → ¬ F b → w'.heap[b]? = w.heap[b]?
theorem Chg.mono {w w' : World} {F G : Nat → Prop} (h : Chg w w' F) (hg : ∀ b, F b → G b) : Chg w w' G := ⟨h.os, h.tape, h.output, h.size, fun b hb hn => h.block b hb (fun hf => hn (hg b hf))⟩
theorem Chg.of_below {w w' : World} (h : Below w.heap.size w w') : Chg w w' (fun _ => False) := ⟨h.os, h.tape, h.output, h.size, fun b hb _ => h.block b hb⟩
theorem Chg.below {w w' : World} (h : Chg w w' (fun _ => False)) : Below w.heap.size w w' := ⟨h.os, h.tape, h.output, h.size, fun b hb => h.block b hb (fun x => x)⟩
theorem Chg.alloc (w : World) (o : Obj) : Chg w (w.alloc o) (fun _ => False) := ⟨rfl, rfl, rfl, by simp, fun b hb _ => Below.heap_alloc w o b hb⟩
theorem Chg.drew (w : World) : Chg w w.drew (fun _ => False) := ⟨rfl, rfl, rfl, Nat.le_refl _, fun _ _ _ => rfl⟩
theorem Chg.refl (w : World) (F : Nat → Prop) : Chg w w F := ⟨rfl, rfl, rfl, Nat.le_refl _, fun _ _ _ => rfl⟩
theorem Chg.grown {w w' : World} {r : Option Nat} (h : w.grownBy w' r) : Chg w w' (fun b => r = some b) := ⟨h.os, h.tape, h.output, h.size, fun b hb hn => h.block b hb (fun e => hn e.symm)⟩
def Uw (base : Nat) (h : Ghost) (w : World) : Nat → Prop := fun b => base ≤ b ∧ b < w.heap.size ∧ h b = none
structure St (base : Nat) (w0 : World) (h : Ghost) (w : World) (L : List Asrt) : Prop where
  below : Below base w0 w
  bsz : base ≤ w.heap.size
  ghost : Le h (hp w)
  dom : ∀ b o, h b = some o → base ≤ b
  sep : Sep h w (Uw base h w) L
section
variable {base : Nat} {w0 w w' : World} {h : Ghost} {L : List Asrt}
theorem hp_lt {w : World} {b : Nat} {o : Obj} (h : hp w b = some o) : b < w.heap.size := by
  rcases Nat.lt_or_ge b w.heap.size with hlt | hge
  · exact hlt
  · unfold hp at h; rw [Array.getElem?_eq_none hge] at h; cases h
theorem St.init (w : World) : St w.heap.size w (fun _ => none) w [] where
  below := Below.refl _ _
  bsz := Nat.le_refl _
  ghost := fun _ _ e => by cases e
  dom := fun _ _ e => by cases e
  sep := ⟨fun _ _ => False, fun i A hi => by simp at hi, fun i j hi => by simp at hi⟩
theorem St.upd (S : St base w0 h w L) {i : Nat} {A A' : Asrt} (hi : L[i]? = some A)
    (hm : ∀ F, A.holds h w F → (∀ b, F b → Uw base h w b) → Chg w w' F ∧ ∃ F', A'.holds h w' F' ∧ ∀ b, F' b → F b ∨ (w.heap.size ≤ b ∧ b < w'.heap.size)) :
    St base w0 h w' (L.set i A') := by
  obtain ⟨Fs, hF, hD⟩ := S.sep
  obtain ⟨hA, hU⟩ := hF i A hi
  obtain ⟨hc, F', hA', hF'⟩ := hm _ hA hU
  have hlen : i < L.length := (List.getElem?_eq_some_iff.1 hi).1
  have hsame : ∀ b, b < w.heap.size → ¬ Fs i b → w'.heap[b]? = w.heap[b]? := hc.block
  have hfresh : ∀ b, w.heap.size ≤ b → h b = none := fun b hb => by
    cases e : h b with
    | none => rfl
    | some o => have := hp_lt (S.ghost b o e); omega
  refine ⟨?_, Nat.le_trans S.bsz hc.size, ?_, S.dom, ?_⟩
  · refine S.below.trans ⟨hc.os, hc.tape, hc.output, hc.size, fun b hb => hsame b (Nat.lt_of_lt_of_le hb S.bsz) (fun hf => ?_)⟩
    have := (hU b hf).1; omega
  · intro b o e
    have h1 := S.ghost b o e
    have hlt := hp_lt h1
    unfold hp at h1 ⊢
    rw [hsame b hlt (fun hf => by have := (hU b hf).2.2; rw [e] at this; cases this)]
    exact h1
  · refine ⟨fun j => if j = i then F' else Fs j, fun j B hj => ?_, fun j m hjl hml hjm b hb1 hb2 => ?_⟩
    · by_cases hji : j = i
      · subst hji
        rw [List.getElem?_set_self hlen] at hj
        injection hj with hj
        subst hj
        simp only [if_true]
        refine ⟨hA', fun b hb => ?_⟩
        rcases hF' b hb with hb | hb
        · exact ⟨(hU b hb).1, Nat.lt_of_lt_of_le (hU b hb).2.1 hc.size, (hU b hb).2.2⟩
        · exact ⟨Nat.le_trans S.bsz hb.1, hb.2, hfresh b hb.1⟩
      · rw [List.getElem?_set_ne (fun e => hji e.symm)] at hj
        obtain ⟨hB, hUB⟩ := hF j B hj
        have hjlen : j < L.length := (List.getElem?_eq_some_iff.1 hj).1
        simp only [if_neg hji]
        refine ⟨B.far (fun b hb => hsame b (hUB b hb).2.1 (fun hf => hD j i hjlen hlen hji b hb hf)) hB, fun b hb => ?_⟩
        exact ⟨(hUB b hb).1, Nat.lt_of_lt_of_le (hUB b hb).2.1 hc.size, (hUB b hb).2.2⟩
    · have hjl' : j < L.length := by simpa using hjl
      have hml' : m < L.length := by simpa using hml
      have key : ∀ q, q < L.length → q ≠ i → ∀ b, F' b → ¬ Fs q b := fun q hq hqi b hb hb' => by
        rcases hF' b hb with hb | hb
        · exact hD i q hlen hq (fun e => hqi e.symm) b hb hb'
        · have hQ := (hF q (L[q]) (List.getElem?_eq_getElem hq)).2 b hb'
          have := hQ.2.1; omega
      by_cases hji : j = i
      · subst hji
        have hmi : m ≠ j := fun e => hjm e.symm
        simp only [if_true] at hb1
        simp only [if_neg hmi] at hb2
        exact key m hml' hmi b hb1 hb2
      · simp only [if_neg hji] at hb1
        by_cases hmi : m = i
        · subst hmi
          simp only [if_true] at hb2
          exact key j hjl' hji b hb2 hb1
        · simp only [if_neg hmi] at hb2
          exact hD j m hjl' hml' hjm b hb1 hb2
theorem St.keep (S : St base w0 h w L) (hc : Chg w w' (fun _ => False)) : St base w0 h w' L := by
  obtain ⟨Fs, hF, hD⟩ := S.sep
  have hsame : ∀ b, b < w.heap.size → w'.heap[b]? = w.heap[b]? := fun b hb => hc.block b hb (fun x => x)
  refine ⟨S.below.trans ⟨hc.os, hc.tape, hc.output, hc.size, fun b hb => hsame b (Nat.lt_of_lt_of_le hb S.bsz)⟩, Nat.le_trans S.bsz hc.size, ?_, S.dom, Fs, fun i A hi => ?_, hD⟩
  · intro b o e
    have h1 := S.ghost b o e
    unfold hp at h1 ⊢
    rw [hsame b (hp_lt h1)]; exact h1
  · obtain ⟨hA, hU⟩ := hF i A hi
    exact ⟨A.far (fun b hb => hsame b (hU b hb).2.1) hA, fun b hb => ⟨(hU b hb).1, Nat.lt_of_lt_of_le (hU b hb).2.1 hc.size, (hU b hb).2.2⟩⟩
theorem St.call {hn : Ghost} {M : List Asrt} (S : St base w0 h w L) (T : St w.heap.size w hn w' M) : St base w0 (gor h hn) w' (L ++ M) := by
  have S' := S.keep (Chg.of_below T.below)
  obtain ⟨Fs, hF, hD⟩ := S.sep
  obtain ⟨Gs, hG, hE⟩ := T.sep
  have hhn : ∀ b, b < w.heap.size → hn b = none := fun b hb => by
    cases e : hn b with
    | none => rfl
    | some o => have := T.dom b o e; omega
  have hh : ∀ b, w.heap.size ≤ b → h b = none := fun b hb => by
    cases e : h b with
    | none => rfl
    | some o => have := hp_lt (S.ghost b o e); omega
  have hle2 : Le hn (gor h hn) := Le.gor_right fun b o e => hhn b (hp_lt (S.ghost b o e))
  refine ⟨S'.below, S'.bsz, ?_, ?_, ?_⟩
  · intro b o e
    unfold gor at e
    cases hb : h b with
    | none => rw [hb] at e; exact T.ghost b o e
    | some o' => rw [hb] at e; injection e with e; subst e; exact S'.ghost b _ hb
  · intro b o e
    unfold gor at e
    cases hb : h b with
    | none => rw [hb] at e; exact Nat.le_trans S.bsz (T.dom b o e)
    | some o' => exact S.dom b _ hb
  · have hlow : ∀ i A b, L[i]? = some A → Fs i b → b < w.heap.size := fun i A b hi hb => ((hF i A hi).2 b hb).2.1
    refine ⟨fun i => if i < L.length then Fs i else Gs (i - L.length), fun i A hi => ?_, fun i j hil hjl hij b hb1 hb2 => ?_⟩
    · by_cases hil : i < L.length
      · rw [List.getElem?_append_left hil] at hi
        obtain ⟨hA, hU⟩ := hF i A hi
        simp only [if_pos hil]
        refine ⟨A.mono (Le.gor_left _ _) (A.far (fun b hb => T.below.block b (hU b hb).2.1) hA), fun b hb => ?_⟩
        have hu := hU b hb
        refine ⟨hu.1, Nat.lt_of_lt_of_le hu.2.1 T.below.size, ?_⟩
        unfold gor; rw [hu.2.2]; exact hhn b hu.2.1
      · rw [List.getElem?_append_right (by omega)] at hi
        obtain ⟨hA, hU⟩ := hG _ A hi
        simp only [if_neg hil]
        refine ⟨A.mono hle2 hA, fun b hb => ?_⟩
        have hu := hU b hb
        refine ⟨Nat.le_trans S.bsz hu.1, hu.2.1, ?_⟩
        unfold gor; rw [hh b hu.1]; exact hu.2.2
    · rw [List.length_append] at hil hjl
      have low : ∀ q, q < L.length → Fs q b → b < w.heap.size := fun q hq hb => hlow q _ b (List.getElem?_eq_getElem hq) hb
      have high : ∀ q, q < M.length → Gs q b → w.heap.size ≤ b := fun q hq hb => ((hG q _ (List.getElem?_eq_getElem hq)).2 b hb).1
      by_cases hi : i < L.length <;> by_cases hj : j < L.length
      · simp only [if_pos hi] at hb1; simp only [if_pos hj] at hb2
        exact hD i j hi hj hij b hb1 hb2
      · simp only [if_pos hi] at hb1; simp only [if_neg hj] at hb2
        have := low i hi hb1; have := high _ (by omega) hb2; omega
      · simp only [if_neg hi] at hb1; simp only [if_pos hj] at hb2
        have := low j hj hb2; have := high _ (by omega) hb1; omega
      · simp only [if_neg hi] at hb1; simp only [if_neg hj] at hb2
        exact hE _ _ (by omega) (by omega) (by omega) b hb1 hb2
theorem St.pick (S : St base w0 h w L) (is : List Nat) (hnd : is.Nodup) (hlt : ∀ i ∈ is, i < L.length) (L' : List Asrt) (hL : L' = is.map fun i => L.getD i emp) : St base w0 h w L' := by
  obtain ⟨Fs, hF, hD⟩ := S.sep
  subst hL
  refine ⟨S.below, S.bsz, S.ghost, S.dom, fun i => Fs (is.getD i 0), fun i A hi => ?_, fun i j hi hj hij b h1 h2 => ?_⟩
  · rw [List.getElem?_map] at hi
    cases hq : is[i]? with
    | none => rw [hq] at hi; cases hi
    | some q =>
      rw [hq] at hi
      have hql : q < L.length := hlt q (List.mem_of_getElem? hq)
      have hd : is.getD i 0 = q := by simp [List.getD_eq_getElem?_getD, hq]
      simp only [Option.map_some, Option.some.injEq] at hi
      simp only [hd]
      refine hF q A ?_
      rw [← hi]
      simp [List.getD_eq_getElem?_getD, List.getElem?_eq_getElem hql]
  · simp only [List.length_map] at hi hj
    have e1 : is.getD i 0 = is[i] := by simp [List.getD_eq_getElem?_getD, List.getElem?_eq_getElem hi]
    have e2 : is.getD j 0 = is[j] := by simp [List.getD_eq_getElem?_getD, List.getElem?_eq_getElem hj]
    simp only [e1] at h1; simp only [e2] at h2
    refine hD _ _ (hlt _ (List.getElem_mem hi)) (hlt _ (List.getElem_mem hj)) (fun e => hij ?_) b h1 h2
    exact (List.getElem_inj hnd).1 e
theorem add_block (a : Addr) (n : Nat) : (a.add n).block = a.block := by unfold Addr.add; split <;> rfl
theorem add_add (a : Addr) (i j : Nat) : (a.add i).add j = a.add (i + j) := by
  unfold Addr.add
  by_cases hi : i = 0 <;> by_cases hj : j = 0 <;> simp [hi, hj, Nat.add_assoc]
theorem gcell_of_block {h : Ghost} {w : World} {a : Addr} (hb : h a.block = w.heap[a.block]?) : gcell h a = w.cell? a := by
  unfold gcell World.cell?
  rw [hb]
  cases w.heap[a.block]? with
  | none => rfl
  | some o => cases o <;> rfl
theorem zbu.leads {α : Type} {k : Kd α} {h h' : Ghost} {w : World} {xs : List α} {cs : List Value} {B : Nat} {T : TypeId} {A : Option Addr} {n c : Nat} (he : zbu k h xs cs) (hl : Le h h')
    (hown : w.ownsRow B T k.sz (.slice A n c) n cs) (hg : ∀ g, (Value.slice A n c).ownBlock = some g → h' g = w.heap[g]?) (hn : xs.length = n) : zbe k h' A xs := fun hne => by
  subst hn
  have hp : 0 < xs.length := List.length_pos_iff.2 hne
  rcases hown.2 with ⟨_, h0⟩ | ⟨g, cap, cur, hv, _, hh, _⟩
  · omega
  · injection hv with hA _ hc
    subst hA
    refine ⟨_, rfl, fun i x hi => ⟨_, k.mono hl (he.2 i x hi), fun j u hj => ?_⟩⟩
    rw [List.getElem?_take] at hj
    split at hj
    · rw [List.getElem?_drop] at hj
      have := hown.cells (g := g) rfl _ u hj
      rw [gcell_of_block (w := w) (by rw [add_block]; exact hg g rfl)]
      exact this
    · cases hj
theorem St.freeze {α : Type} {T : TypeId} {k : Kd α} {v : Value} {xs : List α} {i : Nat} (S : St base w0 h w L) (hi : L[i]? = some (row T k v xs)) :
    ∃ h', Le h h' ∧ St base w0 h' w (L.set i emp) ∧ k.slice.rep h' xs [v] := by
  obtain ⟨Fs, hF, hD⟩ := S.sep
  obtain ⟨⟨cs, hown, hel, hg⟩, hU⟩ := hF i _ hi
  have hlen : i < L.length := (List.getElem?_eq_some_iff.1 hi).1
  have hdis : ∀ b, Fs i b → h b = none := fun b hb => (hU b hb).2.2
  -- the new ghost: one block more
  have key : ∀ (h' : Ghost), Le h h' → (∀ g, v.ownBlock = some g → h' g = w.heap[g]?) → (∀ b, h' b = h b ∨ (Fs i b ∧ h' b = w.heap[b]?)) → St base w0 h' w (L.set i emp) ∧ k.slice.rep h' xs [v] := by
    intro h' hle hgb hcase
    refine ⟨⟨S.below, S.bsz, fun b o e => ?_, fun b o e => ?_, fun j => if j = i then (fun _ => False) else Fs j, fun j A hj => ?_, fun j m hj hm hjm b h1 h2 => ?_⟩, ?_⟩
    · rcases hcase b with e' | ⟨_, e'⟩
      · rw [e'] at e; exact S.ghost b o e
      · rw [e'] at e; exact e
    · rcases hcase b with e' | ⟨hf, e'⟩
      · rw [e'] at e; exact S.dom b o e
      · exact (hU b hf).1
    · by_cases hji : j = i
      · subst hji
        rw [List.getElem?_set_self hlen] at hj
        injection hj with hj
        subst hj
        exact ⟨trivial, fun b hb => by simp at hb⟩
      · rw [List.getElem?_set_ne (fun e => hji e.symm)] at hj
        obtain ⟨hA, hUA⟩ := hF j A hj
        have hjl : j < L.length := (List.getElem?_eq_some_iff.1 hj).1
        simp only [if_neg hji]
        refine ⟨A.mono hle hA, fun b hb => ⟨(hUA b hb).1, (hUA b hb).2.1, ?_⟩⟩
        rcases hcase b with e' | ⟨hf, _⟩
        · rw [e']; exact (hUA b hb).2.2
        · exact (hD j i hjl hlen hji b hb hf).elim
    · simp only [List.length_set] at hj hm
      by_cases hji : j = i
      · simp [hji] at h1
      · by_cases hmi : m = i
        · simp [hmi] at h2
        · simp only [if_neg hji] at h1; simp only [if_neg hmi] at h2
          exact hD j m hj hm hjm b h1 h2
    · rcases hown.2 with ⟨hv, h0⟩ | ⟨g, cap, cur, hv, _, _, h1, h2, _⟩
      · have hx : xs = [] := List.eq_nil_of_length_eq_zero h0
        subst hx
        exact ⟨none, 0, by rw [hv]; rfl, by simp, by simp, fun hne => (hne rfl).elim⟩
      · subst hv
        exact ⟨_, cap, rfl, h1, h2, hel.leads hle hown hgb rfl⟩
  cases hv : v.ownBlock with
  | none => exact ⟨h, Le.refl h, key h (Le.refl h) (fun g e => by rw [hv] at e; cases e) (fun b => .inl rfl)⟩
  | some g =>
    have hfg : Fs i g := hg g hv
    refine ⟨fun b => if b = g then w.heap[b]? else h b, ?_, key _ ?_ ?_ ?_⟩
    · intro b o e
      have hne : b ≠ g := fun e' => by subst e'; rw [hdis b hfg] at e; cases e
      simp only [if_neg hne]; exact e
    · intro b o e
      have hne : b ≠ g := fun e' => by subst e'; rw [hdis b hfg] at e; cases e
      simp only [if_neg hne]; exact e
    · intro g' e; rw [hv] at e; injection e with e; subst e; simp
    · intro b
      by_cases hb : b = g
      · subst hb; exact .inr ⟨hfg, by simp⟩
      · exact .inl (by simp [hb])
end
end Gx
namespace Gx
open Go Go.RowKit
def aggD : TypeDesc → Bool
  | .struct _ | .array _ _ => true
  | _ => false
def zbk (P : Program) (T : TypeId) : Option (Nat × Nat × Bool × Option Value) :=
  match P.info? T, P.underlying T with
  | some i, some d => some (i.size, i.bytes, aggD d, i.zero)
  | _, _ => none
theorem zbl {P : Program} {T : TypeId} {n b : Nat} {g : Bool} {z : Option Value} (h : zbk P T = some (n, b, g, z)) :
    ∃ i d, P.info? T = some i ∧ P.underlying T = some d ∧ i.size = n ∧ i.bytes = b ∧ aggD d = g ∧ i.zero = z := by
  unfold zbk at h
  split at h
  · rename_i i d hi hd
    simp only [Option.some.injEq, Prod.mk.injEq] at h
    exact ⟨i, d, hi, hd, h.1, h.2.1, h.2.2.1, h.2.2.2⟩
  · cases h
section
variable {P : Program} {w : World}
theorem run_isAgg {T : TypeId} {d : TypeDesc} (hd : P.underlying T = some d) : (isAgg T).run P w = .ok (aggD d) w := by
  simp only [isAgg, Sem.run_bind]
  rw [run_underlying hd]
  simp only [Result.andThen_ok]
  cases d <;> rfl
theorem zc3 {T : TypeId} {i : TypeInfo} (hi : P.info? T = some i) : (Go.sizeOf T).run P w = Result.ok i.size w := by
  simp [Go.sizeOf, typeInfo, hi, go_sem]
theorem run_loadCellsFrom (a : Addr) : ∀ (l : List Value) (i : Nat) (acc : Array Value), (∀ j u, l[j]? = some u → w.cell? (a.add (i + j)) = some u) →
    (loadCellsFrom a i l.length acc).run P w = .ok (acc ++ l.toArray) w
  | [], i, acc, _ => by simp [loadCellsFrom, go_sem]
  | v :: l, i, acc, h => by
    have h0 := h 0 v rfl
    have ih := run_loadCellsFrom a l (i + 1) (acc.push v) (fun j u hj => by have := h (j + 1) u (by simpa using hj); rwa [show i + 1 + j = i + (j + 1) by omega])
    simp only [List.length_cons, loadCellsFrom, Sem.run_bind]
    rw [show (load (a.add i)).run P w = .ok v w by
      unfold load
      simp only [Nat.add_zero] at h0
      simp only [Sem.run, h0]]
    simp only [Result.andThen_ok]
    rw [ih]
    simp
theorem run_loadCells {a : Addr} {l : List Value} {n : Nat} (hn : l.length = n) (h : ∀ j u, l[j]? = some u → w.cell? (a.add j) = some u) : (loadCells a n).run P w = .ok l.toArray w := by
  subst hn
  unfold loadCells
  rw [run_loadCellsFrom a l 0 #[] (fun j u hj => by rw [Nat.zero_add]; exact h j u hj)]
  simp
def packV (g : Bool) (cs : List Value) : Value := if g then .agg cs.toArray else cs.headD undef
theorem run_loadVar {T : TypeId} {n b : Nat} {g : Bool} {z : Option Value} {a : Addr} {cs : List Value} (ht : zbk P T = some (n, b, g, z)) (hn : cs.length = n) (h1 : g = false → n = 1)
    (h : ∀ j u, cs[j]? = some u → w.cell? (a.add j) = some u) : (loadVar T a).run P w = .ok (packV g cs) w := by
  obtain ⟨i, d, hi, hd, hs, _, hg, _⟩ := zbl ht
  simp only [loadVar, Sem.run_bind, run_isAgg hd, Result.andThen_ok, hg]
  cases g with
  | true =>
    simp only [if_true, Sem.run_bind, zc3 hi, Result.andThen_ok, hs]
    rw [run_loadCells hn h]
    simp [packV, go_sem]
  | false =>
    have hn1 := h1 rfl
    match cs, hn.trans hn1 with
    | [v], _ =>
      have h0 := h 0 v rfl
      have : w.cell? a = some v := by simpa [Addr.add] using h0
      simp [packV, load, Sem.run, this]
def zcf (w : World) (b : Nat) (T : TypeId) (cs : List Value) : World := { w with heap := w.heap.setIfInBounds b (.cells cs.toArray T (0, 0)) }
theorem putBlock_chg (w : World) (b : Nat) (T : TypeId) (cs : List Value) : Chg w (zcf w b T cs) (fun x => x = b) where
  os := rfl
  tape := rfl
  output := rfl
  size := by simp [zcf]
  block := fun x _ hn => by
    simp only [zcf, Array.getElem?_setIfInBounds]
    rw [if_neg (fun e => hn e.symm)]
theorem putBlock_at {b : Nat} (hb : b < w.heap.size) (T : TypeId) (cs : List Value) : (zcf w b T cs).heap[b]? = some (.cells cs.toArray T (0, 0)) := by
  simp [zcf, hb]
theorem putBlock_put (w : World) (b : Nat) (T : TypeId) (cs ds : List Value) : zcf (zcf w b T cs) b T ds = zcf w b T ds := by
  simp [zcf, Array.setIfInBounds_setIfInBounds]
theorem setCell_box {b off : Nat} {T : TypeId} {cs : List Value} (hb : w.heap[b]? = some (.cells cs.toArray T (0, 0))) (v : Value) : w.setCell ⟨b, off, none⟩ v = zcf w b T (cs.set off v) := by
  have hlt : b < w.heap.size := (Array.getElem?_eq_some_iff.1 hb).1
  unfold World.setCell zcf
  congr 1
  apply Array.ext_getElem?
  intro i
  rw [Array.getElem?_modify, Array.getElem?_setIfInBounds]
  by_cases hi : b = i
  · subst hi
    rw [if_pos rfl, if_pos rfl, hb, if_pos hlt]
    simp
  · rw [if_neg hi, if_neg hi]
theorem cell_box {b off : Nat} {T : TypeId} {cs : List Value} (hb : w.heap[b]? = some (.cells cs.toArray T (0, 0))) : w.cell? ⟨b, off, none⟩ = cs[off]? := by
  simp [World.cell?, hb]
theorem frozen_box {b off : Nat} {T : TypeId} {cs : List Value} (hb : w.heap[b]? = some (.cells cs.toArray T (0, 0))) : w.frozen? ⟨b, off, none⟩ = false := by
  simp [World.frozen?, hb]
theorem run_store_box {b off : Nat} {T : TypeId} {cs : List Value} {v : Value} (hb : w.heap[b]? = some (.cells cs.toArray T (0, 0))) (ho : off < cs.length) (h1 : v.oneCell' = true) :
    (store ⟨b, off, none⟩ v).run P w = .ok () (zcf w b T (cs.set off v)) := by
  rw [run_store P w _ v _ h1, cell_box hb, List.getElem?_eq_getElem ho]
  simp only [frozen_box hb]
  rw [setCell_box hb]
  rfl
def lput (cs : List Value) (off : Nat) : List Value → List Value
  | [] => cs
  | v :: vs => lput (cs.set off v) (off + 1) vs
theorem lput_length (vs : List Value) : ∀ (cs : List Value) (off : Nat), (lput cs off vs).length = cs.length := by
  induction vs with
  | nil => intro cs off; rfl
  | cons v vs ih => intro cs off; simp [lput, ih]
theorem lput_get (vs : List Value) : ∀ (cs : List Value) (off i : Nat), off + vs.length ≤ cs.length → (lput cs off vs)[i]? = if off ≤ i ∧ i < off + vs.length then vs[i - off]? else cs[i]? := by
  induction vs with
  | nil => intro cs off i h; rw [if_neg (by simp only [List.length_nil]; omega)]; rfl
  | cons v vs ih =>
    intro cs off i h
    simp only [List.length_cons] at h
    simp only [lput]
    rw [ih _ _ _ (by rw [List.length_set]; omega)]
    by_cases h1 : off = i
    · subst h1
      rw [if_neg (by omega), if_pos (by simp), List.getElem?_set_self (by omega)]
      simp
    · by_cases h2 : off + 1 ≤ i ∧ i < off + 1 + vs.length
      · rw [if_pos h2, if_pos (by simp; omega), show i - off = (i - (off + 1)) + 1 by omega, List.getElem?_cons_succ]
      · rw [if_neg h2, if_neg (by simp; omega), List.getElem?_set_ne h1]
theorem lput_eq (vs cs : List Value) (off : Nat) (h : off + vs.length ≤ cs.length) : lput cs off vs = cs.take off ++ vs ++ cs.drop (off + vs.length) := by
  apply List.ext_getElem?
  intro i
  rw [lput_get vs cs off i h]
  simp only [List.getElem?_append, List.length_append, List.length_take, List.getElem?_take, List.getElem?_drop]
  rw [Nat.min_eq_left (by omega)]
  by_cases h1 : i < off
  · rw [if_neg (by omega), if_pos (by omega), if_pos h1, if_pos h1]
  · by_cases h2 : i < off + vs.length
    · rw [if_pos (by omega), if_pos h2, if_neg h1]
    · rw [if_neg (by omega), if_neg h2]
      congr 1
      omega
theorem run_storeCells_box (vs : List Value) : ∀ (w : World) (b off i : Nat) (T : TypeId) (cs : List Value), w.heap[b]? = some (.cells cs.toArray T (0, 0)) → off + i + vs.length ≤ cs.length → (∀ u ∈ vs, u.oneCell' = true) →
    (storeCells ⟨b, off, none⟩ vs i).run P w = .ok () (zcf w b T (lput cs (off + i) vs)) := by
  induction vs with
  | nil =>
    intro w b off i T cs hb hl h1
    have hlt : b < w.heap.size := (Array.getElem?_eq_some_iff.1 hb).1
    simp only [storeCells, lput]
    have : zcf w b T cs = w := by
      unfold zcf
      congr 1
      apply Array.ext_getElem?
      intro x
      rw [Array.getElem?_setIfInBounds]
      split
      · rename_i e; subst e; rw [hb]; try rw [if_pos hlt]
      · rfl
    rw [this]
    rfl
  | cons v vs ih =>
    intro w b off i T cs hb hl h1
    simp only [List.length_cons] at hl
    have hlt : b < w.heap.size := (Array.getElem?_eq_some_iff.1 hb).1
    have hadd : (⟨b, off, none⟩ : Addr).add i = ⟨b, off + i, none⟩ := by unfold Addr.add; split <;> simp_all
    simp only [storeCells, Sem.run_bind]
    rw [hadd, run_store_box hb (by omega) (h1 v (by simp))]
    simp only [Result.andThen_ok]
    rw [ih (zcf w b T (cs.set (off + i) v)) b off (i + 1) T (cs.set (off + i) v) (putBlock_at hlt _ _) (by simp; omega) (fun u hu => h1 u (by simp [hu]))]
    rw [putBlock_put]
    rfl
theorem run_storeVar_box {b off : Nat} {T E : TypeId} {cs : List Value} {v : Value} {n by' : Nat} {g : Bool} {z : Option Value} (ht : zbk P T = some (n, by', g, z)) (hb : w.heap[b]? = some (.cells cs.toArray E (0, 0)))
    (hv : v.cells.size = n) (ho : off + n ≤ cs.length) (h1 : ∀ u ∈ v.cells.toList, u.oneCell' = true) :
    (storeVar T ⟨b, off, none⟩ v).run P w = .ok () (zcf w b E (lput cs off v.cells.toList)) := by
  obtain ⟨i, d, hi, hd, hs, _, hg, _⟩ := zbl ht
  simp only [storeVar, Sem.run_bind, zc3 hi, Result.andThen_ok]
  rw [if_neg (by rw [hs]; simp [hv])]
  have := run_storeCells_box (P := P) v.cells.toList w b off 0 E cs hb (by simp [hv]; omega) h1
  simpa [go_sem] using this
end
end Gx
namespace Gx
open Go Go.RowKit
set_option linter.unusedSimpArgs false
theorem zai {x : Int} (h1 : -9223372036854775808 ≤ x) (h2 : x ≤ 9223372036854775807) : inK .i64 x := ⟨h1, h2⟩
theorem in_u8 {x : Int} (h1 : 0 ≤ x) (h2 : x ≤ 255) : inK .u8 x := ⟨h1, h2⟩
theorem zb5 {x : Int} (h1 : 0 ≤ x) (h2 : x ≤ 18446744073709551615) : inK .u64 x := ⟨h1, h2⟩
theorem za1 {x : Int} (h : inK .i64 x) : -9223372036854775808 ≤ x := h.1
theorem za2 {x : Int} (h : inK .i64 x) : x ≤ 9223372036854775807 := h.2
theorem u8_lo {x : Int} (h : inK .u8 x) : 0 ≤ x := h.1
theorem u8_hi {x : Int} (h : inK .u8 x) : x ≤ 255 := h.2
theorem zch {x : Int} (h : inK .u64 x) : 0 ≤ x := h.1
theorem zcj {x : Int} (h : inK .u64 x) : x ≤ 18446744073709551615 := h.2
theorem wrap_in {k : IntKind} {x : Int} (h : inK k x) : k.wrap x = x := by
  obtain ⟨h1, h2⟩ := h
  unfold IntKind.wrap
  cases k <;> simp only [IntKind.min, IntKind.max, IntKind.bits, IntKind.signed] at * <;> simp at * <;> omega
section
variable {P : Program} {w : World} {ρ : Env} {d : Option Tmp} {ty : TypeId} {pos : String} {af : Array Edge} {g : Option (Nat × Bool)} {x y : Operand}
theorem zad {v : Value} (h : ev ρ x = v) : (execOp (ev ρ) ⟨d, .move x, ty, pos, af, g⟩).run P w = .ok (.value v) w := by subst h; rfl
theorem zae {v : Value} (h : ev ρ x = v) : (execOp (ev ρ) ⟨d, .assign x, ty, pos, af, g⟩).run P w = .ok (.value v) w := by subst h; rfl
theorem zbf {c : Operand} {v : Value} (hc : ev ρ c = .bool true) (h : ev ρ x = v) : (execOp (ev ρ) ⟨d, .pick c x y, ty, pos, af, g⟩).run P w = .ok (.value v) w := by
  subst h; simp [execOp, hc, asBool, go_sem]
theorem zbq {c : Operand} {v : Value} (hc : ev ρ c = .bool false) (h : ev ρ y = v) : (execOp (ev ρ) ⟨d, .pick c x y, ty, pos, af, g⟩).run P w = .ok (.value v) w := by
  subst h; simp [execOp, hc, asBool, go_sem]
theorem zbv {k : IntKind} {a b : Int} {t t2 : TypeId} (hx : ev ρ x = .int k a) (hy : ev ρ y = .int k b) (hr : inK k (a + b)) : (execOp (ev ρ) ⟨d, .binOp .add t x y t2, ty, pos, af, g⟩).run P w = .ok (.value (.int k (a + b))) w := by
  simp [execOp, hx, hy, eqGuard, binOp, Op.intArith, wrap_in hr, go_sem]
theorem x_sub {k : IntKind} {a b : Int} {t t2 : TypeId} (hx : ev ρ x = .int k a) (hy : ev ρ y = .int k b) (hr : inK k (a - b)) : (execOp (ev ρ) ⟨d, .binOp .sub t x y t2, ty, pos, af, g⟩).run P w = .ok (.value (.int k (a - b))) w := by
  simp [execOp, hx, hy, eqGuard, binOp, Op.intArith, wrap_in hr, go_sem]
theorem x_quo {k : IntKind} {a b : Int} {t t2 : TypeId} (hx : ev ρ x = .int k a) (hy : ev ρ y = .int k b) (ha : 0 ≤ a) (hb : 0 < b) (hr : inK k (a / b)) : (execOp (ev ρ) ⟨d, .binOp .quo t x y t2, ty, pos, af, g⟩).run P w = .ok (.value (.int k (a / b))) w := by
  have h0 : b ≠ 0 := by omega
  simp [execOp, hx, hy, eqGuard, binOp, Op.intDiv, h0, Int.tdiv_eq_ediv_of_nonneg ha, wrap_in hr, go_sem]
theorem x_rem {k : IntKind} {a b : Int} {t t2 : TypeId} (hx : ev ρ x = .int k a) (hy : ev ρ y = .int k b) (ha : 0 ≤ a) (hb : 0 < b) : (execOp (ev ρ) ⟨d, .binOp .rem t x y t2, ty, pos, af, g⟩).run P w = .ok (.value (.int k (a % b))) w := by
  have h0 : b ≠ 0 := by omega
  simp [execOp, hx, hy, eqGuard, binOp, Op.intDiv, h0, Int.tmod_eq_emod_of_nonneg ha, go_sem]
theorem zc2 {k : IntKind} {a b : Int} {t t2 : TypeId} (hx : ev ρ x = .int k a) (hy : ev ρ y = .int k b) : (execOp (ev ρ) ⟨d, .binOp .lss t x y t2, ty, pos, af, g⟩).run P w = .ok (.value (.bool (decide (a < b)))) w := by
  simp [execOp, hx, hy, eqGuard, binOp, Op.intCmp, go_sem]
theorem x_leq {k : IntKind} {a b : Int} {t t2 : TypeId} (hx : ev ρ x = .int k a) (hy : ev ρ y = .int k b) : (execOp (ev ρ) ⟨d, .binOp .leq t x y t2, ty, pos, af, g⟩).run P w = .ok (.value (.bool (decide (a ≤ b)))) w := by
  simp [execOp, hx, hy, eqGuard, binOp, Op.intCmp, go_sem]
theorem x_gtr {k : IntKind} {a b : Int} {t t2 : TypeId} (hx : ev ρ x = .int k a) (hy : ev ρ y = .int k b) : (execOp (ev ρ) ⟨d, .binOp .gtr t x y t2, ty, pos, af, g⟩).run P w = .ok (.value (.bool (decide (b < a)))) w := by
  simp [execOp, hx, hy, eqGuard, binOp, Op.intCmp, go_sem]
theorem x_geq {k : IntKind} {a b : Int} {t t2 : TypeId} (hx : ev ρ x = .int k a) (hy : ev ρ y = .int k b) : (execOp (ev ρ) ⟨d, .binOp .geq t x y t2, ty, pos, af, g⟩).run P w = .ok (.value (.bool (decide (b ≤ a)))) w := by
  simp [execOp, hx, hy, eqGuard, binOp, Op.intCmp, go_sem]
theorem x_eql {k : IntKind} {a b : Int} {t t2 : TypeId} (hx : ev ρ x = .int k a) (hy : ev ρ y = .int k b) : (execOp (ev ρ) ⟨d, .binOp .eql t x y t2, ty, pos, af, g⟩).run P w = .ok (.value (.bool (decide (a = b)))) w := by
  simp [execOp, hx, hy, eqGuard, binOp, Op.intCmp, go_sem]; rfl
theorem x_neq {k : IntKind} {a b : Int} {t t2 : TypeId} (hx : ev ρ x = .int k a) (hy : ev ρ y = .int k b) : (execOp (ev ρ) ⟨d, .binOp .neq t x y t2, ty, pos, af, g⟩).run P w = .ok (.value (.bool (decide (a ≠ b)))) w := by
  simp [execOp, hx, hy, eqGuard, binOp, Op.intCmp, go_sem]; rfl
theorem x_not {b : Bool} {t : TypeId} (hx : ev ρ x = .bool b) : (execOp (ev ρ) ⟨d, .unOp .not t x, ty, pos, af, g⟩).run P w = .ok (.value (.bool (!b))) w := by
  simp [execOp, hx, Op.unary, go_sem]
theorem x_conv {k k' : IntKind} {a : Int} {s t : TypeId} {D : TypeDesc} (hs : P.underlying s = some D) (ht : P.underlying t = some (.int k')) (hx : ev ρ x = .int k a) (hr : inK k' a) : (execOp (ev ρ) ⟨d, .convert s t x, ty, pos, af, g⟩).run P w = .ok (.value (.int k' a)) w := by
  simp [execOp, hx, convert, run_underlying hs, run_underlying ht, Conv.intToInt, wrap_in hr, go_sem]
theorem zcv {vs : List Value} {v : Value} {j : Nat} (hx : ev ρ x = .tuple vs.toArray) (hj : vs[j]? = some v) : (execOp (ev ρ) ⟨d, .extract x j, ty, pos, af, g⟩).run P w = .ok (.value v) w := by
  simp [execOp, hx, Instr.extract, hj, go_sem]
theorem zar {A : Option Addr} {n c : Nat} {t : TypeId} {E : TypeId} (ht : P.underlying t = some (.slice E)) (hx : ev ρ x = .slice A n c) : (execOp (ev ρ) ⟨d, .call ⟨.builtin .len, #[x], #[t]⟩, ty, pos, af, g⟩).run P w = .ok (.value (.int .i64 n)) w := by
  simp [execOp, resolve, invoke, builtin, Builtin.len_, run_underlying ht, hx, goInt, go_sem]
theorem zcg {s : ByteArray} {t : TypeId} (ht : P.underlying t = some .string) (hx : ev ρ x = .string s) : (execOp (ev ρ) ⟨d, .call ⟨.builtin .len, #[x], #[t]⟩, ty, pos, af, g⟩).run P w = .ok (.value (.int .i64 s.size)) w := by
  simp [execOp, resolve, invoke, builtin, Builtin.len_, run_underlying ht, hx, goInt, go_sem]
theorem x_makeFunc {fn : Fn} {fs cs : Array Operand} {fv cv : Array Value} (hf : fs.map (ev ρ) = fv) (hc : cs.map (ev ρ) = cv) : (execOp (ev ρ) ⟨d, .makeFunc fn fs cs, ty, pos, af, g⟩).run P w = .ok (.value (.func fn fv cv)) w := by
  subst hf; subst hc; simp [execOp, Instr.makeFunc, go_sem]
def zbi (P : Program) (f : FuncId) : Prop := ∃ fn : Func, P.funcs[f]? = some fn ∧ fn.body.isNone = false ∧ (fn.name == "runtime.NumGoroutine") = false
theorem x_call {fo : Operand} {f : FuncId} {al : Array Operand} {ts : Array TypeId} {cap args : Array Value} (hf : zbi P f)
    (ho : ev ρ fo = .func (.func f) #[] cap) (ha : al.map (ev ρ) ++ cap = args) : (execOp (ev ρ) ⟨d, .call ⟨.value fo, al, ts⟩, ty, pos, af, g⟩).run P w = .ok (.enter f args) w := by
  subst ha
  obtain ⟨fn, hf, hb, hn⟩ := hf
  have h1 : ¬ fn.name = "runtime.NumGoroutine" := by simpa using hn
  have h2 : ¬ fn.body = none := by intro e; rw [e] at hb; cases hb
  simp [execOp, resolve, ho, Deferred.ofValue, invoke, callFunc, program, Sem.run, hf, h1, h2, go_sem]
end
end Gx
namespace Gx
open Go Go.RowKit
set_option linter.unusedSimpArgs false
section
variable {P : Program} {f n : Nat} {k : List Item} {ρ : Env} {w : World} {R : Ending → World → Prop} {ops : Array Oper} {rest : List Nat} {i : Nat}
variable {d : Tmp} {ty : TypeId} {pos : String} {af : Array Edge} {x y : Operand} {op : Op}
theorem zac {id : Nat} {l : List Nat} (hl : List.range ops.size = l) (h : Run P f n (.inRegion ops l :: k) ρ w R) : Run P f n (.code (.region id ops false) :: k) ρ w R := run_region (by rw [hl]; exact h)
variable {base : Nat} {w0 : World} {h : Ghost} {L : List Asrt}
theorem box_new (w : World) (T : TypeId) (cs : List Value) (h : Ghost) : (box w.heap.size T cs).holds h (w.alloc (.cells cs.toArray T)) (fun b => b = w.heap.size) := by
  refine ⟨?_, rfl⟩
  show (w.heap.push (.cells cs.toArray T))[w.heap.size]? = _
  simp
theorem St.alloc (S : St base w0 h w L) (T : TypeId) (cs : List Value) : St base w0 h (w.alloc (.cells cs.toArray T)) (L ++ [box w.heap.size T cs]) := by
  have T1 : St w.heap.size w (fun _ => none) (w.alloc (.cells cs.toArray T)) [box w.heap.size T cs] := by
    refine ⟨(Chg.alloc w _).below, by simp, fun _ _ e => (by cases e), fun _ _ e => (by cases e), fun _ b => b = w.heap.size, fun j A hj => ?_, fun i j hi hj hij => ?_⟩
    · have : j = 0 := by
        have := (List.getElem?_eq_some_iff.1 hj).1
        simpa using this
      subst this
      simp only [List.getElem?_cons_zero, Option.some.injEq] at hj
      subst hj
      exact ⟨box_new w T cs _, fun b hb => ⟨by omega, by subst hb; simp, rfl⟩⟩
    · simp at hi hj; omega
  have := S.call T1
  have e : gor h (fun _ => none) = h := by funext b; unfold gor; cases h b <;> rfl
  rwa [e] at this
theorem zcn {T : TypeId} {n b : Nat} {g : Bool} {z : Value} (ht : zbk P T = some (n, b, g, some z)) : (zeroValue T).run P w = .ok z w := by
  obtain ⟨i, dd, hi, _, _, _, _, hz⟩ := zbl ht
  simp [zeroValue, typeInfo, hi, hz, go_sem]
theorem St.box_at {j b : Nat} {T : TypeId} {cs : List Value} (S : St base w0 h w L) (hj : L[j]? = some (box b T cs)) : w.heap[b]? = some (.cells cs.toArray T (0, 0)) := by
  obtain ⟨Fs, hF, _⟩ := S.sep
  exact ((hF j _ hj).1).1
theorem x_fieldAddr {dd : Option Tmp} {g : Option (Nat × Bool)} {b off q o : Nat} {T : TypeId} {fs : Array Field} {fd : Field} {m b' : Nat} {gg : Bool} {z : Option Value} (ht : P.underlying T = some (.struct fs)) (hf : fs[q]? = some fd) (ho : fd.offset = o) (hs : zbk P fd.type = some (m, b', gg, z)) (hm : 0 < m)
    (hx : ev ρ x = .pointer (some ⟨b, off, none⟩)) : (execOp (ev ρ) ⟨dd, .fieldAddr T x q, ty, pos, af, g⟩).run P w = .ok (.value (.pointer (some ⟨b, off + o, none⟩))) w := by
  obtain ⟨ii, d2, hi, hd2, hsz, _, _, _⟩ := zbl hs
  have hadd : (⟨b, off, none⟩ : Addr).add o = ⟨b, off + o, none⟩ := by unfold Addr.add; split <;> simp_all
  subst ho
  simp [execOp, hx, Instr.fieldAt, Instr.sureAddr, run_underlying ht, hf, fieldPlace, zc3 hi, hsz, (show ¬ m = 0 by omega), hadd, go_sem]
theorem za5 {dd : Option Tmp} {g : Option (Nat × Bool)} {b off len : Nat} {q : Int} {T E : TypeId} {kk : IntKind} {m b' : Nat} {gg : Bool} {z : Option Value} (ht : P.underlying T = some (.array len E)) (hs : zbk P E = some (m, b', gg, z))
    (hx : ev ρ x = .pointer (some ⟨b, off, none⟩)) (hy : ev ρ y = .int kk q) (h0 : 0 ≤ q) (h1 : q < len) : (execOp (ev ρ) ⟨dd, .indexAddr T x y, ty, pos, af, g⟩).run P w = .ok (.value (.pointer (some ⟨b, off + q.toNat * m, none⟩))) w := by
  obtain ⟨ii, d2, hi, hd2, hsz, _, _, _⟩ := zbl hs
  have hadd : (⟨b, off, none⟩ : Addr).add (q.toNat * m) = ⟨b, off + q.toNat * m, none⟩ := by unfold Addr.add; split <;> simp_all
  simp [execOp, hx, hy, Instr.indexAt, asIntOf, Instr.sureAddr, run_underlying ht, zc3 hi, hsz, h0, h1, hadd, go_sem]
end
end Gx
namespace Gx
open Go Go.RowKit
set_option linter.unusedSimpArgs false
set_option linter.unusedSectionVars false
set_option linter.unusedVariables false
def resOne (tmps : Array Value) : ResultVar → Sem Value
  | .tmp t => pure (tmps.getD t undef)
  | .cell a t => do loadVar t (← asAddr (tmps.getD a undef))
def ResOk (P : Program) (n : Nat) (ρ : Env) (w : World) (r : ResultVar) (v : Value) : Prop := ∀ tmps, Fits n ρ tmps → (resOne tmps r).run P w = .ok v w
section
variable {P : Program} {f n : Nat} {k : List Item} {ρ : Env} {w : World} {R : Ending → World → Prop} {base : Nat} {w0 : World} {h : Ghost} {L : List Asrt}
theorem zax {t : Nat} {v : Value} (hv : ρ t = v) : ResOk P n ρ w (.tmp t) v := fun tmps ht => by
  simp [resOne, ht.2 t, hv, go_sem]
theorem res_cell {t j b : Nat} {T E : TypeId} {cs : List Value} {v : Value} {m b' : Nat} {g : Bool} {z : Option Value} (S : St base w0 h w L) (ht : zbk P T = some (m, b', g, z)) (hx : ρ t = .pointer (some ⟨b, 0, none⟩)) (hj : L[j]? = some (box b E cs)) (hm : cs.length = m) (h1 : g = false → m = 1) (hv : packV g cs = v) :
    ResOk P n ρ w (.cell t T) v := fun tmps hf => by
  have hb := S.box_at hj
  have hr := run_loadVar (P := P) (w := w) (a := ⟨b, 0, none⟩) ht hm h1 (fun q u hq => by
    have hadd : (⟨b, 0, none⟩ : Addr).add q = ⟨b, 0 + q, none⟩ := by unfold Addr.add; split <;> simp_all
    rw [hadd, cell_box hb, Nat.zero_add]; exact hq)
  simp only [resOne, hf.2 t, hx, asAddr, Sem.run_bind]
  show ((Sem.pure (⟨b, 0, none⟩ : Addr)).run P w).andThen _ = _
  simp only [Sem.run, Result.andThen_ok, hr, hv]
theorem results_eq (fn : Func) (tmps : Array Value) : results fn tmps = (do let vs ← fn.results.mapM (resOne tmps); pure (if h : vs.size = 1 then vs[0] else .tuple vs)) := by
  have e : (fun r : ResultVar => match r with | .tmp t => (pure (tmps.getD t undef) : Sem Value) | .cell a t => do loadVar t (← asAddr (tmps.getD a undef))) = resOne tmps := by
    funext r
    cases r <;> rfl
  rw [← e]
  rfl
theorem res0 {fn : Func} (hr : fn.results = #[]) : ∀ tmps, Fits n ρ tmps → (results fn tmps).run P w = .ok (.tuple #[]) w := fun tmps ht => by
  rw [results_eq, hr]; simp [go_sem]
theorem res1 {fn : Func} {r : ResultVar} {v : Value} (hr : fn.results = #[r]) (h1 : ResOk P n ρ w r v) : ∀ tmps, Fits n ρ tmps → (results fn tmps).run P w = .ok v w := fun tmps ht => by
  rw [results_eq, hr]; simp [h1 tmps ht, go_sem]
theorem res2 {fn : Func} {r s : ResultVar} {v u : Value} (hr : fn.results = #[r, s]) (h1 : ResOk P n ρ w r v) (h2 : ResOk P n ρ w s u) : ∀ tmps, Fits n ρ tmps → (results fn tmps).run P w = .ok (.tuple #[v, u]) w := fun tmps ht => by
  rw [results_eq, hr]; simp [h1 tmps ht, h2 tmps ht, go_sem]
end
def at_ {α : Type} [Inhabited α] (xs : List α) (i : Int) : α := xs.getD i.toNat default
theorem zdd {α : Type} [Inhabited α] {xs : List α} {i : Int} (h0 : 0 ≤ i) (h1 : i < (xs.length : Int)) : xs[i.toNat]? = some (at_ xs i) := by
  unfold at_
  rw [List.getD_eq_getElem?_getD, List.getElem?_eq_getElem (by omega)]
  rfl
def Seg {α : Type} (k : Kd α) (h : Ghost) (x : α) (ad : Addr) : Prop := ∃ seg, k.rep h x seg ∧ ∀ j u, seg[j]? = some u → gcell h (ad.add j) = some u
theorem zbe.seg {α : Type} [Inhabited α] {k : Kd α} {h : Ghost} {A : Option Addr} {xs : List α} (hl : zbe k h A xs) {i : Int} (h0 : 0 ≤ i) (h1 : i < (xs.length : Int)) : ∃ ad, A = some ad ∧ Seg k h (at_ xs i) (ad.add (i.toNat * k.sz)) := by
  obtain ⟨ad, e, hx⟩ := hl (by intro e; subst e; simp at h1; omega)
  obtain ⟨seg, h2, h3⟩ := hx _ _ (zdd h0 h1)
  exact ⟨ad, e, seg, h2, fun j u hj => by rw [add_add]; exact h3 j u hj⟩
def AtOwn (v : Value) (sz : Nat) (i : Int) (ad : Addr) : Prop := ∃ g, v.ownBlock = some g ∧ ad = ⟨g, i.toNat * sz, none⟩
section
variable {P : Program} {f n : Nat} {k : List Item} {ρ : Env} {w : World} {R : Ending → World → Prop} {ops : Array Oper} {rest : List Nat} {i : Nat}
variable {d : Tmp} {ty : TypeId} {pos : String} {af : Array Edge} {x y : Operand} {op : Op}
variable {base : Nat} {w0 : World} {h : Ghost} {L : List Asrt}
variable {α : Type} [Inhabited α] {kd : Kd α} {xs : List α}
theorem x_indexAddr_slice {A : Addr} {len cap : Nat} {q : Int} {T E : TypeId} {kk : IntKind} {dd : Option Tmp} {g : Option (Nat × Bool)} {m b' : Nat} {gg : Bool} {z : Option Value} (ht : P.underlying T = some (.slice E)) (hs : zbk P E = some (m, b', gg, z))
    (hx : ev ρ x = .slice (some A) len cap) (hy : ev ρ y = .int kk q) (h0 : 0 ≤ q) (h1 : q < len) : (execOp (ev ρ) ⟨dd, .indexAddr T x y, ty, pos, af, g⟩).run P w = .ok (.value (.pointer (some (A.add (q.toNat * m))))) w := by
  obtain ⟨ii, d2, hi, hd2, hsz, _, _, _⟩ := zbl hs
  simp [execOp, hx, hy, Instr.indexAt, asIntOf, run_underlying ht, zc3 hi, hsz, h0, h1, go_sem]
theorem St.row_at {j : Nat} {T : TypeId} {v : Value} (S : St base w0 h w L) (hj : L[j]? = some (row T kd v xs)) : ∃ cs, w.ownsRow 0 T kd.sz v xs.length cs ∧ zbu kd h xs cs := by
  obtain ⟨Fs, hF, _⟩ := S.sep
  obtain ⟨⟨cs, h1, h2, _⟩, _⟩ := hF j _ hj
  exact ⟨cs, h1, h2⟩
theorem St.row_val {j : Nat} {T : TypeId} {v : Value} (S : St base w0 h w L) (hj : L[j]? = some (row T kd v xs)) : ∃ A c, v = .slice A xs.length c ∧ xs.length ≤ c ∧ c ≤ maxLen := by
  obtain ⟨cs, h1, _⟩ := S.row_at hj
  rcases h1.2 with ⟨hv, h0⟩ | ⟨g, cap, cur, hv, _, _, hl, hc, _⟩
  · exact ⟨none, 0, by rw [hv, h0], by omega, by simp⟩
  · exact ⟨_, cap, hv, hl, hc⟩
theorem St.row_le {j : Nat} {T : TypeId} {v : Value} (S : St base w0 h w L) (hj : L[j]? = some (row T kd v xs)) : xs.length ≤ maxLen := by
  obtain ⟨A, c, _, h1, h2⟩ := S.row_val hj
  omega
theorem St.row_leads {j : Nat} {T : TypeId} {A : Option Addr} {m c : Nat} (S : St base w0 h w L) (hj : L[j]? = some (row T kd (.slice A m c) xs)) : zbe kd (hp w) A xs := by
  obtain ⟨cs, h1, h2⟩ := S.row_at hj
  have hm : xs.length = m := by
    rcases h1.2 with ⟨hv, h0⟩ | ⟨g, cap, cur, hv, _⟩
    · injection hv with _ hm _; omega
    · injection hv with _ hm _; exact hm.symm
  subst hm
  exact h2.leads S.ghost h1 (fun g _ => rfl) rfl
end
end Gx
namespace Gx
open Go Go.RowKit
set_option linter.unusedSimpArgs false
set_option linter.unusedSectionVars false
set_option linter.unusedVariables false
theorem drop_take_set {α : Type} {k : Kd α} {h : Ghost} {xs : List α} {cs seg : List Value} {i : Nat} {x : α} (he : zbu k h xs cs) (hi : i < xs.length) (hx : k.rep h x seg) : zbu k h (xs.set i x) (lput cs (i * k.sz) seg) := by
  have hl := k.len hx
  have hfit : i * k.sz + k.sz ≤ cs.length := by rw [he.1, ← Nat.succ_mul]; exact Nat.mul_le_mul_right _ hi
  refine ⟨by rw [lput_length, he.1, List.length_set], fun j y hj => ?_⟩
  have hjl : j < xs.length := by have := (List.getElem?_eq_some_iff.1 hj).1; simpa using this
  by_cases hji : j = i
  · subst hji
    rw [List.getElem?_set_self hjl] at hj
    injection hj with hj
    subst hj
    have : ((lput cs (j * k.sz) seg).drop (j * k.sz)).take k.sz = seg := by
      apply List.ext_getElem?
      intro q
      rw [List.getElem?_take]
      split
      · rw [List.getElem?_drop, lput_get seg cs _ _ (by omega), if_pos (by omega)]
        congr 1; omega
      · rw [List.getElem?_eq_none (by omega)]
    rw [this]; exact hx
  · rw [List.getElem?_set_ne (fun e => hji e.symm)] at hj
    have : ((lput cs (i * k.sz) seg).drop (j * k.sz)).take k.sz = (cs.drop (j * k.sz)).take k.sz := by
      apply List.ext_getElem?
      intro q
      rw [List.getElem?_take, List.getElem?_take]
      split
      · rw [List.getElem?_drop, List.getElem?_drop, lput_get seg cs _ _ (by omega), if_neg]
        rintro ⟨h1, h2⟩
        rcases Nat.lt_or_gt_of_ne hji with hlt | hgt
        · have : (j + 1) * k.sz ≤ i * k.sz := Nat.mul_le_mul_right _ hlt
          rw [Nat.succ_mul] at this; omega
        · have : (i + 1) * k.sz ≤ j * k.sz := Nat.mul_le_mul_right _ hgt
          rw [Nat.succ_mul] at this; omega
      · rfl
    rw [this]; exact he.2 j y hj
theorem zbu.app {α : Type} {k : Kd α} {h : Ghost} {xs ys : List α} {cs ds : List Value} (hx : zbu k h xs cs) (hy : zbu k h ys ds) : zbu k h (xs ++ ys) (cs ++ ds) := by
  refine ⟨by rw [List.length_append, List.length_append, hx.1, hy.1, Nat.add_mul], fun i z hi => ?_⟩
  by_cases hlt : i < xs.length
  · rw [List.getElem?_append_left hlt] at hi
    have hfit : i * k.sz + k.sz ≤ cs.length := by rw [hx.1, ← Nat.succ_mul]; exact Nat.mul_le_mul_right _ hlt
    rw [List.drop_append_of_le_length (by omega), List.take_append_of_le_length (by rw [List.length_drop]; omega)]
    exact hx.2 i z hi
  · rw [List.getElem?_append_right (by omega)] at hi
    have e : i * k.sz = cs.length + (i - xs.length) * k.sz := by rw [hx.1, ← Nat.add_mul]; congr 1; omega
    rw [e, List.drop_append]
    simp only [List.drop_eq_nil_of_le (show cs.length ≤ cs.length + (i - xs.length) * k.sz by omega), List.nil_append]
    rw [show cs.length + (i - xs.length) * k.sz - cs.length = (i - xs.length) * k.sz by omega]
    exact hy.2 _ z hi
theorem zbu.nil {α : Type} (k : Kd α) (h : Ghost) : zbu k h [] [] := ⟨by simp, fun i x hi => by simp at hi⟩
theorem zbu.one {α : Type} {k : Kd α} {h : Ghost} {xs : List α} {cs : List Value} (he : zbu k h xs cs) : ∀ u ∈ cs, u.oneCell' = true := by
  intro u hu
  obtain ⟨q, hq, rfl⟩ := List.mem_iff_getElem.1 hu
  have hp := k.pos
  have hql : q / k.sz < xs.length := by rw [Nat.div_lt_iff_lt_mul hp, ← he.1]; exact hq
  refine k.one (he.2 (q / k.sz) _ (List.getElem?_eq_getElem hql)) _ ?_
  rw [List.mem_iff_getElem?]
  refine ⟨q % k.sz, ?_⟩
  rw [List.getElem?_take, if_pos (Nat.mod_lt _ hp), List.getElem?_drop, Nat.mul_comm, Nat.div_add_mod, List.getElem?_eq_getElem hq]
theorem zbu.single {α : Type} {k : Kd α} {h : Ghost} {x : α} {cs : List Value} (hx : k.rep h x cs) : zbu k h [x] cs := by
  refine ⟨by rw [k.len hx]; simp, fun i y hi => ?_⟩
  cases i with
  | zero =>
    simp only [List.getElem?_cons_zero, Option.some.injEq] at hi
    subst hi
    rw [Nat.zero_mul, List.drop_zero, List.take_of_length_le (by rw [k.len hx]; exact Nat.le_refl _)]; exact hx
  | succ i => simp at hi
theorem zbu.cons {α : Type} {k : Kd α} {h : Ghost} {x : α} {xs : List α} {cs ds : List Value} (hx : k.rep h x cs) (hy : zbu k h xs ds) : zbu k h (x :: xs) (cs ++ ds) := (zbu.single hx).app hy
theorem zbu.take_ {α : Type} {k : Kd α} {h : Ghost} {xs : List α} {cs : List Value} (he : zbu k h xs cs) (m : Nat) : zbu k h (xs.take m) (cs.take (m * k.sz)) := by
  refine ⟨?_, fun i x hi => ?_⟩
  · rw [List.length_take, List.length_take, he.1]
    rcases Nat.le_total m xs.length with hle | hle
    · rw [Nat.min_eq_left hle, Nat.min_eq_left (Nat.mul_le_mul_right _ hle)]
    · rw [Nat.min_eq_right hle, Nat.min_eq_right (Nat.mul_le_mul_right _ hle)]
  · rw [List.getElem?_take] at hi
    split at hi
    · rename_i him
      have : (i + 1) * k.sz ≤ m * k.sz := Nat.mul_le_mul_right _ him
      rw [Nat.succ_mul] at this
      rw [List.drop_take, List.take_take, Nat.min_eq_left (by omega)]
      exact he.2 i x hi
    · cases hi
section
variable {P : Program} {f n : Nat} {k : List Item} {ρ : Env} {w : World} {R : Ending → World → Prop} {ops : Array Oper} {rest : List Nat} {i : Nat}
variable {d : Tmp} {ty : TypeId} {pos : String} {af : Array Edge} {x y : Operand} {op : Op}
variable {base : Nat} {w0 : World} {h : Ghost} {L : List Asrt}
variable {α : Type} [Inhabited α] {kd : Kd α} {xs : List α}
theorem St.row_add {w' : World} {T : TypeId} {v : Value} {cs : List Value} (S : St base w0 h w L) (hc : Chg w w' (fun _ => False)) (hown : w'.ownsRow w.heap.size T kd.sz v xs.length cs) (hel : zbu kd h xs cs) : St base w0 h w' (L ++ [row T kd v xs]) := by
  have S' := S.keep hc
  obtain ⟨Fs, hF, hD⟩ := S.sep
  have hsame : ∀ b, b < w.heap.size → w'.heap[b]? = w.heap[b]? := fun b hb => hc.block b hb (fun x => x)
  have hfresh : ∀ b, w.heap.size ≤ b → h b = none := fun b hb => by
    cases e : h b with
    | none => rfl
    | some o => have := hp_lt (S.ghost b o e); omega
  have hlt := hown.lt
  refine ⟨S'.below, S'.bsz, S'.ghost, S'.dom, fun q => if q < L.length then Fs q else fun b => v.ownBlock = some b, fun q A hq => ?_, fun p q hp hq hpq b h1 h2 => ?_⟩
  · by_cases hql : q < L.length
    · rw [List.getElem?_append_left hql] at hq
      obtain ⟨hA, hU⟩ := hF q A hq
      simp only [if_pos hql]
      exact ⟨A.far (fun b hb => hsame b (hU b hb).2.1) hA, fun b hb => ⟨(hU b hb).1, Nat.lt_of_lt_of_le (hU b hb).2.1 hc.size, (hU b hb).2.2⟩⟩
    · rw [List.getElem?_append_right (by omega)] at hq
      have h0 : q - L.length = 0 := by
        have := (List.getElem?_eq_some_iff.1 hq).1
        simp at this; omega
      rw [h0] at hq
      simp only [List.getElem?_cons_zero, Option.some.injEq] at hq
      subst hq
      simp only [if_neg hql]
      refine ⟨⟨cs, ⟨hown.1, ?_⟩, hel, fun g hg => hg⟩, fun b hb => ?_⟩
      · rcases hown.2 with h4 | ⟨g, cap, cur, hv, hb, hr⟩
        · exact .inl h4
        · exact .inr ⟨g, cap, cur, hv, Nat.zero_le _, hr⟩
      · have := hlt b hb
        exact ⟨Nat.le_trans S.bsz this.1, this.2, hfresh b this.1⟩
  · rw [List.length_append] at hp hq
    simp only [List.length_cons, List.length_nil] at hp hq
    by_cases hpl : p < L.length <;> by_cases hql : q < L.length
    · simp only [if_pos hpl] at h1; simp only [if_pos hql] at h2
      exact hD p q hpl hql hpq b h1 h2
    · simp only [if_pos hpl] at h1; simp only [if_neg hql] at h2
      have a1 := ((hF p _ (List.getElem?_eq_getElem hpl)).2 b h1).2.1
      have a2 := (hlt b h2).1; omega
    · simp only [if_neg hpl] at h1; simp only [if_pos hql] at h2
      have a1 := ((hF q _ (List.getElem?_eq_getElem hql)).2 b h2).2.1
      have a2 := (hlt b h1).1; omega
    · omega
end
end Gx
namespace Gx
open Go Go.RowKit
set_option linter.unusedSimpArgs false
set_option linter.unusedSectionVars false
set_option linter.unusedVariables false
section
variable {P : Program} {f n : Nat} {k : List Item} {ρ : Env} {w : World} {R : Ending → World → Prop} {ops : Array Oper} {rest : List Nat} {i : Nat}
variable {d : Tmp} {ty : TypeId} {pos : String} {af : Array Edge} {x y : Operand} {op : Op}
variable {base : Nat} {w0 : World} {h : Ghost} {L : List Asrt}
variable {α : Type} [Inhabited α] {kd : Kd α} {xs : List α}
theorem St.row_nil (S : St base w0 h w L) (T : TypeId) (kd : Kd α) : St base w0 h w (L ++ [row T kd (.slice none 0 0) []]) :=
  S.row_add (kd := kd) (xs := []) (cs := []) (Chg.refl w _) (World.ownsRow_nil w _ T kd.sz) (zbu.nil kd h)
theorem made_get {z : List Value} {sz m : Nat} (hz : z.length = sz) (h0 : 0 < sz) (i : Nat) (hi : i < m) : ((madeCells z.toArray (m * sz)).toList.drop (i * sz)).take sz = z := by
  have hfit : i * sz + sz ≤ m * sz := by rw [← Nat.succ_mul]; exact Nat.mul_le_mul_right _ hi
  have hlen : (madeCells z.toArray (m * sz)).toList.length = m * sz := by rw [Array.length_toList, size_madeCells]
  apply List.ext_getElem?
  intro q
  rw [List.getElem?_take]
  split
  · rename_i hq
    rw [List.getElem?_drop, List.getElem?_eq_getElem (by omega), List.getElem?_eq_getElem (by omega)]
    congr 1
    simp only [madeCells, Array.getElem_toList, Array.getElem_map, Array.getElem_range, List.size_toArray, hz]
    have : (i * sz + q) % sz = q := by rw [Nat.add_comm, Nat.add_mul_mod_self_right, Nat.mod_eq_of_lt hq]
    rw [this]
    simp [hz, hq]
  · rw [List.getElem?_eq_none (by omega)]
theorem made_elems {z : α} {zc : List Value} {m : Nat} (hr : kd.rep h z zc) : zbu kd h (List.replicate m z) (madeCells zc.toArray (m * kd.sz)).toList := by
  refine ⟨by rw [Array.length_toList, size_madeCells, List.length_replicate], fun i x hi => ?_⟩
  rw [List.getElem?_replicate] at hi
  split at hi
  · injection hi with hi
    subst hi
    rw [made_get (kd.len hr) kd.pos i (by assumption)]
    exact hr
  · cases hi
theorem run_build_slice {T E : TypeId} {m b' len : Nat} {gg : Bool} {zv : Value} {pv : List (Nat × Value)} {cs : List Value} {zc : Array Value} (hT : P.underlying T = some (.slice E))
    (ht : zbk P E = some (m, b', gg, some zv)) (hsm : len * m ≤ 100000) (hz : (if len * m = 0 then #[] else zv.cells) = zc) (hf : Instr.fill (fun i => some (i * m, m)) ((Array.range (len * m)).map (zc[· % zc.size]!)) pv = some cs.toArray) :
    (Instr.buildSlice T len pv.toArray).run P w = .ok (.slice (some ⟨w.heap.size, 0, none⟩) len len) (w.alloc (.cells cs.toArray E)) := by
  obtain ⟨ii, dd, hi, _, hs, hby, _, hzz⟩ := zbl ht
  have hns : ¬ (len * m > 2 ^ 24) := by omega
  have e : Instr.buildSlice T len pv.toArray = (do
    let .slice elem ← underlying T | stuck "buildSlice: slice type expected"
    let size ← Go.sizeOf elem
    if len * size > 2 ^ 24 then unsupported (.resourceLimit "buildSlice: more than 2^24 cells")
    let zero ← if len * size = 0 then pure #[] else do pure (← zeroValue elem).cells
    let some cells := Instr.fill (fun i => some (i * size, size)) ((Array.range (len * size)).map (zero[· % zero.size]!)) pv
      | stuck "buildSlice: a part of the wrong size"
    pure (.slice (some (← newRow elem cells)) len len)) := rfl
  rw [e]
  simp only [Sem.run_bind, run_underlying hT, Result.andThen_ok, zc3 hi, hs, if_neg hns]
  by_cases h0 : len * m = 0
  · rw [if_pos h0] at hz ⊢
    subst hz
    simp only [Sem.run_bind, Sem.run_pure, Result.andThen_ok, hf]
    rfl
  · rw [if_neg h0] at hz ⊢
    subst hz
    simp only [Sem.run_bind, Sem.run_pure, Result.andThen_ok, zcn ht, hf]
    rfl
theorem grown_chg {w w' : World} {v : Value} (hg : w.grownBy w' v.ownBlock) : Chg w w' (fun b => v.ownBlock = some b) := Chg.grown hg
theorem run_append_nothing {B : Nat} {t ty E : TypeId} {ii : TypeInfo} {sz n : Nat} {v : Value} {cs : List Value} (ht : P.underlying t = some (.slice E)) (hi : P.info? E = some ii) (hown : w.ownsRow B E sz v n cs) (c : Nat) : (Builtin.append_ #[t, t] ty #[v, .slice none 0 c]).run P w = .ok v w := by
  rcases hown.2 with ⟨rfl, rfl⟩ | ⟨g, cap, cur, rfl, _, _, hnc, _⟩
  · simp [Builtin.append_, run_underlying ht, Go.sizeOf, typeInfo, hi, Builtin.lenOf, Builtin.firstCells, go_sem]
  · simp [Builtin.append_, run_underlying ht, Go.sizeOf, typeInfo, hi, Builtin.lenOf, Builtin.firstCells, hnc, storeCells, go_sem]
theorem zbe.cells {A : Addr} {ys : List α} (hl : zbe kd (hp w) (some A) ys) : ∃ news, zbu kd (hp w) ys news ∧ ∀ j u, news[j]? = some u → w.cell? (A.add j) = some u := by
  rcases ys with _ | ⟨y0, ys'⟩
  · exact ⟨[], zbu.nil _ _, fun j u hj => by simp at hj⟩
  generalize hys : y0 :: ys' = ys at hl
  obtain ⟨ad, hA, hx⟩ := hl (by rw [← hys]; simp)
  injection hA with hA
  subst hA
  let news := (List.range (ys.length * kd.sz)).map fun j => (w.cell? (A.add j)).getD undef
  have hlen : news.length = ys.length * kd.sz := by simp [news]
  have hget : ∀ i e, ys[i]? = some e → ∃ seg, kd.rep (hp w) e seg ∧ ∀ q, q < kd.sz → w.cell? (A.add (i * kd.sz + q)) = seg[q]? := fun i e he => by
    obtain ⟨seg, h1, h2⟩ := hx i e he
    refine ⟨seg, h1, fun q hq => ?_⟩
    have hql : q < seg.length := by rw [kd.len h1]; exact hq
    rw [List.getElem?_eq_getElem hql]
    exact gcell_world (Le.refl _) (h2 q _ (List.getElem?_eq_getElem hql))
  have hcell : ∀ j u, news[j]? = some u → w.cell? (A.add j) = some u := fun j u hj => by
    have hjl : j < ys.length * kd.sz := by rw [← hlen]; exact (List.getElem?_eq_some_iff.1 hj).1
    have hi : j / kd.sz < ys.length := by rw [Nat.div_lt_iff_lt_mul kd.pos]; exact hjl
    obtain ⟨seg, h1, h2⟩ := hget (j / kd.sz) _ (List.getElem?_eq_getElem hi)
    have h3 := h2 (j % kd.sz) (Nat.mod_lt _ kd.pos)
    rw [Nat.mul_comm, Nat.div_add_mod] at h3
    have hql : j % kd.sz < seg.length := by rw [kd.len h1]; exact Nat.mod_lt _ kd.pos
    rw [List.getElem?_eq_getElem hql] at h3
    simp only [news, List.getElem?_map, List.getElem?_range hjl, Option.map_some, h3, Option.getD_some, Option.some.injEq] at hj
    rw [h3, hj]
  refine ⟨news, ⟨hlen, fun i e he => ?_⟩, hcell⟩
  obtain ⟨seg, h1, h2⟩ := hget i e he
  have hi : i < ys.length := (List.getElem?_eq_some_iff.1 he).1
  have hfit : i * kd.sz + kd.sz ≤ ys.length * kd.sz := by rw [← Nat.succ_mul]; exact Nat.mul_le_mul_right _ hi
  have : (news.drop (i * kd.sz)).take kd.sz = seg := by
    apply List.ext_getElem?
    intro q
    rw [List.getElem?_take]
    split
    · rename_i hq
      rw [List.getElem?_drop, List.getElem?_eq_getElem (by omega)]
      have := hcell _ _ (List.getElem?_eq_getElem (show i * kd.sz + q < news.length by omega))
      rw [← h2 q hq, this]
    · rw [List.getElem?_eq_none (by rw [kd.len h1]; omega)]
  rw [this]; exact h1
end
end Gx
namespace Gx
open Go Go.RowKit
set_option linter.unusedSimpArgs false
set_option linter.unusedSectionVars false
set_option linter.unusedVariables false
section
variable {P : Program} {f n : Nat} {k : List Item} {ρ : Env} {w : World} {R : Ending → World → Prop} {ops : Array Oper} {rest : List Nat} {i : Nat}
variable {d : Tmp} {ty : TypeId} {pos : String} {af : Array Edge} {x y : Operand} {op : Op}
variable {base : Nat} {w0 : World} {h : Ghost} {L : List Asrt}
variable {α : Type} [Inhabited α] {kd : Kd α} {xs : List α}
theorem x_index_string {T : TypeId} {s : ByteArray} {q : Int} {kk : IntKind} {dd : Option Tmp} {g : Option (Nat × Bool)} (hT : P.underlying T = some .string) (hx : ev ρ x = .string s) (hy : ev ρ y = .int kk q) (h0 : 0 ≤ q) (h1 : q < (s.size : Int)) :
    (execOp (ev ρ) ⟨dd, .index T x y, ty, pos, af, g⟩).run P w = .ok (.value (.int .u8 ((s.data.toList.getD q.toNat 0).toNat : Nat))) w := by
  have hlt : q.toNat < s.size := by omega
  have hg : s[q.toNat]? = some (s.data.toList.getD q.toNat 0) := by
    rw [getElem?_pos s q.toNat hlt]
    congr 1
    have h2 : q.toNat < s.data.toList.length := by simpa using hlt
    rw [List.getD_eq_getElem?_getD, List.getElem?_eq_getElem h2]
    rfl
  simp only [execOp, hx, hy, Instr.index, asIntOf, Sem.run_bind, Sem.run_pure, Result.andThen_ok, run_underlying hT, if_pos h0, hg]
theorem x_index_arr {T E : TypeId} {len : Nat} {cs : List Value} {q : Int} {kk : IntKind} {dd : Option Tmp} {g : Option (Nat × Bool)} {b' : Nat} {z : Option Value} {v : Value} (hT : P.underlying T = some (.array len E)) (ht : zbk P E = some (1, b', false, z)) (hx : ev ρ x = .agg cs.toArray) (hy : ev ρ y = .int kk q) (h0 : 0 ≤ q) (h1 : q < (len : Int)) (hv : cs[q.toNat]? = some v) :
    (execOp (ev ρ) ⟨dd, .index T x y, ty, pos, af, g⟩).run P w = .ok (.value v) w := by
  obtain ⟨ii, d2, hi, hd2, hsz, _, hg2, _⟩ := zbl ht
  simp [execOp, hx, hy, Instr.index, asIntOf, run_underlying hT, h0, h1, zc3 hi, hsz, part, run_isAgg hd2, hg2, hv, go_sem]
end
end Gx
namespace Gx
open Go Go.RowKit
set_option linter.unusedSimpArgs false
set_option linter.unusedSectionVars false
set_option linter.unusedVariables false
abbrev Gr (w w2 : World) : Prop := Chg w w2 (fun _ => False)
theorem Gr.refl (w : World) : Gr w w := ⟨rfl, rfl, rfl, Nat.le_refl _, fun _ _ _ => rfl⟩
theorem Gr.trans {w w2 w3 : World} (h : Gr w w2) (h2 : Gr w2 w3) : Gr w w3 :=
  ⟨h2.os.trans h.os, h2.tape.trans h.tape, h2.output.trans h.output, Nat.le_trans h.size h2.size, fun b hb _ => (h2.block b (Nat.lt_of_lt_of_le hb h.size) (fun x => x)).trans (h.block b hb (fun x => x))⟩
abbrev Sp := { p : World → Prop // ∀ w w2, Gr w w2 → p w → p w2 }
abbrev Held := List (Nat × Sp)
def waits (ops : Array Oper) (j i : Nat) : Bool := ((ops[j]?).map fun o => o.after.any fun e => Region.binds .any e && e.on == i).getD false
def Keep (ops : Array Oper) (j : Nat) (w : World) : Held → Prop
  | [] => True
  | p :: r => (waits ops j p.1 = false → p.2.1 w) ∧ Keep ops j w r
theorem Keep.mem {ops : Array Oper} {j : Nat} {w : World} : ∀ {H : Held}, Keep ops j w H → ∀ p ∈ H, waits ops j p.1 = false → p.2.1 w
  | p :: r, h, q, hq, hw => by
    rcases List.mem_cons.1 hq with e | e
    · subst e; exact h.1 hw
    · exact Keep.mem h.2 q e hw
def Of (H : Held) (i : Nat) (w : World) : Prop := ∀ p ∈ H, p.1 = i → p.2.1 w
theorem Of.gr {H : Held} {i : Nat} {w w2 : World} (h : Of H i w) (g : Gr w w2) : Of H i w2 := fun p hp hi => p.2.2 w w2 g (h p hp hi)
section
variable {P : Program} {ops : Array Oper} {Q : Exit → Act → World → Prop} {H : Held} {S : World → Prop}
def GivesIf (P : Program) (ops : Array Oper) (S : World → Prop) (o : Oper) (v : Value) (a : Act) : Prop :=
  (Region.wanted o (yielded ops a.tmps) = true ∧ ∀ w, S w → ((execOp a.eval o).run P w = .ok (.value v) w ∨ ∃ g args, (execOp a.eval o).run P w = .ok (.enter g args) w ∧ Calls P g args w fun e w2 => e = .returned v ∧ Gr w w2)) ∨
  (Region.wanted o (yielded ops a.tmps) = false ∧ v = undef)
theorem GivesIf.wpOp {i : Nat} {o : Oper} {v : Value} {a : Act} (hi : ops[i]? = some o) (hy : GivesIf P ops S o v a)
    {K : Act → World → Prop} {w : World} (hS : S w) (h : ∀ w2, Gr w w2 → K (a.put o.dst v) w2) : wpOp P ops Q i K a w := by
  unfold Go.wpOp
  simp only [hi]
  rcases hy with ⟨hw, hv⟩ | ⟨hw, rfl⟩
  · rcases hv w hS with hv | ⟨g, args, hv, hc⟩
    · simp only [hw, if_true, Oper.wp, hv, Oper.upon]; exact .inl (h w (Gr.refl w))
    · simp only [hw, if_true, Oper.wp, hv, Oper.upon]
      refine .inl (Calls.mono hc fun e w2 he => ?_)
      obtain ⟨rfl, hg⟩ := he
      exact h w2 hg
  · simp only [hw, Bool.false_eq_true, if_false]; exact h w (Gr.refl w)
theorem GivesIf.of_same {o : Oper} {v : Value} {a a' : Act} (hy : GivesIf P ops S o v a) (he : execOp a'.eval o = execOp a.eval o)
    (hw : Region.wanted o (yielded ops a'.tmps) = Region.wanted o (yielded ops a.tmps)) : GivesIf P ops S o v a' := by
  unfold GivesIf at *
  rw [he, hw]
  exact hy
theorem wpOp_putG {j : Nat} {oi oj : Oper} {v : Value} (hj : ops[j]? = some oj) (hap : oi.apart ops oj = true)
    (hsi : ∀ cs b, oi.op ≠ .select cs b) (hsj : ∀ cs b, oj.op ≠ .select cs b)
    (hQ : ∀ c a w, Q (.panic c) (a.put oi.dst v) w → Q (.panic c) a w) {K : Act → World → Prop} {a : Act} {w : World}
    (hy : GivesIf P ops S oi v a) (h : wpOp P ops Q j K (a.put oi.dst v) w) :
    wpOp P ops Q j (fun a' w' => GivesIf P ops S oi v a' ∧ K (a'.put oi.dst v) w') a w := by
  obtain ⟨h1, h2, h3⟩ := Oper.apart_spec hap
  have keep : ∀ (a : Act), GivesIf P ops S oi v a → ∀ u, GivesIf P ops S oi v (a.put oj.dst u) := fun a hy u =>
    hy.of_same (execOp_put oi hsi a oj.dst u h3) (wanted_put oi a oj.dst u h3)
  have keepD : ∀ d, GivesIf P ops S oi v { a with defers := d :: a.defers } := fun d => hy.of_same rfl rfl
  unfold wpOp at *
  simp only [hj] at *
  rw [wanted_put oj a oi.dst v h1] at h
  split
  · rename_i hw
    simp only [hw, if_true] at h
    rcases h with h | ⟨hasks, hlets⟩
    case inr => exact .inr ⟨by unfold Oper.asks at *; rw [execOp_put oj hsj a oi.dst v h1] at hasks; exact hasks, hlets⟩
    refine .inl ?_
    unfold Oper.wp at *
    rw [execOp_put oj hsj a oi.dst v h1] at h
    generalize (execOp a.eval oj).run P w = r at *
    cases r with
    | ok n w' =>
      cases n <;> simp only [Oper.upon] at h ⊢
      case value u => exact ⟨keep a hy u, by rw [← Act.put_comm a v u h2]; exact h⟩
      case skip => exact ⟨keep a hy _, by rw [← Act.put_comm a v undef h2]; exact h⟩
      case defer d =>
        refine ⟨keep _ (keepD d) _, ?_⟩
        rw [← Act.put_comm _ v undef h2, ← Act.put_defers]
        exact h
      case enter f args =>
        refine Calls.mono h fun e w'' he => ?_
        cases e with
        | returned u => exact ⟨keep a hy u, by rw [← Act.put_comm a v u h2]; exact he⟩
        | panicked c => exact hQ _ _ _ he
        | outgrown => exact he
      case row row args => exact Rows.mono h fun u w'' he => ⟨keep a hy u, by rw [← Act.put_comm a v u h2]; exact he⟩
    | halt x w' =>
      cases x <;> simp only [Oper.upon] at h ⊢
      case panic u => exact hQ _ _ _ h
  · rename_i hw
    simp only [hw] at h
    exact ⟨keep a hy _, by rw [← Act.put_comm a v undef h2]; exact h⟩
def AnyL (P : Program) (ops : Array Oper) (Q : Exit → Act → World → Prop) (H : Held) : Nat → Array Bool → Act → World → Prop
  | 0, listed, a, w => Region.ready .any ops listed = [] ∧ ∀ w2, Gr w w2 → Q .normal a w2
  | fuel + 1, listed, a, w => ∀ w2, Gr w w2 →
    (Region.ready .any ops listed = [] → Q .normal a w2) ∧
    ∀ i ∈ Region.ready .any ops listed, wpOp P ops Q i (fun a' w' => (Gr w2 w' ∨ Keep ops i w' H) ∧ AnyL P ops Q H fuel (listed.setIfInBounds i true) a' w') a w2
theorem AnyL.gr {w w2 : World} (g : Gr w w2) : ∀ {fuel : Nat} {listed : Array Bool} {a : Act}, AnyL P ops Q H fuel listed a w → AnyL P ops Q H fuel listed a w2
  | 0, _, _, h => ⟨h.1, fun w3 g3 => h.2 w3 (g.trans g3)⟩
  | _ + 1, _, _, h => fun w3 g3 => h w3 (g.trans g3)
theorem wpAny_of_AnyL : ∀ (fuel : Nat) (listed : Array Bool) (a : Act) (w : World), AnyL P ops Q H fuel listed a w → wpAny P .any ops Q fuel listed a w
  | 0, _, _, w, h => ⟨h.1, h.2 w (Gr.refl w)⟩
  | fuel + 1, _, _, w, h => ⟨(h w (Gr.refl w)).1, fun i hi => wpOp_mono (fun a' w' h' => wpAny_of_AnyL fuel _ a' w' h'.2) ((h w (Gr.refl w)).2 i hi)⟩
theorem anyL_first {i : Nat} {oi : Oper} {v : Value} (hi : ops[i]? = some oi) (hsel : ∀ (j : Nat) (o : Oper) cs b, ops[j]? = some o → o.op ≠ .select cs b)
    (hQ : ∀ c a w, Q (.panic c) (a.put oi.dst v) w → Q (.panic c) a w) :
    ∀ (fuel : Nat) (listed : Array Bool) (a : Act) (w : World),
      (∀ j oj, ops[j]? = some oj → j ≠ i → listed.getD j true = false → (∀ e ∈ oj.after, Region.binds .any e = true → e.on ≠ i) → oi.apart ops oj = true) →
      i ∈ Region.ready .any ops listed → GivesIf P ops (Of H i) oi v a → Of H i w →
      AnyL P ops Q H fuel (listed.setIfInBounds i true) (a.put oi.dst v) w → AnyL P ops Q H (fuel + 1) listed a w := by
  intro fuel
  induction fuel with
  | zero =>
    intro listed a w _ hr hy hS hA w2 g2
    refine ⟨fun h => (by rw [h] at hr; cases hr), fun j hj => ?_⟩
    by_cases hji : j = i
    · subst hji; exact hy.wpOp hi (hS.gr g2) fun w3 g3 => ⟨.inl g3, hA.gr (g2.trans g3)⟩
    · have := ready_mono hj hji
      rw [hA.1] at this
      cases this
  | succ fuel ih =>
    intro listed a w hfree hr hy hS hA w2 g2
    refine ⟨fun h => (by rw [h] at hr; cases hr), fun j hj => ?_⟩
    by_cases hji : j = i
    · subst hji; exact hy.wpOp hi (hS.gr g2) fun w3 g3 => ⟨.inl g3, hA.gr (g2.trans g3)⟩
    · have h1 := (hA w2 g2).2 j (ready_mono hj hji)
      obtain ⟨hjun, oj, hoj, hall⟩ := mem_ready.1 hj
      have hun : listed.getD i true = false := (mem_ready.1 hr).1
      have hun' : listed.getD i false = false := by
        rcases Nat.lt_or_ge i listed.size with h' | h'
        · simp only [Array.getD_eq_getD_getElem?, Array.getElem?_eq_getElem h', Option.getD_some] at hun ⊢
          exact hun
        · simp [Array.getElem?_eq_none h']
      have hnot : ∀ e ∈ oj.after, Region.binds .any e = true → e.on ≠ i := fun e he hb heq => by
        have h2 := hall e he hb
        rw [heq, hun'] at h2
        cases h2
      have hw : waits ops j i = false := by
        unfold waits
        rw [hoj]
        simp only [Option.map_some, Option.getD_some]
        cases hq : oj.after.any (fun e => Region.binds .any e && e.on == i) with
        | false => rfl
        | true =>
          obtain ⟨e, he, hb⟩ := Array.any_eq_true'.1 hq
          simp only [Bool.and_eq_true, beq_iff_eq] at hb
          exact absurd hb.2 (hnot e he hb.1)
      have h2 := wpOp_putG hoj (hfree j oj hoj hji hjun hnot) (fun cs b => hsel i oi cs b hi) (fun cs b => hsel j oj cs b hoj) hQ hy h1
      have hfree' : ∀ k ok, ops[k]? = some ok → k ≠ i → (listed.setIfInBounds j true).getD k true = false →
          (∀ e ∈ ok.after, Region.binds .any e = true → e.on ≠ i) → oi.apart ops ok = true := fun k ok hk hki hun hno => by
        refine hfree k ok hk hki ?_ hno
        by_cases hjk : j = k
        · subst hjk; exact hjun
        · rw [getD_set_ne true hjk] at hun; exact hun
      refine wpOp_mono (fun a' w' h3 => ⟨h3.2.1, ih (listed.setIfInBounds j true) a' w' hfree' (ready_mono hr (Ne.symm hji)) h3.1 ?_ ?_⟩) h2
      · rcases h3.2.1 with g | hk
        · exact (hS.gr g2).gr g
        · exact fun p hp hpi => hk.mem p hp (by rw [hpi]; exact hw)
      · rw [Array.setIfInBounds_comm _ _ hji]
        exact h3.2.2
end
section
variable {P : Program} {f n : Nat} {k : List Item} {ρ : Env} {w : World} {R : Ending → World → Prop} {ops : Array Oper} {H : Held} {fuel : Nat} {listed : Array Bool} {i : Nat}
def Qk (P : Program) (f n : Nat) (k : List Item) (R : Ending → World → Prop) : Exit → Act → World → Prop :=
  fun e a w => e = .normal ∧ ∃ tmps ρ, a = ⟨tmps, []⟩ ∧ Fits n ρ tmps ∧ Run P f n k ρ w R
def RA (P : Program) (f n : Nat) (ops : Array Oper) (H : Held) (fuel : Nat) (listed : Array Bool) (k : List Item) (ρ : Env) (w : World) (R : Ending → World → Prop) : Prop :=
  ∀ tmps, Fits n ρ tmps → AnyL P ops (Qk P f n k R) H fuel listed ⟨tmps, []⟩ w
theorem ra_start {id : Nat} (H : Held) (hm : P.follows .mixedOrders = true) (h : ∀ w', Chg w w' (fun _ => False) → w'.heap = w.heap → RA P f n ops H ops.size (Array.replicate ops.size false) k ρ w' R) : Run P f n (.code (.region id ops true) :: k) ρ w R := by
  intro tmps ht cs
  have hw := wp_region_any (P := P) (ops := ops) (Q := Qk P f n k R) (id := id) (a := ⟨tmps, []⟩) (w := w) hm (wpAny_of_AnyL (H := H) _ _ _ _ (h { w with drawn := w.drawn + 1 } ⟨rfl, rfl, rfl, Nat.le_refl _, fun _ _ _ => rfl⟩ rfl tmps ht))
  obtain ⟨e, a', w', ⟨rfl, tmps', ρ', rfl, hf, hrun⟩, harr⟩ := hw (base0 f) k cs
  obtain ⟨e2, w2, fr2, hq, hc, r⟩ := hrun tmps' hf cs
  exact ⟨e2, w2, fr2, hq, Comes.of_steps harr hc, r⟩
theorem zbw (hr : Region.ready .any ops listed = []) (h : ∀ w2, Gr w w2 → Run P f n k ρ w2 R) : RA P f n ops H fuel listed k ρ w R := fun tmps ht => by
  have hq : ∀ w2, Gr w w2 → Qk P f n k R .normal ⟨tmps, []⟩ w2 := fun w2 g => ⟨rfl, tmps, ρ, rfl, ht, h w2 g⟩
  cases fuel with
  | zero => exact ⟨hr, hq⟩
  | succ m => exact fun w2 g => ⟨fun _ => hq w2 g, (fun i hi => by rw [hr] at hi; cases hi)⟩
theorem ra_take {o : Oper} {v : Value} (ho : ops[i]? = some o) (hs : Region.noSelect ops = true) (hfr : Region.free .any ops listed i = true) (hr : (Region.ready .any ops listed).contains i = true) (hw : zb0 ρ ops o = true) (hd : okO n o.dst = true)
    (hv : ∀ w, Of H i w → (execOp (ev ρ) o).run P w = .ok (.value v) w) (hnow : Of H i w) (h : RA P f n ops H fuel (listed.setIfInBounds i true) k (updO ρ o.dst v) w R) : RA P f n ops H (fuel + 1) listed k ρ w R := fun tmps ht => by
  refine anyL_first ho (Region.noSelect_spec hs) (fun c a w hq => by cases hq.1) fuel listed ⟨tmps, []⟩ w (Region.free_spec ho hfr) (by simpa using hr) (.inl ⟨by rw [zdp ht]; exact hw, fun w hS => .inl (by rw [ht.eval]; exact hv w hS)⟩) hnow ?_
  rw [put_eta]
  exact h _ (ht.putO hd v)
theorem ra_mild {o : Oper} {v : Value} (ho : ops[i]? = some o) (hs : Region.noSelect ops = true) (hfr : Region.free .any ops listed i = true) (hr : (Region.ready .any ops listed).contains i = true) (hw : zb0 ρ ops o = true) (hd : okO n o.dst = true)
    (hv : ∀ w, Of H i w → ∃ g args, (execOp (ev ρ) o).run P w = .ok (.enter g args) w ∧ Calls P g args w fun e w2 => e = .returned v ∧ Gr w w2) (hnow : Of H i w) (h : RA P f n ops H fuel (listed.setIfInBounds i true) k (updO ρ o.dst v) w R) : RA P f n ops H (fuel + 1) listed k ρ w R := fun tmps ht => by
  refine anyL_first ho (Region.noSelect_spec hs) (fun c a w hq => by cases hq.1) fuel listed ⟨tmps, []⟩ w (Region.free_spec ho hfr) (by simpa using hr) (.inl ⟨by rw [zdp ht]; exact hw, fun w hS => .inr (by rw [ht.eval]; exact hv w hS)⟩) hnow ?_
  rw [put_eta]
  exact h _ (ht.putO hd v)
theorem ra_off {o : Oper} (ho : ops[i]? = some o) (hs : Region.noSelect ops = true) (hfr : Region.free .any ops listed i = true) (hr : (Region.ready .any ops listed).contains i = true) (hw : zb0 ρ ops o = false) (hd : okO n o.dst = true)
    (hnow : Of H i w) (h : RA P f n ops H fuel (listed.setIfInBounds i true) k (updO ρ o.dst undef) w R) : RA P f n ops H (fuel + 1) listed k ρ w R := fun tmps ht => by
  refine anyL_first ho (Region.noSelect_spec hs) (fun c a w hq => by cases hq.1) fuel listed ⟨tmps, []⟩ w (Region.free_spec ho hfr) (by simpa using hr) (.inr ⟨by rw [zdp ht]; exact hw, rfl⟩) hnow ?_
  rw [put_eta]
  exact h _ (ht.putO hd undef)
def RA1 (P : Program) (f n : Nat) (ops : Array Oper) (H : Held) (fuel : Nat) (listed : Array Bool) (k : List Item) (ρ : Env) (w : World) (R : Ending → World → Prop) (i : Nat) : Prop :=
  ∀ tmps, Fits n ρ tmps → wpOp P ops (Qk P f n k R) i (fun a' w' => (Gr w w' ∨ Keep ops i w' H) ∧ AnyL P ops (Qk P f n k R) H fuel (listed.setIfInBounds i true) a' w') ⟨tmps, []⟩ w
theorem zc7 (hr : Region.ready .any ops listed = [i]) (h : ∀ w2, Gr w w2 → RA1 P f n ops H fuel listed k ρ w2 R i) : RA P f n ops H (fuel + 1) listed k ρ w R := fun tmps ht w2 g =>
  ⟨(fun e => by rw [hr] at e; cases e), (fun j hj => by rw [hr] at hj; simp at hj; subst hj; exact h w2 g tmps ht)⟩
theorem ra_op {o : Oper} {v : Value} {w' : World} (ho : ops[i]? = some o) (hw : zb0 ρ ops o = true) (hd : okO n o.dst = true) (hr : (execOp (ev ρ) o).run P w = .ok (.value v) w') (hk : Gr w w' ∨ Keep ops i w' H)
    (h : RA P f n ops H fuel (listed.setIfInBounds i true) k (updO ρ o.dst v) w' R) : RA1 P f n ops H fuel listed k ρ w R i := fun tmps ht => by
  unfold wpOp
  simp only [ho]
  rw [if_pos (by rw [zdp ht]; exact hw)]
  refine .inl ?_
  unfold Oper.wp
  rw [ht.eval, hr, Oper.upon_value]
  refine ⟨hk, ?_⟩
  rw [put_eta]
  exact h _ (ht.putO hd v)
theorem ra_op_skip {o : Oper} {w' : World} (ho : ops[i]? = some o) (hw : zb0 ρ ops o = true) (hd : okO n o.dst = true) (hr : (execOp (ev ρ) o).run P w = .ok .skip w') (hk : Gr w w' ∨ Keep ops i w' H)
    (h : RA P f n ops H fuel (listed.setIfInBounds i true) k (updO ρ o.dst undef) w' R) : RA1 P f n ops H fuel listed k ρ w R i := fun tmps ht => by
  unfold wpOp
  simp only [ho]
  rw [if_pos (by rw [zdp ht]; exact hw)]
  refine .inl ?_
  unfold Oper.wp
  rw [ht.eval, hr, Oper.upon_skip]
  refine ⟨hk, ?_⟩
  rw [put_eta]
  exact h _ (ht.putO hd undef)
theorem ra_op_call {o : Oper} {w' : World} {g : FuncId} {args : Array Value} {Qc : Value → World → Prop} (ho : ops[i]? = some o) (hw : zb0 ρ ops o = true) (hd : okO n o.dst = true)
    (hr : (execOp (ev ρ) o).run P w = .ok (.enter g args) w') (hc : Calls P g args w' fun e w2 => ∃ v, e = .returned v ∧ Qc v w2)
    (h : ∀ v w2, Qc v w2 → (Gr w w2 ∨ Keep ops i w2 H) ∧ RA P f n ops H fuel (listed.setIfInBounds i true) k (updO ρ o.dst v) w2 R) : RA1 P f n ops H fuel listed k ρ w R i := fun tmps ht => by
  unfold wpOp
  simp only [ho]
  rw [if_pos (by rw [zdp ht]; exact hw)]
  refine .inl ?_
  unfold Oper.wp
  rw [ht.eval, hr, Oper.upon_enter]
  refine hc.mono fun e w2 he => ?_
  obtain ⟨v, rfl, hq⟩ := he
  obtain ⟨h1, h2⟩ := h v w2 hq
  refine ⟨h1, ?_⟩
  rw [put_eta]
  exact h2 _ (ht.putO hd v)
end
end Gx
namespace Gx
open Go Go.RowKit
set_option linter.unusedSimpArgs false
set_option linter.unusedSectionVars false
set_option linter.unusedVariables false
section
variable {P : Program} {f n : Nat} {k : List Item} {ρ : Env} {w w' : World} {R : Ending → World → Prop} {ops : Array Oper} {rest : List Nat} {i : Nat} {H : Held} {fuel : Nat} {listed : Array Bool}
variable {d : Tmp} {ty : TypeId} {pos : String} {af : Array Edge} {gd : Option (Nat × Bool)} {x y : Operand} {op : Op} {v : Value}
theorem p_v (ho : ops[i]? = some ⟨some d, op, ty, pos, af, gd⟩) (hw : zb0 ρ ops ⟨some d, op, ty, pos, af, gd⟩ = true) (hd : Nat.blt d n = true) (hr : (execOp (ev ρ) ⟨some d, op, ty, pos, af, gd⟩).run P w = .ok (.value v) w')
    (h : Run P f n (.inRegion ops rest :: k) (upd ρ d v) w' R) : Run P f n (.inRegion ops (i :: rest) :: k) ρ w R := run_op ho hw hd hr h
theorem p_s (ho : ops[i]? = some ⟨none, op, ty, pos, af, gd⟩) (hw : zb0 ρ ops ⟨none, op, ty, pos, af, gd⟩ = true) (hr : (execOp (ev ρ) ⟨none, op, ty, pos, af, gd⟩).run P w = .ok .skip w')
    (h : Run P f n (.inRegion ops rest :: k) ρ w' R) : Run P f n (.inRegion ops (i :: rest) :: k) ρ w R := run_op_skip ho hw rfl hr h
theorem zaz (ho : ops[i]? = some ⟨some d, op, ty, pos, af, gd⟩) (hw : zb0 ρ ops ⟨some d, op, ty, pos, af, gd⟩ = false) (hd : Nat.blt d n = true)
    (h : Run P f n (.inRegion ops rest :: k) (upd ρ d undef) w R) : Run P f n (.inRegion ops (i :: rest) :: k) ρ w R := run_op_off ho hw hd h
theorem p_c {g : FuncId} {args : Array Value} {Q : Value → World → Prop} (ho : ops[i]? = some ⟨some d, op, ty, pos, af, gd⟩) (hw : zb0 ρ ops ⟨some d, op, ty, pos, af, gd⟩ = true) (hd : Nat.blt d n = true) (hr : (execOp (ev ρ) ⟨some d, op, ty, pos, af, gd⟩).run P w = .ok (.enter g args) w)
    (hc : Calls P g args w fun e w2 => ∃ v, e = .returned v ∧ Q v w2) (h : ∀ v w2, Q v w2 → Run P f n (.inRegion ops rest :: k) (upd ρ d v) w2 R) : Run P f n (.inRegion ops (i :: rest) :: k) ρ w R := run_op_call ho hw hd hr hc h
theorem d_q (F : World → Prop) (hF : ∀ w, Of H i w → F w) (ho : ops[i]? = some ⟨some d, op, ty, pos, af, gd⟩) (hs : Region.noSelect ops = true) (hfr : Region.free .any ops listed i = true) (hr : (Region.ready .any ops listed).contains i = true) (hw : zb0 ρ ops ⟨some d, op, ty, pos, af, gd⟩ = true) (hd : Nat.blt d n = true)
    (hv : ∀ w, F w → (execOp (ev ρ) ⟨some d, op, ty, pos, af, gd⟩).run P w = .ok (.value v) w) (hnow : Of H i w) (h : RA P f n ops H fuel (listed.setIfInBounds i true) k (upd ρ d v) w R) : RA P f n ops H (fuel + 1) listed k ρ w R :=
  ra_take ho hs hfr hr hw hd (fun w hO => hv w (hF w hO)) hnow h
theorem zce (ho : ops[i]? = some ⟨some d, op, ty, pos, af, gd⟩) (hs : Region.noSelect ops = true) (hfr : Region.free .any ops listed i = true) (hr : (Region.ready .any ops listed).contains i = true) (hw : zb0 ρ ops ⟨some d, op, ty, pos, af, gd⟩ = false) (hd : Nat.blt d n = true)
    (hnow : Of H i w) (h : RA P f n ops H fuel (listed.setIfInBounds i true) k (upd ρ d undef) w R) : RA P f n ops H (fuel + 1) listed k ρ w R := ra_off ho hs hfr hr hw hd hnow h
theorem d_v (ho : ops[i]? = some ⟨some d, op, ty, pos, af, gd⟩) (hw : zb0 ρ ops ⟨some d, op, ty, pos, af, gd⟩ = true) (hd : Nat.blt d n = true) (hr : (execOp (ev ρ) ⟨some d, op, ty, pos, af, gd⟩).run P w = .ok (.value v) w') (hk : Gr w w' ∨ Keep ops i w' H)
    (h : RA P f n ops H fuel (listed.setIfInBounds i true) k (upd ρ d v) w' R) : RA1 P f n ops H fuel listed k ρ w R i := ra_op ho hw hd hr hk h
theorem d_s (ho : ops[i]? = some ⟨none, op, ty, pos, af, gd⟩) (hw : zb0 ρ ops ⟨none, op, ty, pos, af, gd⟩ = true) (hr : (execOp (ev ρ) ⟨none, op, ty, pos, af, gd⟩).run P w = .ok .skip w') (hk : Gr w w' ∨ Keep ops i w' H)
    (h : RA P f n ops H fuel (listed.setIfInBounds i true) k ρ w' R) : RA1 P f n ops H fuel listed k ρ w R i := ra_op_skip ho hw rfl hr hk h
theorem d_c {g : FuncId} {args : Array Value} {Q : Value → World → Prop} (ho : ops[i]? = some ⟨some d, op, ty, pos, af, gd⟩) (hw : zb0 ρ ops ⟨some d, op, ty, pos, af, gd⟩ = true) (hd : Nat.blt d n = true) (hr : (execOp (ev ρ) ⟨some d, op, ty, pos, af, gd⟩).run P w = .ok (.enter g args) w)
    (hc : Calls P g args w fun e w2 => ∃ v, e = .returned v ∧ Q v w2) (h : ∀ v w2, Q v w2 → (Gr w w2 ∨ Keep ops i w2 H) ∧ RA P f n ops H fuel (listed.setIfInBounds i true) k (upd ρ d v) w2 R) : RA1 P f n ops H fuel listed k ρ w R i := ra_op_call ho hw hd hr hc h
theorem of_nil (i : Nat) (w : World) : Of [] i w := fun p hp => by cases hp
theorem d_m (F : World → Prop) (hF : ∀ w, Of H i w → F w) (ho : ops[i]? = some ⟨some d, op, ty, pos, af, gd⟩) (hs : Region.noSelect ops = true) (hfr : Region.free .any ops listed i = true) (hr : (Region.ready .any ops listed).contains i = true) (hw : zb0 ρ ops ⟨some d, op, ty, pos, af, gd⟩ = true) (hd : Nat.blt d n = true)
    {g : FuncId} {args : Array Value} (he : ∀ w, (execOp (ev ρ) ⟨some d, op, ty, pos, af, gd⟩).run P w = .ok (.enter g args) w) (hv : ∀ w, F w → Calls P g args w fun e w2 => e = .returned v ∧ Gr w w2) (hnow : Of H i w) (h : RA P f n ops H fuel (listed.setIfInBounds i true) k (upd ρ d v) w R) : RA P f n ops H (fuel + 1) listed k ρ w R :=
  ra_mild ho hs hfr hr hw hd (fun w hO => ⟨g, args, he w, hv w (hF w hO)⟩) hnow h
def CF (ad : Addr) (seg : List Value) (w : World) : Prop := ∀ j u, seg[j]? = some u → w.cell? (ad.add j) = some u
theorem CF.grow {ad : Addr} {seg : List Value} (hc : Chg w w' (fun _ => False)) (h : CF ad seg w) : CF ad seg w' := fun j u hj => by
  have h1 := h j u hj
  have hlt := World.block_lt_of_cell? w _ h1
  exact (World.cell?_of_block (w := w) (hc.block _ hlt (fun x => x))).trans h1
def CFs (ad : Addr) (seg : List Value) : Sp := ⟨CF ad seg, fun _ _ g h => h.grow g⟩
theorem CF.same {ad : Addr} {seg : List Value} (hh : w'.heap = w.heap) (h : CF ad seg w) : CF ad seg w' := fun j u hj => by
  have h1 := h j u hj
  simpa [World.cell?, hh] using h1
theorem CF.ghost {ad : Addr} {seg : List Value} {h : Ghost} (hs : ∀ j u, seg[j]? = some u → gcell h (ad.add j) = some u) (hle : Le h (hp w)) : CF ad seg w := fun j u hj => gcell_world hle (hs j u hj)
theorem CF.box {b off m : Nat} {T : TypeId} {cs ds : List Value} (hb : w.heap[b]? = some (.cells cs.toArray T (0, 0))) (hs : (cs.drop off).take m = ds) : CF ⟨b, off, none⟩ ds w := fun q u hq => by
  have hadd : (⟨b, off, none⟩ : Addr).add q = ⟨b, off + q, none⟩ := by unfold Addr.add; split <;> simp_all
  rw [hadd, cell_box hb]
  rw [← hs, List.getElem?_take] at hq
  split at hq
  · rwa [List.getElem?_drop] at hq
  · cases hq
end
section
variable {P : Program} {ρ : Env} {w w' : World} {d : Option Tmp} {ty : TypeId} {pos : String} {af : Array Edge} {g : Option (Nat × Bool)} {x y : Operand}
variable {base : Nat} {w0 : World} {h : Ghost} {L : List Asrt}
variable {α : Type} [Inhabited α] {kd : Kd α} {xs : List α}
theorem zah {T : TypeId} {m b' : Nat} {gg : Bool} {z : Option Value} {ad : Addr} {seg : List Value} (ht : zbk P T = some (m, b', gg, z)) (hm : seg.length = m) (h1 : gg = false → m = 1) (hx : ev ρ x = .pointer (some ad)) (hc : CF ad seg w) :
    (execOp (ev ρ) ⟨d, .load T x, ty, pos, af, g⟩).run P w = .ok (.value (packV gg seg)) w := by
  have hl := run_loadVar (P := P) (w := w) (a := ad) ht hm h1 hc
  simp only [execOp, hx, Instr.loadAt, Instr.sureAddr, Sem.run_bind]
  show (((Sem.pure ad).run P w).andThen fun a w' => ((loadVar T a).run P w')).andThen _ = _
  simp only [Sem.run, Result.andThen_ok, hl]
  rfl
theorem x_box {T : TypeId} {v : Value} {a : Addr} (hx : ev ρ x = v) (hr : (newVar T v).run P w = .ok a w') : (execOp (ev ρ) ⟨d, .box T x, ty, pos, af, g⟩).run P w = .ok (.value (.pointer (some a))) w' := by
  simp only [execOp, Instr.box, hx, Sem.run_bind, hr, Result.andThen_ok]; rfl
theorem zcs {T : TypeId} {z : Value} {a : Addr} {m b' : Nat} {gg : Bool} (ht : zbk P T = some (m, b', gg, some z)) (hr : (newVar T z).run P w = .ok a w') : (execOp (ev ρ) ⟨d, .alloc T, ty, pos, af, g⟩).run P w = .ok (.value (.pointer (some a))) w' := by
  simp only [execOp, Instr.alloc, Sem.run_bind, zcn ht, Result.andThen_ok, hr]; rfl
theorem zbt {T : TypeId} {a : Operand} {v : Value} {ad : Addr} (ha : ev ρ a = .pointer (some ad)) (hx : ev ρ x = v) (hr : (storeVar T ad v).run P w = .ok () w') : (execOp (ev ρ) ⟨d, .store T a x, ty, pos, af, g⟩).run P w = .ok .skip w' := by
  simp only [execOp, ha, hx, Instr.storeAt, Instr.sureAddr, Sem.run_bind]
  show (((Sem.pure ad).run P w).andThen fun a w' => ((storeVar T a v).run P w')).andThen _ = _
  simp only [Sem.run, Result.andThen_ok, hr]
  rfl
theorem x_make {T : TypeId} {a b v : Value} (hx : ev ρ x = a) (hy : ev ρ y = b) (hr : (Instr.makeSlice T a b).run P w = .ok v w') : (execOp (ev ρ) ⟨d, .makeSlice T x y, ty, pos, af, g⟩).run P w = .ok (.value v) w' := by
  simp only [execOp, hx, hy, Sem.run_bind, hr, Result.andThen_ok]; rfl
theorem x_build_slice {T : TypeId} {len : Nat} {parts : Array (Nat × Operand)} {pv : List (Nat × Value)} {v : Value} (hp : (parts.map fun (i, x) => (i, ev ρ x)) = pv.toArray) (hr : (Instr.buildSlice T len pv.toArray).run P w = .ok v w') : (execOp (ev ρ) ⟨d, .buildSlice T len parts, ty, pos, af, g⟩).run P w = .ok (.value v) w' := by
  simp only [execOp, hp, Sem.run_bind, hr, Result.andThen_ok]; rfl
theorem x_build {T : TypeId} {parts : Array (Nat × Operand)} {pv : List (Nat × Value)} {v : Value} (hp : (parts.map fun (i, x) => (i, ev ρ x)) = pv.toArray) (hr : (Instr.build T pv.toArray).run P w = .ok v w) : (execOp (ev ρ) ⟨d, .build T parts, ty, pos, af, g⟩).run P w = .ok (.value v) w := by
  simp only [execOp, hp, Sem.run_bind, hr, Result.andThen_ok]; rfl
theorem zde {T : TypeId} {a b v : Value} (hx : ev ρ x = a) (hy : ev ρ y = b) (hr : (Builtin.append_ #[T, T] ty #[a, b]).run P w = .ok v w') : (execOp (ev ρ) ⟨d, .call ⟨.builtin .append, #[x, y], #[T, T]⟩, ty, pos, af, g⟩).run P w = .ok (.value v) w' := by
  have h1 : ((#[x, y] : Array Operand).map (ev ρ)) = #[a, b] := by simp [hx, hy]
  simp only [execOp, resolve, invoke, builtin, Sem.run_bind, Sem.run_pure, Result.andThen_ok, h1, hr]
theorem x_slice {T : TypeId} {lo hi : Option Operand} {lv hv : Option Value} {a v : Value} (hx : ev ρ x = a) (hl : lo.map (ev ρ) = lv) (hh : hi.map (ev ρ) = hv) (hr : (Instr.sliceAt T a lv hv none).run P w = .ok v w) : (execOp (ev ρ) ⟨d, .slice T x lo hi none, ty, pos, af, g⟩).run P w = .ok (.value v) w := by
  simp only [execOp, hx, hl, hh, Option.map_none, Sem.run_bind, hr, Result.andThen_ok]; rfl
theorem zan {A : Option Addr} {ad : Addr} {len cap m b' : Nat} {q : Int} {T E : TypeId} {kk : IntKind} {gg : Bool} {z : Option Value} (hT : P.underlying T = some (.slice E)) (ht : zbk P E = some (m, b', gg, z))
    (hx : ev ρ x = .slice A len cap) (hy : ev ρ y = .int kk q) (hA : ∃ a, A = some a ∧ ad = a.add (q.toNat * m)) (h0 : 0 ≤ q) (h1 : q < (len : Int)) : (execOp (ev ρ) ⟨d, .indexAddr T x y, ty, pos, af, g⟩).run P w = .ok (.value (.pointer (some ad))) w := by
  obtain ⟨a, rfl, rfl⟩ := hA
  exact x_indexAddr_slice hT ht hx hy h0 h1
theorem za9 {v : Value} {ad : Addr} {len m b' : Nat} {q : Int} {T E : TypeId} {kk : IntKind} {gg : Bool} {z : Option Value} (hT : P.underlying T = some (.slice E)) (ht : zbk P E = some (m, b', gg, z))
    (hx : ev ρ x = v) (hy : ev ρ y = .int kk q) (hA : ∃ g cap, v = .slice (some ⟨g, 0, none⟩) len cap ∧ ad = ⟨g, q.toNat * m, none⟩) (h0 : 0 ≤ q) (h1 : q < (len : Int)) : (execOp (ev ρ) ⟨d, .indexAddr T x y, ty, pos, af, g⟩).run P w = .ok (.value (.pointer (some ad))) w := by
  obtain ⟨b, cap, rfl, rfl⟩ := hA
  have hadd : (⟨b, 0, none⟩ : Addr).add (q.toNat * m) = ⟨b, q.toNat * m, none⟩ := by unfold Addr.add; split <;> simp_all
  rw [← hadd]
  exact x_indexAddr_slice hT ht hx hy h0 h1
theorem zdo {T E : TypeId} {v : Value} {len : Nat} (hT : P.underlying T = some (.slice E)) (hx : ev ρ x = v) (hv : ∃ A c, v = .slice A len c) : (execOp (ev ρ) ⟨d, .call ⟨.builtin .len, #[x], #[T]⟩, ty, pos, af, g⟩).run P w = .ok (.value (.int .i64 len)) w := by
  obtain ⟨A, c, rfl⟩ := hv
  exact zar hT hx
theorem zc0 (S : St base w0 h w L) (T : TypeId) {v : Value} (cs : List Value) (hv : v.cells = cs.toArray) : ∃ b w', (newVar T v).run P w = .ok (⟨b, 0, none⟩ : Addr) w' ∧ Chg w w' (fun _ => False) ∧ St base w0 h w' (L ++ [box b T cs]) :=
  ⟨w.heap.size, w.alloc (.cells cs.toArray T), by simp only [newVar, newRow, newObj, hv, Sem.run_bind]; rfl, Chg.alloc _ _, S.alloc T cs⟩
theorem zb9 {j b off : Nat} {T E : TypeId} {cs vs : List Value} {v : Value} {m b' : Nat} {gg : Bool} {z : Option Value} (S : St base w0 h w L) (ht : zbk P T = some (m, b', gg, z)) (hc : v.cells = vs.toArray) (hm : vs.length = m) (hj : L[j]? = some (box b E cs)) (hfit : off + m ≤ cs.length) (h1 : ∀ u ∈ vs, u.oneCell' = true) :
    ∃ w', (storeVar T ⟨b, off, none⟩ v).run P w = .ok () w' ∧ Chg w w' (fun q => q = b) ∧ St base w0 h w' (L.set j (box b E (lput cs off vs))) := by
  have hb := S.box_at hj
  have hlt : b < w.heap.size := (Array.getElem?_eq_some_iff.1 hb).1
  have S' : St base w0 h (zcf w b E (lput cs off vs)) (L.set j (box b E (lput cs off vs))) := by
    refine S.upd hj fun F hF _ => ⟨(putBlock_chg w b E _).mono (fun q hq => by subst hq; exact hF.2), F, ⟨putBlock_at hlt _ _, hF.2⟩, fun q hq => .inl hq⟩
  have hr := run_storeVar_box (P := P) (v := v) ht hb (by rw [hc]; simpa using hm) hfit (by rw [hc]; simpa using h1)
  rw [hc] at hr
  exact ⟨_, hr, putBlock_chg w b E _, S'⟩
theorem e_make {T E : TypeId} {kk kk' : IntKind} {q : Int} {m b' : Nat} {gg : Bool} {zv : Value} {z : α} {zc : List Value} (S : St base w0 h w L) (hT : P.underlying T = some (.slice E)) (ht : zbk P E = some (m, b', gg, some zv)) (hm : kd.sz = m) (hz : zv.cells = zc.toArray) (hr : kd.rep h z zc)
    (h0 : 0 ≤ q) (hb : (b' : Int) * q ≤ 281474976710656) (h63 : q ≤ 9223372036854775807) :
    ∃ v w', (Instr.makeSlice T (.int kk q) (.int kk' q)).run P w = .ok v w' ∧ Chg w w' (fun _ => False) ∧ St base w0 h w' (L ++ [row E kd v (List.replicate q.toNat z)]) := by
  obtain ⟨ii, dd, hi, _, hs, hby, _, hzz⟩ := zbl ht
  have hrun := run_make (P := P) w T E ii zv hT hi hzz kk kk' q q h0 (Int.le_refl _) (by rw [hby]; exact hb) h63
  rw [hz, hs, ← hm] at hrun
  refine ⟨_, _, hrun, Chg.alloc _ _, ?_⟩
  have hown := World.ownsRow_lit (e := E) (base := w.heap.size) (size := kd.sz) w (madeCells zc.toArray (q.toNat * kd.sz)) q.toNat (Nat.le_refl _) (by simp only [maxLen]; omega) (size_madeCells _ _)
  refine S.row_add (cs := (madeCells zc.toArray (q.toNat * kd.sz)).toList) (Chg.alloc _ _) ?_ (made_elems hr)
  simpa using hown
theorem e_build {T E : TypeId} {m b' len : Nat} {gg : Bool} {zv : Value} {pv : List (Nat × Value)} {cs : List Value} {zc : Array Value} (S : St base w0 h w L) (hT : P.underlying T = some (.slice E)) (ht : zbk P E = some (m, b', gg, some zv)) (hm : kd.sz = m) (hlen : xs.length = len) (hsmall : Nat.ble (len * m) 100000 = true)
    (hz : (if len * m = 0 then #[] else zv.cells) = zc) (hf : Instr.fill (fun i => some (i * m, m)) ((Array.range (len * m)).map (zc[· % zc.size]!)) pv = some cs.toArray) (hel : zbu kd h xs cs) :
    ∃ v w', (Instr.buildSlice T len pv.toArray).run P w = .ok v w' ∧ Chg w w' (fun _ => False) ∧ St base w0 h w' (L ++ [row E kd v xs]) := by
  have hsm : len * m ≤ 100000 := by simpa [Nat.ble_eq] using hsmall
  refine ⟨_, _, run_build_slice hT ht hsm hz hf, Chg.alloc _ _, ?_⟩
  have hcs : cs.length = len * kd.sz := by rw [hel.1, hlen]
  have hown := World.ownsRow_lit (e := E) (base := w.heap.size) (size := kd.sz) w cs.toArray len (Nat.le_refl _) (by have := kd.pos; simp only [maxLen]; rw [← hm] at hsm; have : len ≤ len * kd.sz := Nat.le_mul_of_pos_right _ kd.pos; omega) (by simpa using hcs)
  subst hlen
  refine S.row_add (cs := cs) (Chg.alloc _ _) ?_ hel
  simpa using hown
theorem zap {hh : Ghost} {A : Option Addr} {q : Int} {m : Nat} (hl : zbe kd hh A xs) (hm : kd.sz = m) (h0 : 0 ≤ q) (h1 : q < (xs.length : Int)) : ∃ ad seg, (∃ a, A = some a ∧ ad = a.add (q.toNat * m)) ∧ kd.rep hh (at_ xs q) seg ∧ ∀ j u, seg[j]? = some u → gcell hh (ad.add j) = some u := by
  obtain ⟨a, e, seg, h2, h3⟩ := hl.seg h0 h1
  subst hm
  exact ⟨_, seg, ⟨a, e, rfl⟩, h2, h3⟩
theorem zba {j : Nat} {v : Value} {q : Int} {m : Nat} {E : TypeId} (S : St base w0 h w L) (hj : L[j]? = some (row E kd v xs)) (hm : kd.sz = m) (h0 : 0 ≤ q) (h1 : q < (xs.length : Int)) :
    ∃ ad, (∃ g cap, v = .slice (some ⟨g, 0, none⟩) xs.length cap ∧ ad = ⟨g, q.toNat * m, none⟩) ∧ AtOwn v m q ad := by
  obtain ⟨cs, hown, _⟩ := S.row_at hj
  rcases hown.2 with ⟨_, he⟩ | ⟨g, cap, cur, hv, _⟩
  · omega
  · exact ⟨_, ⟨g, cap, hv, rfl⟩, g, by rw [hv]; rfl, rfl⟩
theorem zbo {j : Nat} {v : Value} {q : Int} {m : Nat} {T : TypeId} {ad : Addr} (S : St base w0 h w L) (hj : L[j]? = some (row T kd v xs)) (hm : kd.sz = m) (ha : AtOwn v m q ad) (h0 : 0 ≤ q) (hq : q < (xs.length : Int)) : ∃ seg, kd.rep h (at_ xs q) seg ∧ CF ad seg w := by
  obtain ⟨cs, hown, hel⟩ := S.row_at hj
  obtain ⟨g, hg, rfl⟩ := ha
  subst hm
  refine ⟨_, hel.2 _ _ (zdd h0 hq), fun p u hp => ?_⟩
  rw [List.getElem?_take] at hp
  split at hp
  · rw [List.getElem?_drop] at hp
    have := hown.cells hg _ u hp
    rwa [show (⟨g, q.toNat * kd.sz, none⟩ : Addr).add p = (⟨g, 0, none⟩ : Addr).add (q.toNat * kd.sz + p) by
      unfold Addr.add; split <;> split <;> simp_all]
  · cases hp
theorem zdu {j : Nat} {v : Value} {T : TypeId} (S : St base w0 h w L) (hj : L[j]? = some (row T kd v xs)) : ∃ A c, v = .slice A xs.length c := by
  obtain ⟨A, c, e, _⟩ := S.row_val hj
  exact ⟨A, c, e⟩
end
end Gx
namespace Gx
open Go Go.RowKit
set_option linter.unusedSimpArgs false
set_option linter.unusedSectionVars false
set_option linter.unusedVariables false
section
variable {P : Program} {w : World} {base : Nat} {w0 : World} {h : Ghost} {L : List Asrt}
variable {α : Type} [Inhabited α] {kd : Kd α} {xs : List α}
theorem zdc {j : Nat} {v u : Value} {q : Int} {T : TypeId} {m b' : Nat} {gg : Bool} {z : Option Value} {ad : Addr} (e : α) {vs : List Value} (S : St base w0 h w L) (ht : zbk P T = some (m, b', gg, z)) (hm : kd.sz = m)
    (hj : L[j]? = some (row T kd v xs)) (hc : u.cells = vs.toArray) (hr : kd.rep h e vs) (hat : AtOwn v m q ad) (h0 : 0 ≤ q) (hq : q < (xs.length : Int)) :
    ∃ w', (storeVar T ad u).run P w = .ok () w' ∧ Chg w w' (fun b => v.ownBlock = some b) ∧ St base w0 h w' (L.set j (row T kd v (xs.set q.toNat e))) := by
  obtain ⟨Fs, hF, _⟩ := S.sep
  obtain ⟨g, hg, rfl⟩ := hat
  subst hm
  have hql : q.toNat < xs.length := by omega
  obtain ⟨⟨cs, hown, hel, hfo⟩, _⟩ := hF j _ hj
  rcases hown.2 with ⟨_, he⟩ | ⟨g', cap, cur, hv, hb, hh, hl, hcap, hcs, htk⟩
  · omega
  have hgg : g' = g := by rw [hv] at hg; simpa [Value.ownBlock] using hg
  subst hgg
  have hlt : g' < w.heap.size := (Array.getElem?_eq_some_iff.1 hh).1
  have hvl := kd.len hr
  have hfit : q.toNat * kd.sz + kd.sz ≤ xs.length * kd.sz := by rw [← Nat.succ_mul]; exact Nat.mul_le_mul_right _ hql
  have hcap' : xs.length * kd.sz ≤ cap * kd.sz := Nat.mul_le_mul_right _ hl
  have hh' : w.heap[g']? = some (.cells cur.toList.toArray T (0, 0)) := by rw [hh]
  have hcl : cur.toList.length = cap * kd.sz := by rw [Array.length_toList]; exact hcs
  have S' : St base w0 h (zcf w g' T (lput cur.toList (q.toNat * kd.sz) vs)) (L.set j (row T kd v (xs.set q.toNat e))) := by
    refine S.upd hj fun F hF' hFU => ?_
    obtain ⟨cs2, hown2, hel2, hfo2⟩ := hF'
    have hFg : F g' := hfo2 g' hg
    refine ⟨(putBlock_chg w g' T _).mono (fun b hb => by subst hb; exact hFg), F, ⟨lput cs (q.toNat * kd.sz) vs, ⟨?_, .inr ⟨g', cap, (lput cur.toList (q.toNat * kd.sz) vs).toArray, ?_, hb, putBlock_at hlt _ _, ?_, hcap, ?_, ?_⟩⟩, drop_take_set hel hql hr, hfo2⟩, fun b hb => .inl hb⟩
    · rw [lput_length, hown.1, List.length_set]
    · rw [hv, List.length_set]
    · rw [List.length_set]; exact hl
    · simp [lput_length, hcs]
    · rw [List.length_set]
      show (lput cur.toList (q.toNat * kd.sz) vs).take _ = _
      apply List.ext_getElem?
      intro p
      rw [List.getElem?_take, lput_get vs cur.toList _ _ (by omega), lput_get vs cs _ _ (by rw [hown.1]; omega)]
      split
      · split
        · rfl
        · rw [← htk, List.getElem?_take, if_pos (by assumption)]
      · rw [if_neg (by omega), List.getElem?_eq_none (by rw [hown.1]; omega)]
  have hrun := run_storeVar_box (P := P) (v := u) (off := q.toNat * kd.sz) ht hh' (by rw [hc]; simpa using hvl) (by omega) (by rw [hc]; simpa using kd.one hr)
  rw [hc] at hrun
  exact ⟨_, hrun, (putBlock_chg w g' T _).mono (fun b hb => by subst hb; exact hg), S'⟩
def News (kd : Kd α) (h : Ghost) (w : World) (A : Option Addr) (ys : List α) : Prop := (A = none ∧ ys = []) ∨ ∃ ad news, A = some ad ∧ zbu kd h ys news ∧ ∀ j u, news[j]? = some u → w.cell? (ad.add j) = some u
theorem news_flat {A : Option Addr} {ys : List α} (hl : zbe kd (hp w) A ys) (hel : ∀ (e : α) seg, kd.rep (hp w) e seg → kd.rep h e seg) : News kd h w A ys := by
  rcases A with _ | ad
  · left
    refine ⟨rfl, ?_⟩
    rcases ys with _ | ⟨a, b⟩
    · rfl
    · obtain ⟨_, e, _⟩ := hl (by simp); cases e
  · obtain ⟨news, h1, h2⟩ := hl.cells
    exact .inr ⟨ad, news, rfl, ⟨h1.1, fun i x hi => hel _ _ (h1.2 i x hi)⟩, h2⟩
theorem zdv {j : Nat} {T : TypeId} {v : Value} {A : Option Addr} {c : Nat} {ys : List α} (S : St base w0 h w L) (hj : L[j]? = some (row T kd v ys)) (hv : v = .slice A ys.length c) : News kd h w A ys := by
  obtain ⟨cs, hown, hel⟩ := S.row_at hj
  subst hv
  rcases hown.2 with ⟨hv, h0⟩ | ⟨g, cap, cur, hv, _⟩
  · injection hv with e _ _
    exact .inl ⟨e, List.eq_nil_of_length_eq_zero h0⟩
  · injection hv with e _ _
    subst e
    exact .inr ⟨_, cs, rfl, hel, fun j u hj => hown.cells (g := g) rfl j u hj⟩
theorem zdg {j : Nat} {T E : TypeId} {m b' : Nat} {gg : Bool} {zv : Value} {v : Value} {A : Option Addr} {c : Nat} {ys : List α} {len : Nat} (ty : TypeId) (S : St base w0 h w L) (hT : P.underlying T = some (.slice E))
    (ht : zbk P E = some (m, b', gg, some zv)) (hm : kd.sz = m) (hzs : zv.cells.size = m) (hj : L[j]? = some (row E kd v xs)) (hlen : ys.length = len)
    (hnews : News kd h w A ys) (hbytes : (xs.length + ys.length) * b' ≤ 140737488355328) (hbig : xs.length + ys.length ≤ 9223372036854775807) :
    ∃ v' w', (Builtin.append_ #[T, T] ty #[v, .slice A len c]).run P w = .ok v' w' ∧ Chg w w' (fun b => v.ownBlock = some b) ∧ St base w0 h w' (L.set j (row E kd v' (xs ++ ys))) := by
  obtain ⟨cs, hown, helx⟩ := S.row_at hj
  obtain ⟨ii, dd, hi, _, hs, hby, _, hzz⟩ := zbl ht
  subst hlen; subst hm
  have finish : ∀ v' w' news, (Builtin.append_ #[T, T] ty #[v, .slice A ys.length c]).run P w = .ok v' w' → zbu kd h ys news → w'.ownsRow w.heap.size E kd.sz v' (xs.length + ys.length) (cs ++ news) ∨ w'.ownsRow 0 E kd.sz v' (xs.length + ys.length) (cs ++ news) → w.grownBy w' v.ownBlock → (v'.ownBlock = v.ownBlock ∨ v'.ownBlock = some w.heap.size) → ∃ v' w', (Builtin.append_ #[T, T] ty #[v, .slice A ys.length c]).run P w = .ok v' w' ∧ Chg w w' (fun b => v.ownBlock = some b) ∧ St base w0 h w' (L.set j (row E kd v' (xs ++ ys))) := by
    intro v' w' news hrun helN hown' hg hwhere
    have hown2 : w'.ownsRow 0 E kd.sz v' (xs.length + ys.length) (cs ++ news) := by
      rcases hown' with h1 | h1
      · refine ⟨h1.1, ?_⟩
        rcases h1.2 with h4 | ⟨g, cap, cur, hv, hb, hr⟩
        · exact .inl h4
        · exact .inr ⟨g, cap, cur, hv, Nat.zero_le _, hr⟩
      · exact h1
    have helN' : zbu kd h ys news := helN
    have hlt := hown2.lt
    have S' : St base w0 h w' (L.set j (row E kd v' (xs ++ ys))) := by
      refine S.upd hj fun F hF hFU => ?_
      obtain ⟨cs2, hown3, hel3, hfo⟩ := hF
      have hsame : cs2 = cs := by
        rcases hown3.2 with ⟨hv, h0⟩ | ⟨g, cap, cur, hv, _, hh, _, _, _, htk⟩
        · have e1 : cs2 = [] := List.eq_nil_of_length_eq_zero (by rw [hown3.1, h0]; simp)
          have e2 : cs = [] := List.eq_nil_of_length_eq_zero (by rw [hown.1, h0]; simp)
          rw [e1, e2]
        · rcases hown.2 with ⟨hv', h0'⟩ | ⟨g', cap', cur', hv', _, hh', _, _, _, htk'⟩
          · rw [hv] at hv'; cases hv'
          · rw [hv] at hv'
            injection hv' with e1 _ _
            injection e1 with e1
            injection e1 with e1 _ _
            subst e1
            rw [hh] at hh'
            injection hh' with e2
            injection e2 with e2 _ _
            subst e2
            rw [← htk, ← htk']
      subst hsame
      refine ⟨(grown_chg hg).mono fun b hb => hfo b hb, fun b => v'.ownBlock = some b, ⟨cs2 ++ news, by rw [List.length_append]; exact hown2, hel3.app helN', fun g hg' => hg'⟩, fun b hb => ?_⟩
      rcases hwhere with e | e
      · left; exact hfo b (by rw [← e]; exact hb)
      · right
        have hb2 := (hlt b hb).2
        rw [hb] at e; injection e with e
        omega
    exact ⟨v', w', hrun, grown_chg hg, S'⟩
  rcases hnews with ⟨rfl, rfl⟩ | ⟨ad, news, rfl, helN, hcell⟩
  · exact finish v w [] (run_append_nothing hT hi hown c) (zbu.nil _ _) (.inr (by simpa using hown)) (World.grownBy.refl w _) (.inl rfl)
  · obtain ⟨v', w', hrun, h2, h3, _, h5⟩ := run_append_own_at (P := P) w 0 T ty E ii zv kd.sz b' hT hi hzz hs hby hzs kd.pos v xs.length cs hown ad ys.length c news helN.1 hcell helN.one (by simp only [maxLen]; omega) hbytes (Nat.zero_le _)
    exact finish v' w' news hrun helN (.inr h2) h3 h5
theorem run_slice_hi {T E : TypeId} {A : Option Addr} {len cap : Nat} {q : Int} {kk : IntKind} {m b' : Nat} {gg : Bool} {z : Option Value} (hT : P.underlying T = some (.slice E)) (ht : zbk P E = some (m, b', gg, z))
    (h0 : 0 ≤ q) (h1 : q ≤ cap) : (Instr.sliceAt T (.slice A len cap) none (some (.int kk q)) none).run P w = .ok (.slice (if cap = 0 then A else A.map (·.add 0)) q.toNat cap) w := by
  obtain ⟨ii, d2, hi, hd2, hsz, _, _, _⟩ := zbl ht
  simp [Instr.sliceAt, run_underlying hT, Instr.slice, Instr.sliceBounds, Instr.sliceBound, asIntOf, h0, h1, zc3 hi, go_sem]
theorem e_slice_hi {j : Nat} {v : Value} {T E : TypeId} {q : Int} {kk : IntKind} {m b' : Nat} {gg : Bool} {z : Option Value} (S : St base w0 h w L) (hT : P.underlying T = some (.slice E)) (ht : zbk P E = some (m, b', gg, z))
    (hj : L[j]? = some (row E kd v xs)) (h0 : 0 ≤ q) (h1 : q ≤ (xs.length : Int)) :
    ∃ v', (Instr.sliceAt T v none (some (.int kk q)) none).run P w = .ok v' w ∧ St base w0 h w (L.set j (row E kd v' (xs.take q.toNat))) := by
  obtain ⟨cs, hown, hel⟩ := S.row_at hj
  have hql : (xs.take q.toNat).length = q.toNat := by rw [List.length_take]; omega
  have hcs : (cs.take (q.toNat * kd.sz)).length = q.toNat * kd.sz := by rw [List.length_take, hown.1]; exact Nat.min_eq_left (Nat.mul_le_mul_right _ (by omega))
  have upd_ : ∀ v', (∀ cs, w.ownsRow 0 E kd.sz v xs.length cs → w.ownsRow 0 E kd.sz v' q.toNat (cs.take (q.toNat * kd.sz))) → (∀ g, v'.ownBlock = some g → v.ownBlock = some g) → St base w0 h w (L.set j (row E kd v' (xs.take q.toNat))) := by
    intro v' ho' hb'
    refine S.upd hj fun F hF _ => ?_
    obtain ⟨cs2, h2, h3, h4⟩ := hF
    exact ⟨Chg.refl w _, F, ⟨cs2.take (q.toNat * kd.sz), by rw [hql]; exact ho' cs2 h2, h3.take_ _, fun g hg => h4 g (hb' g hg)⟩, fun b hb => .inl hb⟩
  rcases hown.2 with ⟨hv, hz0⟩ | ⟨g, cap, cur, hv, hb, hh, hl, hc, hsz, htk⟩
  · have hq0 : q.toNat = 0 := by omega
    refine ⟨.slice none q.toNat 0, ?_, upd_ _ (fun cs h2 => ?_) (fun g hg => by simp [Value.ownBlock] at hg)⟩
    · have := run_slice_hi (w := w) (kk := kk) (A := none) (len := 0) (cap := 0) hT ht h0 (by omega)
      rw [hv]; simpa using this
    · rw [hq0]; simp only [Nat.zero_mul, List.take_zero]; exact World.ownsRow_nil _ _ _ _
  · refine ⟨.slice (some ⟨g, 0, none⟩) q.toNat cap, ?_, upd_ _ (fun cs h2 => ?_) (fun g' hg => by rw [hv]; exact hg)⟩
    · have := run_slice_hi (w := w) (kk := kk) (A := some ⟨g, 0, none⟩) (len := xs.length) (cap := cap) hT ht h0 (by omega)
      rw [hv]; simpa [Addr.add] using this
    · refine ⟨by rw [List.length_take, h2.1]; exact Nat.min_eq_left (Nat.mul_le_mul_right _ (by omega)), .inr ⟨g, cap, cur, rfl, hb, hh, by omega, hc, hsz, ?_⟩⟩
      rcases h2.2 with ⟨hv', _⟩ | ⟨g', cap', cur', hv', _, hh', _, _, _, htk'⟩
      · rw [hv] at hv'; cases hv'
      · rw [hv] at hv'
        injection hv' with e1 _ _
        injection e1 with e1
        injection e1 with e1 _ _
        subst e1
        rw [hh] at hh'
        injection hh' with e2
        injection e2 with e2 _ _
        subst e2
        rw [← htk', List.take_take, Nat.min_eq_left (Nat.mul_le_mul_right _ (by omega))]
end
end Gx
namespace Gx
open Go Go.RowKit
set_option linter.unusedSimpArgs false
set_option linter.unusedSectionVars false
set_option linter.unusedVariables false
theorem all_cons {w : World} {i : Nat} {F : Sp} {H : Held} (h : F.1 w) (hs : ∀ p ∈ H, p.2.1 w) : ∀ p ∈ (i, F) :: H, p.2.1 w := fun p hp => by
  rcases List.mem_cons.1 hp with e | e
  · subst e; exact h
  · exact hs p e
section
variable {P : Program} {f n : Nat} {k : List Item} {ρ : Env} {w w' : World} {R : Ending → World → Prop} {ops : Array Oper} {H : Held} {fuel : Nat} {listed : Array Bool}
theorem zby {c : Operand} {x y : Code} {b : Bool} (hc : ev ρ c = .bool (!b)) (ht : b = false → Run P f n (.code x :: k) ρ w R) (hf : b = true → Run P f n (.code y :: k) ρ w R) : Run P f n (.code (.cond c x y) :: k) ρ w R :=
  zbs hc (fun h => ht (by simpa using h)) (fun h => hf (by simpa using h))
theorem wanted_of {op : Op} {dd : Option Tmp} {ty : TypeId} {pos : String} {af : Array Edge} {j d : Nat} {want b r : Bool} {o' : Oper} (ho : ops[j]? = some o') (hd : o'.dst = some d) (hv : ρ d = .bool b) (hr : (some b == some want) = r) : zb0 ρ ops ⟨dd, op, ty, pos, af, some (j, want)⟩ = r := by
  simp only [zb0, ho, Option.bind_some, hd, hv, boolOf]
  exact hr
end
section
variable {P : Program} {ρ : Env} {w w' : World} {d : Option Tmp} {ty : TypeId} {pos : String} {af : Array Edge} {g : Option (Nat × Bool)} {x y : Operand}
variable {base : Nat} {w0 : World} {h : Ghost} {L : List Asrt}
variable {α : Type} [Inhabited α] {kd : Kd α} {xs : List α}
theorem St.le0 (S : St w.heap.size w h w' L) : Le (hp w) (hp w') := Le.below S.below
theorem zb8 {j : Nat} {T : TypeId} {A : Option Addr} {c : Nat} {v : Value} (S : St base w0 h w L) (hj : L[j]? = some (row T kd v xs)) (hv : v = .slice A xs.length c) : zbe kd (hp w) A xs := by
  subst hv
  exact S.row_leads hj
theorem row_one {j : Nat} {T : TypeId} {v : Value} (S : St base w0 h w L) (hj : L[j]? = some (row T kd v xs)) : v.oneCell' = true := by
  obtain ⟨A, c, e, _⟩ := S.row_val hj
  rw [e]; rfl
theorem zco {hn : Ghost} {M : List Asrt} (S : St base w0 h w L) (T : St w.heap.size w hn w' M) : ∃ k, Le h k ∧ Le hn k ∧ St base w0 k w' (L ++ M) :=
  ⟨gor h hn, Le.gor_left _ _, Le.gor_right (fun b o e => by
    cases e2 : hn b with
    | none => rfl
    | some o2 => have := T.dom b o2 e2; have := hp_lt (S.ghost b o e); omega), S.call T⟩
theorem eqIn_bool {a b : Bool} {t : TypeId} (hT : P.underlying t = some .bool) (m : Nat) : (Op.equalIn (m + 1) t (.bool a) (.bool b)).run P w = .ok (a == b) w := by
  rw [Op.equalIn]
  simp only [Sem.run_bind, run_underlying hT, Result.andThen_ok]
  rfl
theorem guard_bool {a b : Bool} {t : TypeId} {o : BinOp} : (eqGuard o t x y (.bool a) (.bool b)).run P w = .ok () w := by
  unfold eqGuard
  cases o <;> rfl
theorem x_neq_bool {a b : Bool} {t t2 : TypeId} (hT : P.underlying t = some .bool) (hx : ev ρ x = .bool a) (hy : ev ρ y = .bool b) : (execOp (ev ρ) ⟨d, .binOp .neq t x y t2, ty, pos, af, g⟩).run P w = .ok (.value (.bool (decide (a ≠ b)))) w := by
  have e : (!(a == b)) = decide (a ≠ b) := by cases a <;> cases b <;> rfl
  have h2 : (binOp .neq t (.bool a) (.bool b)).run P w = .ok (.bool (!(a == b))) w := by
    show ((do pure (.bool (!(← Op.equalIn (9999 + 1) t (.bool a) (.bool b)))) : Sem Value)).run P w = _
    rw [Sem.run_bind, eqIn_bool hT]; rfl
  simp only [execOp, hx, hy, Sem.run_bind, guard_bool, Result.andThen_ok, h2, e]
  rfl
theorem bytes_list (a : ByteArray) : a.toList = a.data.toList := ByteArray.toList_eq a
theorem bytes_eq {a b : ByteArray} : (a.toList == b.toList) = decide (a = b) := by
  rw [bytes_list, bytes_list]
  by_cases h : a = b
  · subst h; simp
  · have : a.data.toList ≠ b.data.toList := fun e => h (by cases a; cases b; congr; exact Array.ext' e)
    rw [decide_eq_false h]
    exact beq_eq_false_iff_ne.mpr this
theorem x_eql_string {a b : ByteArray} {t t2 : TypeId} (hx : ev ρ x = .string a) (hy : ev ρ y = .string b) : (execOp (ev ρ) ⟨d, .binOp .eql t x y t2, ty, pos, af, g⟩).run P w = .ok (.value (.bool (decide (a = b)))) w := by
  rw [← bytes_eq]
  simp [execOp, hx, hy, eqGuard, binOp, Op.stringOp, go_sem]
def byt (s : ByteArray) (i : Int) : Int := ((s.data.toList.getD i.toNat 0).toNat : Nat)
theorem byt_range (s : ByteArray) (i : Int) : 0 ≤ byt s i ∧ byt s i ≤ 255 := by
  unfold byt
  have := (s.data.toList.getD i.toNat 0).toNat_lt
  omega
theorem zdx {T : TypeId} {s : ByteArray} {q : Int} {kk : IntKind} (hT : P.underlying T = some .string) (hx : ev ρ x = .string s) (hy : ev ρ y = .int kk q) (h0 : 0 ≤ q) (h1 : q < (s.size : Int)) :
    (execOp (ev ρ) ⟨d, .index T x y, ty, pos, af, g⟩).run P w = .ok (.value (.int .u8 (byt s q))) w := x_index_string hT hx hy h0 h1
end
end Gx
/-! Short names for what printed walks say often (lay2.py puts them in). -/
open Go Go.RowKit
namespace Gx
theorem bT {p : Prop} [Decidable p] (h : p) : Value.bool (decide p) = Value.bool true := congrArg Value.bool (decide_eq_true h)
theorem bF {p : Prop} [Decidable p] (h : ¬ p) : Value.bool (decide p) = Value.bool false := congrArg Value.bool (decide_eq_false h)
theorem wo {ρ : Env} {ops : Array Oper} {op : Op} {dd : Option Tmp} {ty : TypeId} {pos : String} {af : Array Edge} (j d : Nat) {want b r : Bool} {o' : Oper} (ho : ops[j]? = some o') (hd : o'.dst = some d) (hv : ρ d = .bool b) (hr : (some b == some want) = r) : zb0 ρ ops ⟨dd, op, ty, pos, af, some (j, want)⟩ = r := wanted_of ho hd hv hr
end Gx

namespace Gx
open Go Go.RowKit
set_option linter.unusedSimpArgs false
set_option linter.unusedSectionVars false
set_option linter.unusedVariables false
def zbr (P : Program) (T : TypeId) (q : Nat) : Option (Nat × TypeId) :=
  match P.underlying T with
  | some (.struct fs) => (fs[q]?).map fun f => (f.offset, f.type)
  | _ => none
def placesInfo (P : Program) (T : TypeId) : Option (List (Nat × Nat)) :=
  match P.underlying T with
  | some (.struct fs) => fs.toList.mapM fun f => (P.info? f.type).map fun i => (f.offset, i.size)
  | _ => none
theorem fieldInfo_parts {P : Program} {T : TypeId} {q o : Nat} {ft : TypeId} (h : zbr P T q = some (o, ft)) : ∃ fs fd, P.underlying T = some (.struct fs) ∧ fs[q]? = some fd ∧ fd.offset = o ∧ fd.type = ft := by
  unfold zbr at h
  split at h
  · rename_i fs hu
    cases hq : fs[q]? with
    | none => rw [hq] at h; cases h
    | some fd =>
      rw [hq] at h
      simp only [Option.map_some, Option.some.injEq, Prod.mk.injEq] at h
      exact ⟨fs, fd, hu, hq, h.1, h.2⟩
  · cases h
section
variable {P : Program} {ρ : Env} {w w' : World} {d : Option Tmp} {ty : TypeId} {pos : String} {af : Array Edge} {g : Option (Nat × Bool)} {x y : Operand}
theorem zak {b off q o : Nat} {T ft : TypeId} {m b' : Nat} {gg : Bool} {z : Option Value} (hf : zbr P T q = some (o, ft)) (hs : zbk P ft = some (m, b', gg, z)) (hm : Nat.blt 0 m = true) (hx : ev ρ x = .pointer (some ⟨b, off, none⟩)) :
    (execOp (ev ρ) ⟨d, .fieldAddr T x q, ty, pos, af, g⟩).run P w = .ok (.value (.pointer (some ⟨b, off + o, none⟩))) w := by
  obtain ⟨fs, fd, hu, hq, ho, rfl⟩ := fieldInfo_parts hf
  exact x_fieldAddr hu hq ho hs (by simpa [Nat.blt_eq] using hm) hx
theorem mapM_places {P : Program} {w : World} : ∀ (l : List Field) (ps : List (Nat × Nat)), l.mapM (fun f => (P.info? f.type).map fun i => (f.offset, i.size)) = some ps → (l.mapM fun f => (do pure (f.offset, ← Go.sizeOf f.type) : Sem (Nat × Nat))).run P w = .ok ps w
  | [], ps, h => by
    simp only [List.mapM_nil, Option.pure_def, Option.some.injEq] at h
    subst h
    rfl
  | f :: l, ps, h => by
    rw [List.mapM_cons] at h
    cases hi : P.info? f.type with
    | none => simp [hi] at h
    | some i =>
      cases hl : l.mapM (fun f => (P.info? f.type).map fun i => (f.offset, i.size)) with
      | none => simp [hi, hl] at h
      | some qs =>
        simp [hi, hl] at h
        subst h
        have ih := mapM_places (w := w) l qs hl
        rw [List.mapM_cons]
        simp only [Sem.run_bind, zc3 hi, Result.andThen_ok, Sem.run_pure, ih]
theorem zb4 {T : TypeId} {ps : List (Nat × Nat)} {zc : Array Value} {m b' : Nat} {gg : Bool} {zv : Value} {pv : List (Nat × Value)} {cs : List Value} (hp : placesInfo P T = some ps) (ht : zbk P T = some (m, b', gg, some zv)) (hz : zv.cells = zc)
    (hf : Instr.fill (ps.toArray[·]?) zc pv = some cs.toArray) : (Instr.build T pv.toArray).run P w = .ok (.agg cs.toArray) w := by
  unfold placesInfo at hp
  split at hp
  · rename_i fs hu
    have h1 := mapM_places (w := w) fs.toList ps hp
    have h2 : (fs.mapM fun f => (do pure (f.offset, ← Go.sizeOf f.type) : Sem (Nat × Nat))).run P w = .ok ps.toArray w := by
      rw [Array.mapM_eq_mapM_toList, Sem.run_map]
      show ((fs.toList.mapM fun f => (do pure (f.offset, ← Go.sizeOf f.type) : Sem (Nat × Nat))).run P w).andThen _ = _
      rw [h1]; rfl
    subst hz
    simp only [Instr.build, Sem.run_bind, zcn ht, Result.andThen_ok, run_underlying hu, h2, hf]
    rfl
  · cases hp
end
theorem calls_some {P : Program} {f : FuncId} {args : Array Value} {w : World} {R : Ending → World → Prop} (h : Calls P f args w R) : ∃ e w', R e w' := by
  obtain ⟨e, w', _, hr, _⟩ := h []
  exact ⟨e, w', hr⟩
def LeadsS {α : Type} [Inhabited α] (kd : Kd α) (A : Option Addr) (xs : List α) : Sp := ⟨fun w => zbe kd (hp w) A xs, fun _ _ g h => h.mono (Le.below (Chg.below g))⟩
def Block (b : Nat) (cs : List Value) (w : World) : Prop := ∀ j, j < cs.length → w.cell? ⟨b, j, none⟩ = cs[j]?
theorem Block.gr {b : Nat} {cs : List Value} {w w2 : World} (g : Gr w w2) (h : Block b cs w) : Block b cs w2 := fun j hj => by
  have h1 := h j hj
  rw [List.getElem?_eq_getElem hj] at h1 ⊢
  have hlt := World.block_lt_of_cell? w _ h1
  exact (World.cell?_of_block (w := w) (g.block _ hlt (fun x => x))).trans h1
theorem Block.st {b : Nat} {cs : List Value} {w w2 : World} {h : Ghost} {L : List Asrt} (S : St w.heap.size w h w2 L) (hb : Block b cs w) : Block b cs w2 := hb.gr (Chg.of_below S.below)
section
variable {ops : Array Oper} {H : Held} {i j : Nat} {F : Sp} {w : World}
theorem zck (hw : waits ops j i = true) (h : Keep ops j w H) : Keep ops j w ((i, F) :: H) := ⟨fun e => (by rw [hw] at e; cases e), h⟩
theorem keep_v (hf : F.1 w) (h : Keep ops j w H) : Keep ops j w ((i, F) :: H) := ⟨fun _ => hf, h⟩
end
section
variable {H : Held} {i j : Nat} {F : Sp} {w : World}
theorem za0 (hf : F.1 w) (h : Of H i w) : Of ((j, F) :: H) i w := fun p hp hi => by
  rcases List.mem_cons.1 hp with e | e
  · subst e; exact hf
  · exact h p e hi
theorem zaq (hn : Nat.beq j i = false) (h : Of H i w) : Of ((j, F) :: H) i w := fun p hp hi => by
  rcases List.mem_cons.1 hp with e | e
  · subst e; simp at hi; subst hi; simp at hn
  · exact h p e hi
end
theorem zaf {H : Held} {i : Nat} {w : World} (h : H.all (fun p => !Nat.beq p.1 i) = true) : Of H i w := fun p hp hi => by
  have := List.all_eq_true.1 h p hp
  subst hi
  simp at this
section
variable {P : Program} {f n : Nat} {k : List Item} {ρ : Env} {w : World} {R : Ending → World → Prop} {ops : Array Oper} {i : Nat} {H : Held} {fuel : Nat} {listed : Array Bool}
variable {d : Tmp} {ty : TypeId} {pos : String} {af : Array Edge} {gd : Option (Nat × Bool)} {op : Op} {v : Value} {F : Sp}
def goable (ops : Array Oper) (listed : Array Bool) (i : Nat) : Bool := Region.noSelect ops && (Region.free .any ops listed i && (Region.ready .any ops listed).contains i)
theorem goable_of (h : goable ops listed i = true) : Region.noSelect ops = true ∧ Region.free .any ops listed i = true ∧ (Region.ready .any ops listed).contains i = true := by
  unfold goable at h
  rw [Bool.and_eq_true, Bool.and_eq_true] at h
  exact h
theorem qd0 (ho : ops[i]? = some ⟨some d, op, ty, pos, af, gd⟩) (hz : goable ops listed i = true) (hw : zb0 ρ ops ⟨some d, op, ty, pos, af, gd⟩ = true) (hd : Nat.blt d n = true)
    (hv : ∀ {w : World}, (execOp (ev ρ) ⟨some d, op, ty, pos, af, gd⟩).run P w = .ok (.value v) w) (hnow : Of H i w) (h : RA P f n ops H fuel (listed.setIfInBounds i true) k (upd ρ d v) w R) : RA P f n ops H (fuel + 1) listed k ρ w R :=
  d_q (fun _ => True) (fun _ _ => trivial) ho (goable_of hz).1 (goable_of hz).2.1 (goable_of hz).2.2 hw hd (fun _ _ => hv) hnow h
theorem qd1 (q : Nat) (hq : H[q]? = some (i, F)) (ho : ops[i]? = some ⟨some d, op, ty, pos, af, gd⟩) (hz : goable ops listed i = true) (hw : zb0 ρ ops ⟨some d, op, ty, pos, af, gd⟩ = true) (hd : Nat.blt d n = true)
    (hv : ∀ w, F.1 w → (execOp (ev ρ) ⟨some d, op, ty, pos, af, gd⟩).run P w = .ok (.value v) w) (hnow : Of H i w) (h : RA P f n ops H fuel (listed.setIfInBounds i true) k (upd ρ d v) w R) : RA P f n ops H (fuel + 1) listed k ρ w R :=
  d_q F.1 (fun _ hO => hO _ (List.mem_of_getElem? hq) rfl) ho (goable_of hz).1 (goable_of hz).2.1 (goable_of hz).2.2 hw hd hv hnow h
theorem qdn (F : World → Prop) (hF : ∀ w, Of H i w → F w) (ho : ops[i]? = some ⟨some d, op, ty, pos, af, gd⟩) (hz : goable ops listed i = true) (hw : zb0 ρ ops ⟨some d, op, ty, pos, af, gd⟩ = true) (hd : Nat.blt d n = true)
    (hv : ∀ w, F w → (execOp (ev ρ) ⟨some d, op, ty, pos, af, gd⟩).run P w = .ok (.value v) w) (hnow : Of H i w) (h : RA P f n ops H fuel (listed.setIfInBounds i true) k (upd ρ d v) w R) : RA P f n ops H (fuel + 1) listed k ρ w R :=
  d_q F hF ho (goable_of hz).1 (goable_of hz).2.1 (goable_of hz).2.2 hw hd hv hnow h
end
theorem lAa (a : Asrt) (l r : List Asrt) : (a :: l) ++ r = a :: (l ++ r) := rfl
theorem lAn (r : List Asrt) : [] ++ r = r := rfl
theorem lA0 (a x : Asrt) (l : List Asrt) : (a :: l).set 0 x = x :: l := rfl
theorem lAs (a x : Asrt) (l : List Asrt) (n : Nat) : (a :: l).set (n + 1) x = a :: l.set n x := rfl
theorem St.fx {base : Nat} {w0 w : World} {h : Ghost} {L : List Asrt} (S : St base w0 h w L) (j : Nat) (A : Asrt) (hj : L[j]? = some A) : St base w0 h w (L.set j A) := by
  have e : L.set j A = L := by
    apply List.ext_getElem?
    intro i
    rw [List.getElem?_set]
    by_cases hi : j = i
    · subst hi
      rw [if_pos rfl, hj, if_pos (List.getElem?_eq_some_iff.1 hj).1]
    · rw [if_neg hi]
  rw [e]; exact S
theorem spUp {F : Sp} {w w' : World} (g : Gr w w') (h : F.1 w) : F.1 w' := F.2 _ _ g h
def HA : Held → World → Prop
  | [], _ => True
  | p :: H, w => p.2.1 w ∧ HA H w
theorem hkN {w : World} : HA [] w := trivial
theorem hkC {F : Sp} {H : Held} {w : World} (i : Nat) (h : F.1 w) (t : HA H w) : HA ((i, F) :: H) w := ⟨h, t⟩
section
variable {P : Program} {f n : Nat} {k : List Item} {ρ : Env} {w : World} {R : Ending → World → Prop} {ops : Array Oper} {H X : Held} {fuel : Nat} {listed : Array Bool}
end
end Gx
namespace Gx
open Go Go.RowKit
set_option linter.unusedSimpArgs false
set_option linter.unusedSectionVars false
set_option linter.unusedVariables false
def zbn (k : IntKind) (xs : List Int) : List Value := xs.map fun x => .int k x
def okInts (k : IntKind) (n : Nat) (xs : List Int) : Prop := xs.length = n ∧ ∀ x ∈ xs, inK k x
theorem encInts_one (k : IntKind) (xs : List Int) : ∀ u ∈ zbn k xs, u.oneCell' = true := by simp [zbn, Value.oneCell']
def kInts (k : IntKind) (n : Nat) (h : 0 < n) : Kd (List Int) := .flat (zbn k) (okInts k n) n h (fun x hx => by simp [zbn, hx.1]) (encInts_one k)
section
variable {k : IntKind} {n : Nat} {xs : List Int} {bs : List Bool} {i v : Int}
theorem encInts_len (h : okInts k n xs) : (zbn k xs).length = n := by simp [zbn, h.1]
theorem encInts_full (h : okInts k n xs) : ((zbn k xs).drop 0).take n = zbn k xs := by rw [List.drop_zero, List.take_of_length_le]; rw [encInts_len h]; exact Nat.le_refl _
theorem take1 {α : Type} {l : List α} {i : Nat} {a : α} (h : l[i]? = some a) : (l.drop i).take 1 = [a] := by
  obtain ⟨hi, e⟩ := List.getElem?_eq_some_iff.1 h
  rw [List.drop_eq_getElem_cons hi, e]
  rfl
theorem encInts_at (h : okInts k n xs) (h0 : 0 ≤ i) (h1 : i < (n : Int)) : ((zbn k xs).drop (0 + i.toNat * 1)).take 1 = [.int k (at_ xs i)] := by
  have hl := h.1
  rw [Nat.zero_add, Nat.mul_one]
  refine take1 ?_
  rw [zbn, List.getElem?_map, zdd h0 (by omega)]
  rfl
theorem encInts_get (h : okInts k n xs) (h0 : 0 ≤ i) (h1 : i < (n : Int)) : (zbn k xs)[i.toNat]? = some (.int k (at_ xs i)) := by
  have hl := h.1
  rw [zbn, List.getElem?_map, zdd h0 (by omega)]
  rfl
theorem encInts_put (xs : List Int) (i v : Int) : lput (zbn k xs) (0 + i.toNat * 1) [.int k v] = zbn k (xs.set i.toNat v) := by
  simp [lput, zbn, List.map_set]
theorem okInts_set (h : okInts k n xs) (i : Nat) (hv : inK k v) : okInts k n (xs.set i v) := ⟨by rw [List.length_set]; exact h.1, fun x hx => by
  rcases List.mem_or_eq_of_mem_set hx with e | e
  · exact h.2 x e
  · rw [e]; exact hv⟩
theorem zds (h : okInts k n xs) (h0 : 0 ≤ i) (h1 : i < (n : Int)) : inK k (at_ xs i) := h.2 _ (List.mem_of_getElem? (zdd h0 (by rw [h.1]; exact h1)))
end
abbrev BSet := BitVec 256
def wd (s : BSet) (i : Nat) : Int := ((s.toNat / 2 ^ (64 * i) % 18446744073709551616 : Nat) : Int)
def za6 (s : BSet) : List Int := [wd s 0, wd s 1, wd s 2, wd s 3]
theorem wd_in (s : BSet) (i : Nat) : inK .u64 (wd s i) := by
  unfold wd
  refine zb5 ?_ ?_ <;> omega
theorem zdj (s : BSet) : okInts .u64 4 (za6 s) := ⟨rfl, fun x hx => by simp [za6] at hx; rcases hx with e | e | e | e <;> rw [e] <;> exact wd_in s _⟩
def zau (s : BSet) : List Value := zbn .u64 (za6 s)
theorem encSet_one (s : BSet) : ∀ u ∈ zau s, u.oneCell' = true := encInts_one _ _
def kSet : Kd BSet := .flat zau (fun _ => True) 4 (by omega) (fun _ _ => rfl) encSet_one
def zcl (xs : List Int) : BSet := BitVec.ofNat 256 ((at_ xs 0).toNat + (at_ xs 1).toNat * 18446744073709551616 + (at_ xs 2).toNat * 340282366920938463463374607431768211456 + (at_ xs 3).toNat * 6277101735386680763835789423207666416102355444464034512896)
theorem words_of {xs : List Int} (h : okInts .u64 4 xs) : za6 (zcl xs) = xs := by
  obtain ⟨hl, hr⟩ := h
  match xs, hl with
  | [a, b, c, d], _ =>
    have ha := hr a (by simp); have hb := hr b (by simp); have hc := hr c (by simp); have hd := hr d (by simp)
    have a0 := zch ha; have a1 := zcj ha; have b0 := zch hb; have b1 := zcj hb; have c0 := zch hc; have c1 := zcj hc; have d0 := zch hd; have d1 := zcj hd
    have e0 : at_ [a, b, c, d] 0 = a := rfl
    have e1 : at_ [a, b, c, d] 1 = b := rfl
    have e2 : at_ [a, b, c, d] 2 = c := rfl
    have e3 : at_ [a, b, c, d] 3 = d := rfl
    obtain ⟨a', rfl⟩ := Int.eq_ofNat_of_zero_le a0
    obtain ⟨b', rfl⟩ := Int.eq_ofNat_of_zero_le b0
    obtain ⟨c', rfl⟩ := Int.eq_ofNat_of_zero_le c0
    obtain ⟨d', rfl⟩ := Int.eq_ofNat_of_zero_le d0
    have p : (2 : Nat) ^ 256 = 115792089237316195423570985008687907853269984665640564039457584007913129639936 := by decide
    have hN : (a' + b' * 18446744073709551616 + c' * 340282366920938463463374607431768211456 + d' * 6277101735386680763835789423207666416102355444464034512896) % 2 ^ 256 = a' + b' * 18446744073709551616 + c' * 340282366920938463463374607431768211456 + d' * 6277101735386680763835789423207666416102355444464034512896 := by
      apply Nat.mod_eq_of_lt; rw [p]; omega
    simp only [za6, wd, zcl, e0, e1, e2, e3, BitVec.toNat_ofNat, Int.toNat_natCast, hN, Nat.mul_zero, Nat.mul_one, Nat.reduceMul, Nat.reducePow, Nat.pow_zero, Nat.div_one]
    have q0 : (a' + b' * 18446744073709551616 + c' * 340282366920938463463374607431768211456 + d' * 6277101735386680763835789423207666416102355444464034512896) % 18446744073709551616 = a' := by omega
    have q1 : (a' + b' * 18446744073709551616 + c' * 340282366920938463463374607431768211456 + d' * 6277101735386680763835789423207666416102355444464034512896) / 18446744073709551616 % 18446744073709551616 = b' := by omega
    have q2 : (a' + b' * 18446744073709551616 + c' * 340282366920938463463374607431768211456 + d' * 6277101735386680763835789423207666416102355444464034512896) / 340282366920938463463374607431768211456 % 18446744073709551616 = c' := by omega
    have q3 : (a' + b' * 18446744073709551616 + c' * 340282366920938463463374607431768211456 + d' * 6277101735386680763835789423207666416102355444464034512896) / 6277101735386680763835789423207666416102355444464034512896 % 18446744073709551616 = d' := by omega
    rw [q0, q1, q2, q3]
theorem encSet_of {xs : List Int} (h : okInts .u64 4 xs) : zbn .u64 xs = zau (zcl xs) := by rw [zau, words_of h]
theorem of_words (s : BSet) : zcl (za6 s) = s := by
  apply BitVec.eq_of_toNat_eq
  have hs := s.isLt
  have p : (2 : Nat) ^ 256 = 115792089237316195423570985008687907853269984665640564039457584007913129639936 := by decide
  have e0 : at_ (za6 s) 0 = wd s 0 := rfl
  have e1 : at_ (za6 s) 1 = wd s 1 := rfl
  have e2 : at_ (za6 s) 2 = wd s 2 := rfl
  have e3 : at_ (za6 s) 3 = wd s 3 := rfl
  simp only [zcl, e0, e1, e2, e3, BitVec.toNat_ofNat, wd, Int.toNat_natCast, Nat.mul_zero, Nat.mul_one, Nat.reduceMul, Nat.reducePow, Nat.pow_zero, Nat.div_one]
  rw [p] at hs
  omega
end Gx
namespace Gx
open Go Go.RowKit
set_option linter.unusedSimpArgs false
set_option linter.unusedSectionVars false
set_option linter.unusedVariables false
def iand (a b : Int) : Int := ((a.toNat &&& b.toNat : Nat) : Int)
def ior (a b : Int) : Int := ((a.toNat ||| b.toNat : Nat) : Int)
theorem iand_nonneg (a b : Int) : 0 ≤ iand a b := by unfold iand; omega
theorem iand_le {a b : Int} (h : 0 ≤ a) : iand a b ≤ a := by
  unfold iand
  have := Nat.and_le_left (n := a.toNat) (m := b.toNat)
  omega
theorem iand_le' {a b : Int} (h : 0 ≤ b) : iand a b ≤ b := by
  unfold iand
  have := Nat.and_le_right (n := a.toNat) (m := b.toNat)
  omega
theorem ior_in {a b : Int} (ha : inK .u64 a) (hb : inK .u64 b) : inK .u64 (ior a b) := by
  have a0 := zch ha; have a1 := zcj ha; have b0 := zch hb; have b1 := zcj hb
  have h := Nat.or_lt_two_pow (x := a.toNat) (y := b.toNat) (n := 64) (by omega) (by omega)
  unfold ior
  exact zb5 (by omega) (by omega)
theorem iand_in {a : Int} (b : Int) (ha : inK .u64 a) : inK .u64 (iand a b) := zb5 (iand_nonneg a b) (Int.le_trans (iand_le (zch ha)) (zcj ha))
theorem pow_in {b : Int} (h0 : 0 ≤ b) (h1 : b < 64) : inK .u64 (2 ^ b.toNat) := by
  have h : (2 : Nat) ^ b.toNat < 2 ^ 64 := Nat.pow_lt_pow_right (by omega) (by omega)
  have e : ((2 : Int) ^ b.toNat) = (((2 : Nat) ^ b.toNat : Nat) : Int) := by simp
  rw [e]
  generalize (2 : Nat) ^ b.toNat = z at h
  exact zb5 (by omega) (by omega)
theorem ofInt_toNat {a : Int} (h0 : 0 ≤ a) (h1 : a < 18446744073709551616) : (BitVec.ofInt 64 a).toNat = a.toNat := by
  rw [BitVec.toNat_ofInt]
  omega
section
variable {P : Program} {ρ : Env} {w w' : World} {d : Option Tmp} {ty : TypeId} {pos : String} {af : Array Edge} {g : Option (Nat × Bool)} {x y : Operand}
theorem guard_int {a b : Int} {k k' : IntKind} {t : TypeId} {o : BinOp} : (eqGuard o t x y (.int k a) (.int k' b)).run P w = .ok () w := by
  unfold eqGuard
  cases o <;> rfl
theorem x_and_u64 {a b : Int} {t t2 : TypeId} (hx : ev ρ x = .int .u64 a) (hy : ev ρ y = .int .u64 b) (ha : inK .u64 a) (hb : inK .u64 b) : (execOp (ev ρ) ⟨d, .binOp .and t x y t2, ty, pos, af, g⟩).run P w = .ok (.value (.int .u64 (iand a b))) w := by
  have h1 : (BitVec.ofInt 64 a).toNat = a.toNat := ofInt_toNat (zch ha) (by have := zcj ha; omega)
  have h2 : (BitVec.ofInt 64 b).toNat = b.toNat := ofInt_toNat (zch hb) (by have := zcj hb; omega)
  have h3 : IntKind.u64.wrap ((BitVec.ofInt 64 a &&& BitVec.ofInt 64 b).toNat : Int) = iand a b := by
    rw [BitVec.toNat_and, h1, h2]; exact wrap_in (iand_in b ha)
  simp only [execOp, hx, hy, Sem.run_bind, guard_int, Result.andThen_ok]
  show ((Sem.pure (Value.int .u64 (IntKind.u64.wrap ((BitVec.ofInt 64 a &&& BitVec.ofInt 64 b).toNat : Int)))).run P w).andThen _ = _
  rw [h3]; rfl
theorem x_or_u64 {a b : Int} {t t2 : TypeId} (hx : ev ρ x = .int .u64 a) (hy : ev ρ y = .int .u64 b) (ha : inK .u64 a) (hb : inK .u64 b) : (execOp (ev ρ) ⟨d, .binOp .or t x y t2, ty, pos, af, g⟩).run P w = .ok (.value (.int .u64 (ior a b))) w := by
  have h1 : (BitVec.ofInt 64 a).toNat = a.toNat := ofInt_toNat (zch ha) (by have := zcj ha; omega)
  have h2 : (BitVec.ofInt 64 b).toNat = b.toNat := ofInt_toNat (zch hb) (by have := zcj hb; omega)
  have h3 : IntKind.u64.wrap ((BitVec.ofInt 64 a ||| BitVec.ofInt 64 b).toNat : Int) = ior a b := by
    rw [BitVec.toNat_or, h1, h2]; exact wrap_in (ior_in ha hb)
  simp only [execOp, hx, hy, Sem.run_bind, guard_int, Result.andThen_ok]
  show ((Sem.pure (Value.int .u64 (IntKind.u64.wrap ((BitVec.ofInt 64 a ||| BitVec.ofInt 64 b).toNat : Int)))).run P w).andThen _ = _
  rw [h3]; rfl
theorem x_shl_one {b : Int} {yk : IntKind} {t t2 : TypeId} (hx : ev ρ x = .int .u64 1) (hy : ev ρ y = .int yk b) (h0 : 0 ≤ b) (h1 : b < 64) : (execOp (ev ρ) ⟨d, .binOp .shl t x y t2, ty, pos, af, g⟩).run P w = .ok (.value (.int .u64 (2 ^ b.toNat))) w := by
  have hn : ¬ b < 0 := by omega
  have hm : min b.toNat (IntKind.u64.bits) = b.toNat := by
    have : IntKind.u64.bits = 64 := rfl
    rw [this]; omega
  have hs : (Op.shift .shl .u64 1 yk b).run P w = .ok (.int .u64 (2 ^ b.toNat)) w := by
    unfold Op.shift
    rw [if_neg hn]
    simp only [hm, Int.one_mul]
    rw [wrap_in (pow_in h0 h1)]; rfl
  simp only [execOp, hx, hy, Sem.run_bind, guard_int, Result.andThen_ok]
  show ((Op.shift .shl .u64 1 yk b).run P w).andThen _ = _
  rw [hs]; rfl
theorem x_shr {a b : Int} {k yk : IntKind} {t t2 : TypeId} (hx : ev ρ x = .int k a) (hy : ev ρ y = .int yk b) (h0 : 0 ≤ b) (h1 : b.toNat ≤ k.bits) : (execOp (ev ρ) ⟨d, .binOp .shr t x y t2, ty, pos, af, g⟩).run P w = .ok (.value (.int k (a / 2 ^ b.toNat))) w := by
  have hn : ¬ b < 0 := by omega
  have hm : min b.toNat k.bits = b.toNat := by omega
  have hs : (Op.shift .shr k a yk b).run P w = .ok (.int k (a / 2 ^ b.toNat)) w := by
    unfold Op.shift
    rw [if_neg hn]
    simp only [hm]
    rw [Int.fdiv_eq_ediv_of_nonneg _ (Int.le_of_lt (Int.pow_pos (by omega)))]; rfl
  simp only [execOp, hx, hy, Sem.run_bind, guard_int, Result.andThen_ok]
  show ((Op.shift .shr k a yk b).run P w).andThen _ = _
  rw [hs]; rfl
theorem x_shr_lit {a b q : Int} {k yk : IntKind} {t t2 : TypeId} (hx : ev ρ x = .int k a) (hy : ev ρ y = .int yk b) (h0 : 0 ≤ b) (h1 : b.toNat ≤ k.bits) (hq : (2 : Int) ^ b.toNat = q) : (execOp (ev ρ) ⟨d, .binOp .shr t x y t2, ty, pos, af, g⟩).run P w = .ok (.value (.int k (a / q))) w := by
  subst hq
  exact x_shr hx hy h0 h1
theorem x_and_i64 {a b : Int} {t t2 : TypeId} (hx : ev ρ x = .int .i64 a) (hy : ev ρ y = .int .i64 b) (ha : 0 ≤ a) (ha1 : a ≤ 9223372036854775807) (hb : 0 ≤ b) (hb1 : b ≤ 9223372036854775807) : (execOp (ev ρ) ⟨d, .binOp .and t x y t2, ty, pos, af, g⟩).run P w = .ok (.value (.int .i64 (iand a b))) w := by
  have h1 : (BitVec.ofInt 64 a).toNat = a.toNat := ofInt_toNat ha (by omega)
  have h2 : (BitVec.ofInt 64 b).toNat = b.toNat := ofInt_toNat hb (by omega)
  have h3 : IntKind.i64.wrap ((BitVec.ofInt 64 a &&& BitVec.ofInt 64 b).toNat : Int) = iand a b := by
    rw [BitVec.toNat_and, h1, h2]
    have := iand_nonneg a b
    have := iand_le (b := b) ha
    exact wrap_in (zai (by show _ ≤ iand a b; omega) (by show iand a b ≤ _; omega))
  simp only [execOp, hx, hy, Sem.run_bind, guard_int, Result.andThen_ok]
  show ((Sem.pure (Value.int .i64 (IntKind.i64.wrap ((BitVec.ofInt 64 a &&& BitVec.ofInt 64 b).toNat : Int)))).run P w).andThen _ = _
  rw [h3]; rfl
end
end Gx
namespace Gx
open Go Go.RowKit
set_option linter.unusedSimpArgs false
set_option linter.unusedVariables false
theorem zci {α : Type} {a b : α} {l m : List α} (h : a = b) (k : l = m) : a :: l = b :: m := by rw [h, k]
section
variable {P : Program} {w : World}
theorem run_build_array {T E : TypeId} {n m b' b2 : Nat} {gg g2 : Bool} {z : Option Value} {zv : Value} {pv : List (Nat × Value)} {cs : List Value} (hT : P.underlying T = some (.array n E)) (hE : zbk P E = some (m, b', gg, z)) (ht : zbk P T = some (n * m, b2, g2, some zv))
    (hf : Instr.fill (fun i => some (i * m, m)) zv.cells pv = some cs.toArray) : (Instr.build T pv.toArray).run P w = .ok (.agg cs.toArray) w := by
  obtain ⟨ii, d2, hii, hd2, hsz, _, hg, _⟩ := zbl hE
  simp only [Instr.build, Sem.run_bind, zcn ht, Result.andThen_ok, run_underlying hT, zc3 hii, hsz, hf]
  rfl
end
theorem St.sub {base : Nat} {w0 w : World} {h : Ghost} {L : List Asrt} (S : St base w0 h w L) (is : List Nat) (hnd : is.Nodup) (hlt : (is.all fun i => Nat.blt i L.length) = true) (L' : List Asrt) (hL : L' = is.map fun i => L.getD i emp) : St base w0 h w L' :=
  S.pick is hnd (fun i hi => by have := List.all_eq_true.1 hlt i hi; simpa [Nat.blt_eq] using this) L' hL
section
variable {P : Program} {ρ : Env} {w w' : World} {d : Option Tmp} {ty : TypeId} {pos : String} {af : Array Edge} {g : Option (Nat × Bool)} {x y : Operand}
theorem zbd {fo : Operand} {f : FuncId} {al : Array Operand} {ts : Array TypeId} {cap : Array Value} {args : List Value} (hf : zbi P f)
    (ho : ev ρ fo = .func (.func f) #[] cap) (ha : al.toList.map (ev ρ) ++ cap.toList = args) : (execOp (ev ρ) ⟨d, .call ⟨.value fo, al, ts⟩, ty, pos, af, g⟩).run P w = .ok (.enter f args.toArray) w := by
  refine x_call hf ho ?_
  subst ha
  apply Array.ext'
  simp
theorem y_makeFunc {fn : Fn} {fs cs : Array Operand} {fv cv : List Value} (hf : fs.toList.map (ev ρ) = fv) (hc : cs.toList.map (ev ρ) = cv) : (execOp (ev ρ) ⟨d, .makeFunc fn fs cs, ty, pos, af, g⟩).run P w = .ok (.value (.func fn fv.toArray cv.toArray)) w := by
  refine x_makeFunc ?_ ?_
  · subst hf; apply Array.ext'; simp
  · subst hc; apply Array.ext'; simp
theorem zaw {T : TypeId} {len : Nat} {parts : Array (Nat × Operand)} {pv : List (Nat × Value)} {v : Value} (hp : parts.toList.map (fun p => (p.1, ev ρ p.2)) = pv) (hr : (Instr.buildSlice T len pv.toArray).run P w = .ok v w') : (execOp (ev ρ) ⟨d, .buildSlice T len parts, ty, pos, af, g⟩).run P w = .ok (.value v) w' := by
  refine x_build_slice ?_ hr
  subst hp; apply Array.ext'; simp
theorem y_build {T : TypeId} {parts : Array (Nat × Operand)} {pv : List (Nat × Value)} {v : Value} (hp : parts.toList.map (fun p => (p.1, ev ρ p.2)) = pv) (hr : (Instr.build T pv.toArray).run P w = .ok v w) : (execOp (ev ρ) ⟨d, .build T parts, ty, pos, af, g⟩).run P w = .ok (.value v) w := by
  refine x_build ?_ hr
  subst hp; apply Array.ext'; simp
end
section
variable {P : Program} {f n : Nat} {k : List Item} {ρ : Env} {w : World} {R : Ending → World → Prop} {ops : Array Oper}
theorem da_start {id : Nat} (H : Held) (m : Nat) (hn : ops.size = m) (hm : P.follows .mixedOrders = true) (h : ∀ w', Chg w w' (fun _ => False) → w'.heap = w.heap → RA P f n ops H m (Array.replicate m false) k ρ w' R) : Run P f n (.code (.region id ops true) :: k) ρ w R := by
  subst hn
  exact ra_start H hm h
theorem daS {id : Nat} {H : Held} (_ : HA H w) (m : Nat) (hn : ops.size = m) (hm : P.follows .mixedOrders = true) (h : ∀ w', Chg w w' (fun _ => False) → w'.heap = w.heap → RA P f n ops H m (Array.replicate m false) k ρ w' R) : Run P f n (.code (.region id ops true) :: k) ρ w R := da_start H m hn hm h
end
structure Spot where
  set : BSet
  tag : Int
deriving DecidableEq
instance : Inhabited Spot := ⟨⟨0, 0⟩⟩
def za4 (s : Spot) : List Value := [.int .u64 (wd s.set 0), .int .u64 (wd s.set 1), .int .u64 (wd s.set 2), .int .u64 (wd s.set 3), .int .u8 s.tag]
theorem encSpot_one (s : Spot) : ∀ u ∈ za4 s, u.oneCell' = true := by simp [za4, Value.oneCell']
def okSpot (s : Spot) : Prop := inK .u8 s.tag
def kSpot : Kd Spot := .flat za4 okSpot 5 (by omega) (fun _ _ => rfl) encSpot_one
structure Mach where
  spots : List Spot
  first : List Int
  follow : List (List Int)
  last : List Bool
  empty : Bool
instance : Inhabited Mach := ⟨⟨[], [], [], [], false⟩⟩
theorem zcb : ∀ v ∈ ([] : List Value), v.cells = #[v] := fun v hv => by cases hv
theorem zbm {v : Value} {vs : List Value} (h : v.cells = #[v]) (hs : ∀ v ∈ vs, v.cells = #[v]) : ∀ u ∈ v :: vs, u.cells = #[u] := fun u hu => by
  rcases List.mem_cons.1 hu with e | e
  · rw [e]; exact h
  · exact hs u e
def num : Nat → List Value → List (Nat × Value)
  | _, [] => []
  | k, v :: vs => (k, v) :: num (k + 1) vs
theorem fill_num : ∀ (vs : List Value) (k : Nat) (cs : List Value), (∀ v ∈ vs, v.cells = #[v]) → k + vs.length ≤ cs.length → Instr.fill (fun i => some (i * 1, 1)) cs.toArray (num k vs) = some (cs.take k ++ vs ++ cs.drop (k + vs.length)).toArray
  | [], k, cs, _, _ => by simp [num, Instr.fill]
  | v :: vs, k, cs, h1, h2 => by
    have hv := h1 v (by simp)
    simp only [List.length_cons] at h2
    have hns : ¬ (v.cells.size ≠ 1 ∨ k * 1 + v.cells.size > cs.length) := by rw [hv]; simp; omega
    simp only [num, Instr.fill]
    rw [if_neg (by simpa using hns)]
    have e : (v.cells.zipIdx.foldl (fun cs (c, j) => cs.setIfInBounds (k * 1 + j) c) cs.toArray) = (cs.set k v).toArray := by
      rw [hv]; simp
    rw [e, fill_num vs (k + 1) (cs.set k v) (fun u hu => h1 u (by simp [hu])) (by simp; omega)]
    congr 2
    rw [List.take_succ_eq_append_getElem (by simp; omega)]
    simp only [List.getElem_set_self, List.take_set_of_le (Nat.le_refl k), List.drop_set, List.length_cons, List.append_assoc, List.cons_append, List.nil_append]
    rw [if_pos (by omega), show k + 1 + vs.length = k + (vs.length + 1) by omega]
theorem fill_ones (vs : List Value) (z : Value) {zc : Array Value} (hz : zc = #[z]) (h1 : ∀ v ∈ vs, v.cells = #[v]) : Instr.fill (fun i => some (i * 1, 1)) ((Array.range (vs.length * 1)).map (zc[· % zc.size]!)) (num 0 vs) = some vs.toArray := by
  have e : ((Array.range (vs.length * 1)).map (zc[· % zc.size]!)) = (((Array.range (vs.length * 1)).map (zc[· % zc.size]!)).toList).toArray := rfl
  rw [e, fill_num vs 0 _ h1 (by simp)]
  simp
section
variable {P : Program} {w : World} {base : Nat} {w0 : World} {h : Ghost} {L : List Asrt} {α : Type} [Inhabited α] {kd : Kd α} {xs : List α}
theorem zbb {T E : TypeId} {b' len : Nat} {gg : Bool} {zv : Value} (vs : List Value) (S : St base w0 h w L) (hT : P.underlying T = some (.slice E)) (ht : zbk P E = some (1, b', gg, some zv)) (hm : kd.sz = 1) (hz : zv.cells = #[zv]) (hlen : xs.length = len) (hl2 : vs.length = len) (hsmall : Nat.ble (len * 1) 100000 = true)
    (h1 : ∀ v ∈ vs, v.cells = #[v]) (cs : List Value) (hel : zbu kd h xs cs) (hcs : cs = vs) :
    ∃ v w', (Instr.buildSlice T len (num 0 vs).toArray).run P w = .ok v w' ∧ Chg w w' (fun _ => False) ∧ St base w0 h w' (L ++ [row E kd v xs]) := by
  subst hl2
  subst hcs
  cases cs with
  | nil => exact e_build (cs := []) (zc := #[]) S hT ht hm hlen hsmall rfl (by simp [num, Instr.fill]) hel
  | cons v vs =>
    refine e_build S hT ht hm hlen hsmall (zc := #[zv]) ?_ (fill_ones (v :: vs) zv rfl h1) hel
    rw [if_neg (by simp), hz]
end
section
variable {P : Program} {ρ : Env} {w w' : World} {d : Option Tmp} {ty : TypeId} {pos : String} {af : Array Edge} {g : Option (Nat × Bool)} {x y : Operand}
end
theorem fold_lput (off : Nat) : ∀ (seg : List Value) (n : Nat) (cs : List Value), (seg.zipIdx n).foldl (fun (cs : Array Value) (p : Value × Nat) => cs.setIfInBounds (off + p.2) p.1) cs.toArray = (lput cs (off + n) seg).toArray
  | [], n, cs => rfl
  | v :: seg, n, cs => by
    simp only [List.zipIdx_cons, List.foldl_cons, lput]
    have e : cs.toArray.setIfInBounds (off + n) v = (cs.set (off + n) v).toArray := by simp
    rw [e, fold_lput off seg (n + 1)]
    rfl
theorem fill_segs (m : Nat) : ∀ (vs : List (Value × List Value)) (k : Nat) (cs : List Value), (∀ p ∈ vs, p.1.cells = p.2.toArray ∧ p.2.length = m) → (k + vs.length) * m ≤ cs.length →
    Instr.fill (fun i => some (i * m, m)) cs.toArray (num k (vs.map (·.1))) = some (cs.take (k * m) ++ vs.flatMap (·.2) ++ cs.drop ((k + vs.length) * m)).toArray
  | [], k, cs, _, _ => by simp [num, Instr.fill]
  | p :: vs, k, cs, h1, h2 => by
    obtain ⟨hv, hl⟩ := h1 p (by simp)
    simp only [List.length_cons] at h2
    have hkm : k * m + m ≤ cs.length := by
      have : (k + 1) * m ≤ (k + (vs.length + 1)) * m := Nat.mul_le_mul_right m (by omega)
      rw [Nat.add_mul, Nat.one_mul] at this
      omega
    have hns : ¬ (p.1.cells.size ≠ m ∨ k * m + p.1.cells.size > cs.length) := by rw [hv]; simp [hl]; omega
    simp only [List.map_cons, num, Instr.fill]
    rw [if_neg (by simpa using hns)]
    have e : (p.1.cells.zipIdx.foldl (fun cs (c, j) => cs.setIfInBounds (k * m + j) c) cs.toArray) = (lput cs (k * m) p.2).toArray := by
      rw [hv, ← Array.foldl_toList]
      have := fold_lput (k * m) p.2 0 cs
      rw [Nat.add_zero] at this
      simpa using this
    have hll : (lput cs (k * m) p.2).length = cs.length := lput_length _ _ _
    rw [e, fill_segs m vs (k + 1) _ (fun q hq => h1 q (by simp [hq])) (by rw [hll]; rw [show k + 1 + vs.length = k + (vs.length + 1) by omega]; exact h2)]
    congr 2
    rw [lput_eq p.2 cs (k * m) (by omega), hl]
    have e1 : (k + 1) * m = k * m + m := by rw [Nat.add_mul, Nat.one_mul]
    have hlk : (cs.take (k * m)).length = k * m := by rw [List.length_take]; omega
    have e2 : k + 1 + vs.length = k + (vs.length + 1) := by omega
    rw [e1, e2, List.flatMap_cons, List.length_cons]
    have t1 : (cs.take (k * m) ++ p.2 ++ cs.drop (k * m + m)).take (k * m + m) = cs.take (k * m) ++ p.2 := by
      rw [List.take_append_of_le_length (by rw [List.length_append, hlk, hl]; exact Nat.le_refl _), List.take_of_length_le (by rw [List.length_append, hlk, hl]; exact Nat.le_refl _)]
    have hge : k * m + m ≤ (k + (vs.length + 1)) * m := by rw [← e1]; exact Nat.mul_le_mul_right m (by omega)
    have t2 : (cs.take (k * m) ++ p.2 ++ cs.drop (k * m + m)).drop ((k + (vs.length + 1)) * m) = cs.drop ((k + (vs.length + 1)) * m) := by
      rw [List.drop_append, List.length_append, hlk, hl, List.drop_of_length_le (by rw [List.length_append, hlk, hl]; exact hge), List.nil_append, List.drop_drop]
      congr 1; omega
    rw [t1, t2]
    simp only [List.append_assoc]
section
variable {P : Program} {w : World} {base : Nat} {w0 : World} {h : Ghost} {L : List Asrt} {α : Type} [Inhabited α] {kd : Kd α} {xs : List α}
theorem e_build_segs {T E : TypeId} {m b' len : Nat} {gg : Bool} {zv : Value} (vs : List (Value × List Value)) (S : St base w0 h w L) (hT : P.underlying T = some (.slice E)) (ht : zbk P E = some (m, b', gg, some zv)) (hm : kd.sz = m) (hlen : xs.length = len) (hl2 : vs.length = len) (hsmall : Nat.ble (len * m) 100000 = true)
    (h1 : ∀ p ∈ vs, p.1.cells = p.2.toArray ∧ p.2.length = m) {cs : List Value} (hel : zbu kd h xs cs) (hcs : cs = vs.flatMap (·.2)) :
    ∃ v w', (Instr.buildSlice T len (num 0 (vs.map (·.1))).toArray).run P w = .ok v w' ∧ Chg w w' (fun _ => False) ∧ St base w0 h w' (L ++ [row E kd v xs]) := by
  subst hl2
  subst hcs
  refine e_build S hT ht hm hlen hsmall rfl ?_ hel
  have e : ∀ (z : Array Value) (n : Nat), ((Array.range n).map (z[· % z.size]!)) = (((Array.range n).map (z[· % z.size]!)).toList).toArray := fun _ _ => rfl
  rw [e, fill_segs m vs 0 _ h1 (by simp)]
  simp
theorem segs_nil {m : Nat} : ∀ p ∈ ([] : List (Value × List Value)), p.1.cells = p.2.toArray ∧ p.2.length = m := fun p hp => by cases hp
theorem segs_cons {m : Nat} {v : Value} {c : List Value} {vs : List (Value × List Value)} (h : v.cells = c.toArray) (hl : c.length = m) (hs : ∀ p ∈ vs, p.1.cells = p.2.toArray ∧ p.2.length = m) : ∀ p ∈ (v, c) :: vs, p.1.cells = p.2.toArray ∧ p.2.length = m := fun p hp => by
  rcases List.mem_cons.1 hp with e | e
  · subst e; exact ⟨h, hl⟩
  · exact hs p e
end
end Gx
namespace Go.Proofs.Ytpdanfggijmnmaa
open Go Gx
theorem zdt : Try.prog.follows .mixedOrders = true := by kernel_rfl
theorem ty3 : zbk Try.prog 3 = some (1, 8, false, some (.int .i64 0)) := by kernel_rfl
theorem ty4 : zbk Try.prog 4 = some (1, 1, false, some (.bool false)) := by kernel_rfl
theorem ty5 : zbk Try.prog 5 = some (1, 1, false, some (.int .u8 0)) := by kernel_rfl
theorem ty9 : zbk Try.prog 9 = some (1, 16, false, some (.string ⟨#[]⟩)) := by kernel_rfl
theorem ty22 : zbk Try.prog 22 = some (1, 24, false, some (.slice none 0 0)) := by kernel_rfl
theorem ty23 : zbk Try.prog 23 = some (1, 24, false, some (.slice none 0 0)) := by kernel_rfl
theorem ty24 : zbk Try.prog 24 = some (1, 24, false, some (.slice none 0 0)) := by kernel_rfl
theorem ty25 : zbk Try.prog 25 = some (1, 24, false, some (.slice none 0 0)) := by kernel_rfl
theorem ty27 : zbk Try.prog 27 = some (5, 104, true, some (.agg #[.slice none 0 0, .slice none 0 0, .slice none 0 0, .slice none 0 0, .bool false])) := by kernel_rfl
theorem ty35 : zbk Try.prog 35 = some (3, 40, true, some (.agg #[.bool false, .string ⟨#[]⟩, .string ⟨#[]⟩])) := by kernel_rfl
theorem ty39 : zbk Try.prog 39 = some (1, 8, false, some (.int .u64 0)) := by kernel_rfl
theorem ty41 : zbk Try.prog 41 = some (4, 32, true, some (.agg #[.int .u64 0, .int .u64 0, .int .u64 0, .int .u64 0])) := by kernel_rfl
theorem ty43 : zbk Try.prog 43 = some (5, 40, true, some (.agg #[.int .u64 0, .int .u64 0, .int .u64 0, .int .u64 0, .int .u8 0])) := by kernel_rfl
theorem ty50 : zbk Try.prog 50 = some (1, 24, false, some (.slice none 0 0)) := by kernel_rfl
theorem ty55 : zbk Try.prog 55 = some (1, 8, false, some (.map none)) := by kernel_rfl
theorem ty56 : zbk Try.prog 56 = some (1, 24, false, some (.slice none 0 0)) := by kernel_rfl
theorem ty58 : zbk Try.prog 58 = some (7, 136, true, some (.agg #[.slice none 0 0, .slice none 0 0, .slice none 0 0, .slice none 0 0, .bool false, .slice none 0 0, .map none])) := by kernel_rfl
theorem ty60 : zbk Try.prog 60 = some (2, 16, true, some (.agg #[.int .i64 0, .int .i64 0])) := by kernel_rfl
theorem u3 : Try.prog.underlying 3 = some (.int .i64) := by kernel_rfl
theorem u4 : Try.prog.underlying 4 = some (.bool) := by kernel_rfl
theorem u5 : Try.prog.underlying 5 = some (.int .u8) := by kernel_rfl
theorem u9 : Try.prog.underlying 9 = some (.string) := by kernel_rfl
theorem u22 : Try.prog.underlying 22 = some (.slice 43) := by kernel_rfl
theorem u23 : Try.prog.underlying 23 = some (.slice 3) := by kernel_rfl
theorem u24 : Try.prog.underlying 24 = some (.slice 23) := by kernel_rfl
theorem u25 : Try.prog.underlying 25 = some (.slice 4) := by kernel_rfl
theorem u30 : Try.prog.underlying 30 = some (.slice 5) := by kernel_rfl
theorem u39 : Try.prog.underlying 39 = some (.int .u64) := by kernel_rfl
theorem u41 : Try.prog.underlying 41 = some (.array 4 39) := by kernel_rfl
theorem u50 : Try.prog.underlying 50 = some (.slice 25) := by kernel_rfl
theorem u55 : Try.prog.underlying 55 = some (.map 60 3) := by kernel_rfl
theorem u56 : Try.prog.underlying 56 = some (.slice 60) := by kernel_rfl
theorem u60 : Try.prog.underlying 60 = some (.array 2 3) := by kernel_rfl
theorem u73 : Try.prog.underlying 73 = some (.map 60 56) := by kernel_rfl
theorem zda : zbr Try.prog 27 0 = some (0, 22) := by kernel_rfl
theorem fd27_1 : zbr Try.prog 27 1 = some (1, 23) := by kernel_rfl
theorem fd27_2 : zbr Try.prog 27 2 = some (2, 24) := by kernel_rfl
theorem fd27_3 : zbr Try.prog 27 3 = some (3, 25) := by kernel_rfl
theorem fd27_4 : zbr Try.prog 27 4 = some (4, 4) := by kernel_rfl
theorem fd43_0 : zbr Try.prog 43 0 = some (0, 41) := by kernel_rfl
theorem fd43_1 : zbr Try.prog 43 1 = some (4, 5) := by kernel_rfl
theorem fd58_0 : zbr Try.prog 58 0 = some (0, 27) := by kernel_rfl
theorem fd58_1 : zbr Try.prog 58 1 = some (5, 56) := by kernel_rfl
theorem fd58_2 : zbr Try.prog 58 2 = some (6, 55) := by kernel_rfl
theorem pl27 : placesInfo Try.prog 27 = some [(0, 1), (1, 1), (2, 1), (3, 1), (4, 1)] := by kernel_rfl
theorem pl35 : placesInfo Try.prog 35 = some [(0, 1), (1, 1), (2, 1)] := by kernel_rfl
theorem pl43 : placesInfo Try.prog 43 = some [(0, 4), (4, 1)] := by kernel_rfl
theorem pl58 : placesInfo Try.prog 58 = some [(0, 5), (5, 1), (6, 1)] := by kernel_rfl
theorem q35 : Try.prog.eqGuardType Try.prog.depth 35 = false := by kernel_rfl
theorem ca10 : zbi Try.prog 10 := ⟨Try.f10, Try.func10, rfl, by decide⟩
theorem ca11 : zbi Try.prog 11 := ⟨Try.f11, Try.func11, rfl, by decide⟩
theorem ca14 : zbi Try.prog 14 := ⟨Try.f14, Try.func14, rfl, by decide⟩
theorem ca16 : zbi Try.prog 16 := ⟨Try.f16, Try.func16, rfl, by decide⟩
theorem ca17 : zbi Try.prog 17 := ⟨Try.f17, Try.func17, rfl, by decide⟩
theorem ca19 : zbi Try.prog 19 := ⟨Try.f19, Try.func19, rfl, by decide⟩
theorem ca20 : zbi Try.prog 20 := ⟨Try.f20, Try.func20, rfl, by decide⟩
theorem ca21 : zbi Try.prog 21 := ⟨Try.f21, Try.func21, rfl, by decide⟩
theorem ca22 : zbi Try.prog 22 := ⟨Try.f22, Try.func22, rfl, by decide⟩
theorem ca24 : zbi Try.prog 24 := ⟨Try.f24, Try.func24, rfl, by decide⟩
theorem ca25 : zbi Try.prog 25 := ⟨Try.f25, Try.func25, rfl, by decide⟩
theorem ca26 : zbi Try.prog 26 := ⟨Try.f26, Try.func26, rfl, by decide⟩
theorem ca27 : zbi Try.prog 27 := ⟨Try.f27, Try.func27, rfl, by decide⟩
theorem ca30 : zbi Try.prog 30 := ⟨Try.f30, Try.func30, rfl, by decide⟩
theorem ca31 : zbi Try.prog 31 := ⟨Try.f31, Try.func31, rfl, by decide⟩
theorem ca36 : zbi Try.prog 36 := ⟨Try.f36, Try.func36, rfl, by decide⟩
theorem ca37 : zbi Try.prog 37 := ⟨Try.f37, Try.func37, rfl, by decide⟩
theorem ca38 : zbi Try.prog 38 := ⟨Try.f38, Try.func38, rfl, by decide⟩
theorem ca39 : zbi Try.prog 39 := ⟨Try.f39, Try.func39, rfl, by decide⟩
theorem ca40 : zbi Try.prog 40 := ⟨Try.f40, Try.func40, rfl, by decide⟩
theorem ca41 : zbi Try.prog 41 := ⟨Try.f41, Try.func41, rfl, by decide⟩
theorem ca44 : zbi Try.prog 44 := ⟨Try.f44, Try.func44, rfl, by decide⟩
theorem ca45 : zbi Try.prog 45 := ⟨Try.f45, Try.func45, rfl, by decide⟩
theorem ca46 : zbi Try.prog 46 := ⟨Try.f46, Try.func46, rfl, by decide⟩
theorem ca47 : zbi Try.prog 47 := ⟨Try.f47, Try.func47, rfl, by decide⟩
theorem ca48 : zbi Try.prog 48 := ⟨Try.f48, Try.func48, rfl, by decide⟩
theorem ca50 : zbi Try.prog 50 := ⟨Try.f50, Try.func50, rfl, by decide⟩
theorem ca53 : zbi Try.prog 53 := ⟨Try.f53, Try.func53, rfl, by decide⟩
theorem ca54 : zbi Try.prog 54 := ⟨Try.f54, Try.func54, rfl, by decide⟩
theorem ca57 : zbi Try.prog 57 := ⟨Try.f57, Try.func57, rfl, by decide⟩
end Go.Proofs.Ytpdanfggijmnmaa
namespace Gx
open Go Go.RowKit
set_option linter.unusedSimpArgs false
set_option linter.unusedVariables false
def bitAt (ws : List Int) (i : Nat) : Bool := (at_ ws ((i / 64 : Nat) : Int)).toNat.testBit (i % 64)
theorem at_words (s : BSet) {k : Nat} (hk : k < 4) : at_ (za6 s) (k : Int) = wd s k := by
  match k, hk with
  | 0, _ => rfl
  | 1, _ => rfl
  | 2, _ => rfl
  | 3, _ => rfl
theorem wd_bit (s : BSet) (k : Nat) {j : Nat} (hj : j < 64) : (wd s k).toNat.testBit j = s.getLsbD (64 * k + j) := by
  unfold wd
  rw [Int.toNat_natCast]
  have e : (18446744073709551616 : Nat) = 2 ^ 64 := by decide
  rw [e, Nat.testBit_mod_two_pow, Nat.testBit_div_two_pow]
  simp only [hj, decide_true, Bool.true_and]
  rw [BitVec.testBit_toNat]
  congr 1
  omega
theorem bit_words (s : BSet) {i : Nat} (hi : i < 256) : bitAt (za6 s) i = s.getLsbD i := by
  unfold bitAt
  rw [at_words s (by omega), wd_bit s _ (by omega)]
  congr 1; omega
theorem bit_of {ws : List Int} (h : okInts .u64 4 ws) {i : Nat} (hi : i < 256) : (zcl ws).getLsbD i = bitAt ws i := by
  rw [← bit_words _ hi, words_of h]
theorem set_ext {a b : BSet} (h : ∀ i, i < 256 → a.getLsbD i = b.getLsbD i) : a = b := BitVec.eq_of_getLsbD_eq h
theorem of_ext {ws : List Int} (h : okInts .u64 4 ws) {s : BSet} (hb : ∀ i, i < 256 → bitAt ws i = s.getLsbD i) : zcl ws = s := set_ext fun i hi => by rw [bit_of h hi, hb i hi]
theorem words_ext {ws : List Int} (h : okInts .u64 4 ws) {s : BSet} (hb : ∀ i, i < 256 → bitAt ws i = s.getLsbD i) : ws = za6 s := by rw [← of_ext h hb, words_of h]
theorem at_set {α : Type} [Inhabited α] {xs : List α} {i j : Int} {v : α} (hi : 0 ≤ i) (hi' : i < (xs.length : Int)) (hj : 0 ≤ j) : at_ (xs.set i.toNat v) j = if j = i then v else at_ xs j := by
  unfold at_
  rw [List.getD_eq_getElem?_getD, List.getD_eq_getElem?_getD, List.getElem?_set]
  by_cases h : j = i
  · subst h; rw [if_pos rfl, if_pos rfl, if_pos (by omega)]; rfl
  · rw [if_neg (by omega), if_neg h]
theorem iand_bit (a b : Int) (j : Nat) : (iand a b).toNat.testBit j = (a.toNat.testBit j && b.toNat.testBit j) := by
  unfold iand; rw [Int.toNat_natCast, Nat.testBit_and]
theorem ior_bit (a b : Int) (j : Nat) : (ior a b).toNat.testBit j = (a.toNat.testBit j || b.toNat.testBit j) := by
  unfold ior; rw [Int.toNat_natCast, Nat.testBit_or]
theorem pow_bit (k j : Nat) : ((2 : Int) ^ k).toNat.testBit j = decide (k = j) := by
  have e : ((2 : Int) ^ k).toNat = 2 ^ k := by
    have : ((2 : Int) ^ k) = (((2 : Nat) ^ k : Nat) : Int) := by simp
    rw [this, Int.toNat_natCast]
  rw [e, Nat.testBit_two_pow]
def has (s : BSet) (c : Int) : Bool := s.getLsbD c.toNat
theorem iand_pow_ne {a : Int} (ha : 0 ≤ a) (k : Nat) : decide (iand a (2 ^ k) ≠ 0) = a.toNat.testBit k := by
  have e : ((2 : Int) ^ k).toNat = 2 ^ k := by
    have : ((2 : Int) ^ k) = (((2 : Nat) ^ k : Nat) : Int) := by simp
    rw [this, Int.toNat_natCast]
  unfold iand
  rw [e]
  cases hb : a.toNat.testBit k
  · have : a.toNat &&& 2 ^ k = 0 := by
      apply Nat.eq_of_testBit_eq
      intro i
      rw [Nat.testBit_and, Nat.testBit_two_pow, Nat.zero_testBit]
      by_cases h : k = i
      · subst h; simp [hb]
      · simp [h]
    rw [this]; rfl
  · have : (a.toNat &&& 2 ^ k).testBit k = true := by rw [Nat.testBit_and, Nat.testBit_two_pow]; simp [hb]
    have h0 : a.toNat &&& 2 ^ k ≠ 0 := fun h => by rw [h, Nat.zero_testBit] at this; cases this
    exact decide_eq_true (by omega)
theorem has_eq (s : BSet) {c : Int} (h0 : 0 ≤ c) (h1 : c ≤ 255) : decide (iand (at_ (za6 s) (c / 64)) (2 ^ (c % 64).toNat) ≠ 0) = has s c := by
  obtain ⟨n, rfl⟩ := Int.eq_ofNat_of_zero_le h0
  have e1 : ((n : Int) / 64) = ((n / 64 : Nat) : Int) := by omega
  have e2 : ((n : Int) % 64).toNat = n % 64 := by omega
  rw [e1, e2, at_words s (by omega), iand_pow_ne (zch (wd_in s _)), wd_bit s _ (by omega)]
  unfold has
  congr 1; omega
def ofPred (p : Nat → Bool) : BSet := (List.range 256).foldl (fun s i => if p i then s ||| BitVec.twoPow 256 i else s) 0
theorem fold_bit (p : Nat → Bool) (i : Nat) (hi : i < 256) : ∀ (l : List Nat) (s : BSet), (l.foldl (fun s i => if p i then s ||| BitVec.twoPow 256 i else s) s).getLsbD i = (s.getLsbD i || (decide (i ∈ l) && p i))
  | [], s => by simp
  | j :: l, s => by
    rw [List.foldl_cons, fold_bit p i hi l]
    by_cases hj : p j
    · rw [if_pos hj, BitVec.getLsbD_or, BitVec.getLsbD_twoPow]
      by_cases e : j = i
      · subst e; simp [hj, hi]
      · have e' : ¬ i = j := fun x => e x.symm
        simp [e, e']
    · rw [if_neg hj]
      by_cases e : i = j
      · subst e; simp [hj]
      · simp [e]
theorem pred_bit (p : Nat → Bool) {i : Nat} (hi : i < 256) : (ofPred p).getLsbD i = p i := by
  unfold ofPred
  rw [fold_bit p i hi]
  simp [hi]
theorem ofPred_congr {p q : Nat → Bool} (h : ∀ i, i < 256 → p i = q i) : ofPred p = ofPred q := set_ext fun i hi => by rw [pred_bit _ hi, pred_bit _ hi, h i hi]
def zb6 (bs : List Int) : BSet := ofPred fun i => decide ((i : Int) ∈ bs)
def zipTo (f : Int → Int → Int) (xs ys : List Int) (k : Int) : List Int := List.zipWith f (xs.take k.toNat) ys ++ xs.drop k.toNat
theorem zipTo_0 (f : Int → Int → Int) (xs ys : List Int) : xs = zipTo f xs ys 0 := by simp [zipTo]
theorem zipTo_get (f : Int → Int → Int) (xs ys : List Int) (hl : xs.length = ys.length) {k : Int} (h0 : 0 ≤ k) {j : Nat} (hj : j < xs.length) : (zipTo f xs ys k)[j]? = some (if (j : Int) < k then f (at_ xs (j : Int)) (at_ ys (j : Int)) else at_ xs (j : Int)) := by
  have ex := zdd (xs := xs) (i := (j : Int)) (by omega) (by omega)
  have ey := zdd (xs := ys) (i := (j : Int)) (by omega) (by omega)
  rw [Int.toNat_natCast] at ex ey
  unfold zipTo
  rw [List.getElem?_append]
  simp only [List.length_zipWith, List.length_take]
  by_cases h : (j : Int) < k
  · rw [if_pos h, if_pos (by omega), List.getElem?_zipWith, List.getElem?_take, if_pos (by omega), ex, ey]
  · rw [if_neg h, if_neg (by omega), List.getElem?_drop, ← ex]
    congr 1; omega
theorem zipTo_len (f : Int → Int → Int) (xs ys : List Int) (hl : xs.length = ys.length) (k : Int) : (zipTo f xs ys k).length = xs.length := by
  simp [zipTo]; omega
theorem at_zipTo (f : Int → Int → Int) (xs ys : List Int) (hl : xs.length = ys.length) {k : Int} (h0 : 0 ≤ k) {j : Int} (hj : 0 ≤ j) (hj1 : j < (xs.length : Int)) : at_ (zipTo f xs ys k) j = if j < k then f (at_ xs j) (at_ ys j) else at_ xs j := by
  obtain ⟨n, rfl⟩ := Int.eq_ofNat_of_zero_le hj
  have := zipTo_get f xs ys hl h0 (j := n) (by omega)
  show (zipTo f xs ys k).getD (n : Int).toNat default = _
  rw [List.getD_eq_getElem?_getD, Int.toNat_natCast, this]; rfl
theorem zipTo_step (f : Int → Int → Int) (xs ys : List Int) (hl : xs.length = ys.length) {k : Int} (h0 : 0 ≤ k) (h1 : k < (xs.length : Int)) : (zipTo f xs ys k).set k.toNat (f (at_ (zipTo f xs ys k) k) (at_ ys k)) = zipTo f xs ys (k + 1) := by
  rw [at_zipTo f xs ys hl h0 h0 h1, if_neg (by omega)]
  apply List.ext_getElem?
  intro j
  rw [List.getElem?_set, zipTo_len f xs ys hl]
  by_cases hjl : j < xs.length
  · rw [zipTo_get f xs ys hl h0 hjl, zipTo_get f xs ys hl (by omega) hjl]
    by_cases hj : k.toNat = j
    · subst hj
      rw [if_pos rfl, if_pos (by omega), if_pos (by omega)]
      rw [show ((k.toNat : Nat) : Int) = k by omega]
    · rw [if_neg hj]
      by_cases h2 : (j : Int) < k
      · rw [if_pos h2, if_pos (by omega)]
      · rw [if_neg h2, if_neg (by omega)]
  · rw [if_neg (by omega), List.getElem?_eq_none (by rw [zipTo_len f xs ys hl]; omega), List.getElem?_eq_none (by rw [zipTo_len f xs ys hl]; omega)]
theorem zip_words (f : Int → Int → Int) (g : Bool → Bool → Bool) (hf : ∀ a b, inK .u64 a → inK .u64 b → inK .u64 (f a b)) (hb : ∀ a b j, (f a b).toNat.testBit j = g (a.toNat.testBit j) (b.toNat.testBit j)) (a b : BSet) {c : BSet} (hc : ∀ i, i < 256 → c.getLsbD i = g (a.getLsbD i) (b.getLsbD i)) : zcl (zipTo f (za6 a) (za6 b) 4) = c := by
  have hat : ∀ i, i < 4 → at_ (zipTo f (za6 a) (za6 b) 4) (i : Nat) = f (at_ (za6 a) (i : Nat)) (at_ (za6 b) (i : Nat)) := fun i hi => by
    rw [at_zipTo f (za6 a) (za6 b) rfl (by omega) (by omega) (by simp [za6]; omega), if_pos (by omega)]
  have hok : okInts .u64 4 (zipTo f (za6 a) (za6 b) 4) := ⟨rfl, fun x hx => by
    obtain ⟨i, hi, rfl⟩ := List.mem_iff_getElem.1 hx
    have hi4 : i < 4 := hi
    have h1 := zipTo_get f (za6 a) (za6 b) rfl (k := 4) (by omega) (j := i) hi4
    rw [List.getElem?_eq_getElem hi] at h1
    injection h1 with h1
    rw [h1, if_pos (by omega)]
    exact hf _ _ (zds (zdj a) (by omega) (by omega)) (zds (zdj b) (by omega) (by omega))⟩
  refine of_ext hok fun i hi => ?_
  unfold bitAt
  rw [hat _ (by omega), hb]
  show g (bitAt (za6 a) i) (bitAt (za6 b) i) = _
  rw [bit_words a hi, bit_words b hi, hc i hi]
theorem and_words (a b : BSet) : zcl (zipTo iand (za6 a) (za6 b) 4) = a &&& b :=
  zip_words iand and (fun a b ha _ => iand_in b ha) iand_bit a b fun i _ => BitVec.getLsbD_and ..
theorem put_words (p : Nat → Bool) {c : Int} (h0 : 0 ≤ c) (h1 : c ≤ 255) : (za6 (ofPred p)).set (c / 64).toNat (ior (at_ (za6 (ofPred p)) (c / 64)) (2 ^ (c % 64).toNat)) = za6 (ofPred fun i => p i || decide ((i : Int) = c)) := by
  have hin : inK .u64 (ior (at_ (za6 (ofPred p)) (c / 64)) (2 ^ (c % 64).toNat)) := ior_in (zds (zdj _) (by omega) (by omega)) (pow_in (by omega) (by omega))
  refine words_ext (okInts_set (zdj _) _ hin) fun i hi => ?_
  rw [pred_bit _ hi]
  unfold bitAt
  rw [at_set (by omega) (by simp [za6]; omega) (by omega)]
  by_cases h : ((i / 64 : Nat) : Int) = c / 64
  · rw [if_pos h, ior_bit, pow_bit, ← h]
    show (bitAt (za6 (ofPred p)) i || _) = _
    rw [bit_words _ hi, pred_bit _ hi]
    congr 1
    exact decide_eq_decide.2 (by omega)
  · rw [if_neg h]
    show bitAt (za6 (ofPred p)) i = _
    rw [bit_words _ hi, pred_bit _ hi, decide_eq_false (by omega), Bool.or_false]
theorem set_nil : za6 (zb6 []) = za6 0 := by
  have : zb6 [] = 0 := set_ext fun i hi => by unfold zb6; rw [pred_bit _ hi]; simp
  rw [this]
theorem setOf_step (bs : List Int) {t : Int} (h0 : 0 ≤ t) (h1 : t < (bs.length : Int)) (hc0 : 0 ≤ at_ bs t) (hc1 : at_ bs t ≤ 255) :
    (za6 (zb6 (bs.take t.toNat))).set (at_ bs t / 64).toNat (ior (at_ (za6 (zb6 (bs.take t.toNat))) (at_ bs t / 64)) (2 ^ (at_ bs t % 64).toNat)) = za6 (zb6 (bs.take (t + 1).toNat)) := by
  unfold zb6
  rw [put_words _ hc0 hc1]
  congr 1
  refine ofPred_congr fun i hi => ?_
  have e : bs.take (t + 1).toNat = bs.take t.toNat ++ [at_ bs t] := by
    rw [show (t + 1).toNat = t.toNat + 1 by omega, List.take_add_one, zdd h0 h1]; rfl
  rw [e]
  simp only [List.mem_append, List.mem_singleton]
  rw [Bool.eq_iff_iff]; simp
theorem at_set_self {α : Type} [Inhabited α] {xs : List α} {i : Int} {v : α} (h0 : 0 ≤ i) (h1 : i < (xs.length : Int)) : at_ (xs.set i.toNat v) i = v := by rw [at_set h0 h1 h0, if_pos rfl]
end Gx
namespace Gx
open Go Go.RowKit
set_option linter.unusedSimpArgs false
set_option linter.unusedVariables false
def elemsTo (s : BSet) (n : Nat) : List Nat := (List.range n).filter fun i => s.getLsbD i
def elems (s : BSet) : List Nat := elemsTo s 256
def ints (l : List Nat) : List Int := l.map fun (i : Nat) => ((i : Nat) : Int)
def listOf (s : BSet) : List Int := ints (elems s)
def zd0 (s : BSet) : Int := ((elems s).length : Nat)
def someIn (s : BSet) : Bool := !(elems s).isEmpty
def first (s : BSet) : Int := ((elems s).head?.getD 0 : Nat)
def wbits (x : Nat) : List Nat := (List.range 64).filter fun i => x.testBit i
theorem range_add (a b : Nat) : List.range (a + b) = List.range a ++ (List.range b).map (a + ·) := by
  induction b with
  | zero => simp
  | succ b ih => rw [← Nat.add_assoc, List.range_succ, ih, List.range_succ]; simp
theorem elemsTo_word (s : BSet) (k : Nat) : elemsTo s (64 * (k + 1)) = elemsTo s (64 * k) ++ (wbits (wd s k).toNat).map (64 * k + ·) := by
  unfold elemsTo wbits
  rw [Nat.mul_add, Nat.mul_one, range_add, List.filter_append, List.filter_map]
  congr 2
  apply List.filter_congr
  intro j hj
  rw [wd_bit s k (by simpa using hj)]; rfl
def cnt (s : BSet) (t : Int) : Int := ((elemsTo s (64 * t.toNat)).length : Nat)
theorem cnt_0 (s : BSet) : cnt s 0 = 0 := rfl
theorem cnt_4 (s : BSet) : cnt s 4 = zd0 s := rfl
theorem cnt_step (s : BSet) {t : Int} (h0 : 0 ≤ t) (h1 : t < 4) : cnt s t + ((wbits (at_ (za6 s) t).toNat).length : Nat) = cnt s (t + 1) := by
  obtain ⟨k, rfl⟩ := Int.eq_ofNat_of_zero_le h0
  unfold cnt
  rw [show ((k : Int) + 1).toNat = k + 1 by omega, Int.toNat_natCast, elemsTo_word, at_words s (by omega)]
  simp
theorem elemsTo_le (s : BSet) (n : Nat) : (elemsTo s n).length ≤ n := by
  have := List.length_filter_le (fun i => s.getLsbD i) (List.range n)
  simpa [elemsTo] using this
theorem cnt_le (s : BSet) {t : Int} (h : t ≤ 4) : 0 ≤ cnt s t ∧ cnt s t ≤ 256 := by
  unfold cnt
  have := elemsTo_le s (64 * t.toNat)
  omega
theorem count_le (s : BSet) : 0 ≤ zd0 s ∧ zd0 s ≤ 256 := cnt_4 s ▸ cnt_le s (by omega)
theorem half_step (x : Int) (k : Int) (h : 0 ≤ k) : x / 2 ^ k.toNat / 2 = x / 2 ^ (k + 1).toNat := by
  rw [show (k + 1).toNat = k.toNat + 1 by omega, Int.pow_succ, Int.ediv_ediv_of_nonneg (Int.le_of_lt (Int.pow_pos (by omega)))]
end Gx
namespace Gx
open Go Go.RowKit
set_option linter.unusedSimpArgs false
set_option linter.unusedVariables false
def sw1 (x : Int) : Int := iand (x / 2) 6148914691236517205 + iand x 6148914691236517205
def sw2 (y : Int) : Int := iand (y / 4) 3689348814741910323 + iand y 3689348814741910323
def sw3 (z : Int) : Int := iand (z / 16 + z) 1085102592571150095
def sw4 (u : Int) : Int := u + u / 256
def sw5 (u : Int) : Int := u + u / 65536
def sw6 (u : Int) : Int := iand (u + u / 4294967296) 127
def pop (x : Int) : Int := sw6 (sw5 (sw4 (sw3 (sw2 (sw1 x)))))
def rep8 (k : Nat) : Nat → Nat
  | 0 => 0
  | n + 1 => k + 256 * rep8 k n
def map8 (f : Nat → Nat) : Nat → Nat → Nat
  | 0, _ => 0
  | n + 1, x => f (x % 256) + 256 * map8 f n (x / 256)
theorem and_byte (u v k m : Nat) (hu : u < 256) (hk : k < 256) : (u + 256 * v) &&& (k + 256 * m) = (u &&& k) + 256 * (v &&& m) := by
  have e : (256 : Nat) = 2 ^ 8 := rfl
  have h1 : u &&& k < 256 := Nat.lt_of_le_of_lt Nat.and_le_left hu
  rw [Nat.add_comm u, Nat.add_comm k, Nat.add_comm (u &&& k), e]
  apply Nat.eq_of_testBit_eq
  intro i
  rw [Nat.testBit_and, Nat.testBit_two_pow_mul_add _ (by omega), Nat.testBit_two_pow_mul_add _ (by omega), Nat.testBit_two_pow_mul_add _ (by omega)]
  by_cases h : i < 8
  · simp [h]
  · simp [h]
def f1 (b : Nat) : Nat := ((b / 2) &&& 85) + (b &&& 85)
def f2 (b : Nat) : Nat := ((b / 4) &&& 51) + (b &&& 51)
def f3 (b : Nat) : Nat := (b + b / 16) &&& 15
theorem f1_shift : ∀ b, b < 256 → ∀ e, e < 2 → (b / 2 + 128 * e) &&& 85 = (b / 2) &&& 85 := by decide +kernel
theorem f2_shift : ∀ b, b < 256 → ∀ e, e < 4 → (b / 4 + 64 * e) &&& 51 = (b / 4) &&& 51 := by decide +kernel
theorem step1 : ∀ n x, ((x / 2) &&& rep8 85 n) + (x &&& rep8 85 n) = map8 f1 n x
  | 0, x => by simp [rep8, map8]
  | n + 1, x => by
    have e1 : x / 2 = (x % 256 / 2 + 128 * (x / 256 % 2)) + 256 * (x / 256 / 2) := by omega
    have e2 : x &&& rep8 85 (n + 1) = (x % 256 &&& 85) + 256 * (x / 256 &&& rep8 85 n) := by
      have : x = x % 256 + 256 * (x / 256) := by omega
      rw [rep8]; conv => lhs; rw [this]
      exact and_byte _ _ _ _ (by omega) (by omega)
    rw [e2, e1, rep8, and_byte _ _ _ _ (by omega) (by omega), f1_shift _ (by omega) _ (by omega), map8, ← step1 n (x / 256), f1]
    omega
theorem step2 : ∀ n x, ((x / 4) &&& rep8 51 n) + (x &&& rep8 51 n) = map8 f2 n x
  | 0, x => by simp [rep8, map8]
  | n + 1, x => by
    have e1 : x / 4 = (x % 256 / 4 + 64 * (x / 256 % 4)) + 256 * (x / 256 / 4) := by omega
    have e2 : x &&& rep8 51 (n + 1) = (x % 256 &&& 51) + 256 * (x / 256 &&& rep8 51 n) := by
      have : x = x % 256 + 256 * (x / 256) := by omega
      rw [rep8]; conv => lhs; rw [this]
      exact and_byte _ _ _ _ (by omega) (by omega)
    rw [e2, e1, rep8, and_byte _ _ _ _ (by omega) (by omega), f2_shift _ (by omega) _ (by omega), map8, ← step2 n (x / 256), f2]
    omega
def nib : Nat → Nat → Prop
  | 0, x => x = 0
  | n + 1, x => x % 16 ≤ 4 ∧ x % 256 / 16 ≤ 4 ∧ nib n (x / 256)
theorem nib_low : ∀ n x, nib n x → x % 16 ≤ 4
  | 0, x, h => by have : x = 0 := h; omega
  | n + 1, x, h => h.1
theorem f3_shift : ∀ b, b < 256 → b % 16 ≤ 4 → b / 16 ≤ 4 → ∀ e, e < 5 → (b + b / 16 + 16 * e) &&& 15 = (b + b / 16) &&& 15 := by decide +kernel
theorem step3 : ∀ n x, nib n x → ((x / 16 + x) &&& rep8 15 n) = map8 f3 n x
  | 0, x, _ => by simp [rep8, map8]
  | n + 1, x, h => by
    have hl := nib_low n _ h.2.2
    have h1 := h.1; have h2 := h.2.1
    have e1 : x / 16 + x = (x % 256 + x % 256 / 16 + 16 * (x / 256 % 16)) + 256 * (x / 256 / 16 + x / 256) := by omega
    rw [e1, rep8, and_byte _ _ _ _ (by omega) (by omega), f3_shift _ (by omega) (by omega) (by omega) _ (by omega), map8, step3 n _ h.2.2, f3]
theorem map8_comp (f g : Nat → Nat) (hf : ∀ b, b < 256 → f b < 256) : ∀ n x, map8 g n (map8 f n x) = map8 (fun b => g (f b)) n x
  | 0, _ => rfl
  | n + 1, x => by
    have h := hf (x % 256) (by omega)
    simp only [map8]
    have e1 : (f (x % 256) + 256 * map8 f n (x / 256)) % 256 = f (x % 256) := by omega
    have e2 : (f (x % 256) + 256 * map8 f n (x / 256)) / 256 = map8 f n (x / 256) := by omega
    rw [e1, e2, map8_comp f g hf n]
theorem f1_lt : ∀ b, b < 256 → f1 b < 256 := by decide +kernel
theorem f21_lt : ∀ b, b < 256 → f2 (f1 b) < 256 := by decide +kernel
theorem f21_nib : ∀ b, b < 256 → f2 (f1 b) % 16 ≤ 4 ∧ f2 (f1 b) / 16 ≤ 4 := by decide +kernel
theorem nib21 : ∀ n x, nib n (map8 (fun b => f2 (f1 b)) n x)
  | 0, _ => rfl
  | n + 1, x => by
    have h := f21_nib (x % 256) (by omega)
    have hlt := f21_lt (x % 256) (by omega)
    simp only [map8]
    generalize f2 (f1 (x % 256)) = z at h hlt
    refine ⟨by omega, by omega, ?_⟩
    have e : (z + 256 * map8 (fun b => f2 (f1 b)) n (x / 256)) / 256 = map8 (fun b => f2 (f1 b)) n (x / 256) := by omega
    rw [e]
    exact nib21 n _
def bcount (b : Nat) : Nat := ((List.range 8).filter fun i => b.testBit i).length
theorem f321 : ∀ b, b < 256 → f3 (f2 (f1 b)) = bcount b := by decide +kernel
theorem bcount_le (b : Nat) : bcount b ≤ 8 := by
  have := List.length_filter_le (fun i => b.testBit i) (List.range 8)
  simpa [bcount] using this
theorem map8_congr {f g : Nat → Nat} (h : ∀ b, b < 256 → f b = g b) : ∀ n x, map8 f n x = map8 g n x
  | 0, _ => rfl
  | n + 1, x => by simp only [map8]; rw [h _ (by omega), map8_congr h n]
theorem swar (x : Nat) : ((let y := ((x / 2) &&& rep8 85 8) + (x &&& rep8 85 8); let z := ((y / 4) &&& rep8 51 8) + (y &&& rep8 51 8); (z / 16 + z) &&& rep8 15 8) : Nat) = map8 bcount 8 x := by
  simp only
  rw [step1, step2, map8_comp f1 f2 f1_lt, step3 _ _ (nib21 8 x), map8_comp (fun b => f2 (f1 b)) f3 f21_lt]
  exact map8_congr f321 8 x
def bits8 (n x : Nat) : Nat := ((List.range (8 * n)).filter fun i => x.testBit i).length
theorem zdz (n x : Nat) : bits8 (n + 1) x = bcount (x % 256) + bits8 n (x / 256) := by
  unfold bits8 bcount
  rw [show 8 * (n + 1) = 8 + 8 * n by omega, range_add, List.filter_append, List.filter_map, List.length_append, List.length_map]
  have e : (256 : Nat) = 2 ^ 8 := rfl
  congr 2
  · apply List.filter_congr
    intro i hi
    have : i < 8 := by simpa using hi
    rw [e, Nat.testBit_mod_two_pow]; simp [this]
  · apply List.filter_congr
    intro i hi
    rw [e, Nat.testBit_div_two_pow]
    simp only [Function.comp_def]
    rw [Nat.add_comm]
theorem sum_law (c0 c1 c2 c3 c4 c5 c6 c7 : Nat) (h0 : c0 ≤ 8) (h1 : c1 ≤ 8) (h2 : c2 ≤ 8) (h3 : c3 ≤ 8) (h4 : c4 ≤ 8) (h5 : c5 ≤ 8) (h6 : c6 ≤ 8) (h7 : c7 ≤ 8) (u a b : Nat)
    (hu : u = c0 + 256 * (c1 + 256 * (c2 + 256 * (c3 + 256 * (c4 + 256 * (c5 + 256 * (c6 + 256 * c7))))))) (ha : a = u + u / 256) (hb : b = a + a / 65536) : (b + b / 4294967296) % 128 = c0 + (c1 + (c2 + (c3 + (c4 + (c5 + (c6 + c7)))))) := by
  have e1 : u / 256 = c1 + 256 * (c2 + 256 * (c3 + 256 * (c4 + 256 * (c5 + 256 * (c6 + 256 * c7))))) := by omega
  rw [e1] at ha
  have ha' : a = (c0 + c1) + 256 * ((c1 + c2) + 256 * ((c2 + c3) + 256 * ((c3 + c4) + 256 * ((c4 + c5) + 256 * ((c5 + c6) + 256 * ((c6 + c7) + 256 * c7)))))) := by omega
  have e2 : a / 65536 = (c2 + c3) + 256 * ((c3 + c4) + 256 * ((c4 + c5) + 256 * ((c5 + c6) + 256 * ((c6 + c7) + 256 * c7)))) := by omega
  rw [e2] at hb
  clear ha e1 e2 hu
  have hb' : b = (c0 + c1 + c2 + c3) + 256 * ((c1 + c2 + c3 + c4) + 256 * ((c2 + c3 + c4 + c5) + 256 * ((c3 + c4 + c5 + c6) + 256 * ((c4 + c5 + c6 + c7) + 256 * ((c5 + c6 + c7) + 256 * ((c6 + c7) + 256 * c7)))))) := by omega
  clear hb ha'
  have e3 : b / 4294967296 = (c4 + c5 + c6 + c7) + 256 * ((c5 + c6 + c7) + 256 * ((c6 + c7) + 256 * c7)) := by omega
  rw [e3]
  omega
theorem map8_8 (f : Nat → Nat) (x : Nat) : map8 f 8 x = f (x % 256) + 256 * (f (x / 256 % 256) + 256 * (f (x / 256 / 256 % 256) + 256 * (f (x / 256 / 256 / 256 % 256) + 256 * (f (x / 256 / 256 / 256 / 256 % 256) + 256 * (f (x / 256 / 256 / 256 / 256 / 256 % 256) + 256 * (f (x / 256 / 256 / 256 / 256 / 256 / 256 % 256) + 256 * f (x / 256 / 256 / 256 / 256 / 256 / 256 / 256 % 256))))))) := by
  simp only [map8, Nat.mul_zero, Nat.add_zero]
theorem bits8_0 (x : Nat) : bits8 0 x = 0 := rfl
theorem bits8_8 (x : Nat) : bits8 8 x = bcount (x % 256) + (bcount (x / 256 % 256) + (bcount (x / 256 / 256 % 256) + (bcount (x / 256 / 256 / 256 % 256) + (bcount (x / 256 / 256 / 256 / 256 % 256) + (bcount (x / 256 / 256 / 256 / 256 / 256 % 256) + (bcount (x / 256 / 256 / 256 / 256 / 256 / 256 % 256) + bcount (x / 256 / 256 / 256 / 256 / 256 / 256 / 256 % 256))))))) := by
  rw [zdz 7, zdz 6, zdz 5, zdz 4, zdz 3, zdz 2, zdz 1, zdz 0, bits8_0, Nat.add_zero]
theorem sum8 (x u a b : Nat) (hu : u = map8 bcount 8 x) (ha : a = u + u / 256) (hb : b = a + a / 65536) : (b + b / 4294967296) % 128 = bits8 8 x := by
  rw [bits8_8]
  rw [map8_8] at hu
  exact sum_law _ _ _ _ _ _ _ _ (bcount_le _) (bcount_le _) (bcount_le _) (bcount_le _) (bcount_le _) (bcount_le _) (bcount_le _) (bcount_le _) u a b hu ha hb
theorem pop_eq {x : Int} (h0 : 0 ≤ x) : pop x = ((wbits x.toNat).length : Nat) := by
  obtain ⟨n, rfl⟩ := Int.eq_ofNat_of_zero_le h0
  have r1 : (6148914691236517205 : Int).toNat = rep8 85 8 := by decide
  have r2 : (3689348814741910323 : Int).toNat = rep8 51 8 := by decide
  have r3 : (1085102592571150095 : Int).toNat = rep8 15 8 := by decide
  have r4 : (127 : Int).toNat = 2 ^ 7 - 1 := by decide
  have d : ∀ (a k : Nat), ((a : Int) / (k : Int)).toNat = a / k := fun a k => by rw [← Int.natCast_ediv, Int.toNat_natCast]
  have e1 : sw1 (n : Int) = ((((n / 2) &&& rep8 85 8) + (n &&& rep8 85 8) : Nat) : Int) := by
    unfold sw1 iand; rw [r1, Int.toNat_natCast, show ((n : Int) / 2).toNat = n / 2 from d n 2, Int.natCast_add]
  have e2 : ∀ n : Nat, sw2 (n : Int) = ((((n / 4) &&& rep8 51 8) + (n &&& rep8 51 8) : Nat) : Int) := fun n => by
    unfold sw2 iand; rw [r2, Int.toNat_natCast, show ((n : Int) / 4).toNat = n / 4 from d n 4, Int.natCast_add]
  have e3 : ∀ n : Nat, sw3 (n : Int) = (((n / 16 + n) &&& rep8 15 8 : Nat) : Int) := fun n => by
    unfold sw3 iand; rw [r3, show ((n : Int) / 16 + n).toNat = n / 16 + n by omega]
  have e4 : ∀ n : Nat, sw4 (n : Int) = ((n + n / 256 : Nat) : Int) := fun n => by unfold sw4; omega
  have e5 : ∀ n : Nat, sw5 (n : Int) = ((n + n / 65536 : Nat) : Int) := fun n => by unfold sw5; omega
  have e6 : ∀ n : Nat, sw6 (n : Int) = (((n + n / 4294967296) % 128 : Nat) : Int) := fun n => by
    unfold sw6 iand; rw [r4, show ((n : Int) + (n : Int) / 4294967296).toNat = n + n / 4294967296 by omega, Nat.and_two_pow_sub_one_eq_mod]
  unfold pop
  rw [e1, e2, e3, e4, e5, e6, Int.toNat_natCast]
  have h1 := swar n
  simp only at h1
  rw [h1]
  rw [sum8 n _ _ _ rfl rfl rfl]
  rfl
theorem wbits_le (x : Nat) : (wbits x).length ≤ 64 := by
  have := List.length_filter_le (fun i => x.testBit i) (List.range 64)
  simpa [wbits] using this
end Gx
namespace Gx
open Go Go.RowKit
set_option linter.unusedSimpArgs false
set_option linter.unusedVariables false
theorem zdq {α : Type} [Inhabited α] (bs : List α) {t : Int} (h0 : 0 ≤ t) (h1 : t < (bs.length : Int)) : bs.take (t + 1).toNat = bs.take t.toNat ++ [at_ bs t] := by
  rw [show (t + 1).toNat = t.toNat + 1 by omega, List.take_add_one, zdd h0 h1]; rfl
theorem at_map_range {α : Type} [Inhabited α] (f : Nat → α) (n : Nat) {i : Int} (h0 : 0 ≤ i) (h1 : i < (n : Int)) : at_ ((List.range n).map f) i = f i.toNat := by
  unfold at_
  rw [List.getD_eq_getElem?_getD, List.getElem?_map, List.getElem?_range (by omega)]; rfl
theorem list_ext {α : Type} [Inhabited α] {a b : List α} {n : Nat} (ha : a.length = n) (hb : b.length = n) (h : ∀ k : Int, 0 ≤ k → k < (n : Int) → at_ a k = at_ b k) : a = b := by
  apply List.ext_getElem?
  intro j
  by_cases hj : j < n
  · have h1 := zdd (xs := a) (i := ((j : Nat) : Int)) (by omega) (by omega)
    have h2 := zdd (xs := b) (i := ((j : Nat) : Int)) (by omega) (by omega)
    rw [Int.toNat_natCast] at h1 h2
    rw [h1, h2, h _ (by omega) (by omega)]
  · rw [List.getElem?_eq_none (by omega), List.getElem?_eq_none (by omega)]
theorem some_count (s : BSet) : someIn s = decide (0 < zd0 s) := by
  unfold someIn zd0
  cases elems s with
  | nil => rfl
  | cons a l => simp
theorem list_len (s : BSet) : ((listOf s).length : Int) = zd0 s := by simp [listOf, ints, zd0]
theorem has_and (a b : BSet) (x : Int) : has (a &&& b) x = (has a x && has b x) := by unfold has; exact BitVec.getLsbD_and ..
end Gx
namespace Gx
open Go Go.RowKit
set_option linter.unusedSimpArgs false
set_option linter.unusedSectionVars false
set_option linter.unusedVariables false
section
variable {α β : Type}
def zc8 (ke : α → Value) (ve : β → Value) (kvs : List (α × β)) : List (Value × Value) := kvs.map fun p => (ke p.1, ve p.2)
def Born (es : Array MapEntry) (clock : Nat) : Prop := (∀ x ∈ es.toList, x.born < clock) ∧ (es.toList.map (·.born)).Nodup
def amap (ke : α → Value) (ve : β → Value) (b : Nat) (kvs : List (α × β)) : Asrt where
  holds := fun _ w F => (∃ es clock, w.heap[b]? = some (.map es clock) ∧ es.toList.map (fun e => (e.key, e.val)) = zc8 ke ve kvs ∧ Born es clock) ∧ F b
  mono := fun _ h => h
  far := fun hf h => ⟨by rw [hf b h.2]; exact h.1, h.2⟩
variable [DecidableEq α]
def zbz (k : α) : List (α × β) → Nat → Option (Nat × β)
  | [], _ => none
  | p :: r, i => if k = p.1 then some (i, p.2) else zbz k r (i + 1)
def zbc (k : α) (kvs : List (α × β)) : Option β := (zbz k kvs 0).map (·.2)
def zcz (k : α) (v : β) (kvs : List (α × β)) : List (α × β) := match zbz k kvs 0 with
  | some (i, _) => kvs.set i (k, v)
  | none => kvs ++ [(k, v)]
structure KeyK (P : Program) (kt : TypeId) (ke : α → Value) : Prop where
  eq : ∀ a b w, (Op.equal kt (ke a) (ke b)).run P w = .ok (decide (a = b)) w
  chk : ∀ a e w, (Instr.checkKey e 10000 kt (ke a)).run P w = .ok () w
  now : ∃ d, P.underlying kt = some d ∧ ((∀ a b, Instr.sameNow d (ke a) (ke b) = none) ∨ (∀ a b, Instr.sameNow d (ke a) (ke b) = some (decide (a = b))))
  same : ∀ a, Instr.sameBits 10000 (ke a) (ke a) = true
variable {P : Program} {kt : TypeId} {ke : α → Value} {ve : β → Value} {w : World}
def put2 (ve : β → Value) (o : Option (Nat × β)) : Option (Nat × Value) := o.map fun p => (p.1, ve p.2)
theorem run_asking (K : KeyK P kt ke) (k : α) : ∀ (es : List MapEntry) (kvs : List (α × β)) (i : Nat), es.map (fun e => (e.key, e.val)) = zc8 ke ve kvs → (Instr.findAsking kt (ke k) es i).run P w = .ok (put2 ve (zbz k kvs i)) w
  | [], [], i, _ => rfl
  | e :: es, p :: kvs, i, h => by
    simp only [zc8, List.map_cons, List.cons.injEq, Prod.mk.injEq] at h
    obtain ⟨⟨h1, h2⟩, h3⟩ := h
    simp only [Instr.findAsking, Sem.run_bind, h1, K.eq, Result.andThen_ok]
    by_cases hk : k = p.1
    · simp [hk, zbz, put2, h2, Sem.run_pure]
    · simp only [hk, decide_false, Bool.false_eq_true, if_false, zbz]
      exact run_asking K k es kvs (i + 1) h3
  | [], _ :: _, _, h => by simp [zc8] at h
  | _ :: _, [], _, h => by simp [zc8] at h
theorem findNow_true (k : α) {d : TypeDesc} (hs : ∀ a b, Instr.sameNow d (ke a) (ke b) = some (decide (a = b))) : ∀ (es : List MapEntry) (kvs : List (α × β)) (i : Nat), es.map (fun e => (e.key, e.val)) = zc8 ke ve kvs → Instr.findNow d (ke k) es i = some (put2 ve (zbz k kvs i))
  | [], [], i, _ => rfl
  | e :: es, p :: kvs, i, h => by
    simp only [zc8, List.map_cons, List.cons.injEq, Prod.mk.injEq] at h
    obtain ⟨⟨h1, h2⟩, h3⟩ := h
    simp only [Instr.findNow, h1, hs]
    by_cases hk : k = p.1
    · simp [hk, zbz, put2, h2]
    · simp only [hk, decide_false, zbz, if_false]
      exact findNow_true k hs es kvs (i + 1) h3
  | [], _ :: _, _, h => by simp [zc8] at h
  | _ :: _, [], _, h => by simp [zc8] at h
theorem run_findKey (K : KeyK P kt ke) (k : α) {es : List MapEntry} {kvs : List (α × β)} (h : es.map (fun e => (e.key, e.val)) = zc8 ke ve kvs) : (Instr.findKey kt (ke k) es).run P w = .ok (put2 ve (zbz k kvs 0)) w := by
  obtain ⟨d, hd, hn⟩ := K.now
  simp only [Instr.findKey, Sem.run_bind, run_underlying hd, Result.andThen_ok]
  rcases hn with hn | hn
  · cases es with
    | nil =>
      cases kvs with
      | nil => rfl
      | cons p r => simp [zc8] at h
    | cons e es =>
      have h1 : e.key = ke (kvs.head (by rintro rfl; simp [zc8] at h)).1 := by
        cases kvs with
        | nil => simp [zc8] at h
        | cons p r =>
          simp only [zc8, List.map_cons, List.cons.injEq, Prod.mk.injEq] at h
          exact h.1.1
      have : Instr.findNow d (ke k) (e :: es) 0 = none := by simp only [Instr.findNow, h1, hn]
      simp only [this]
      exact run_asking K k (e :: es) kvs 0 h
  · simp only [findNow_true k hn es kvs 0 h]
    rfl
end
section
variable {α β : Type} [DecidableEq α] {P : Program} {kt : TypeId} {ke : α → Value} {ve : β → Value} {w w' : World} {base : Nat} {w0 : World} {h : Ghost} {L : List Asrt}
theorem e_makeMap (S : St base w0 h w L) (T : TypeId) (ke : α → Value) (ve : β → Value) : ∃ b w', (Instr.makeMap T none).run P w = .ok (.map (some b)) w' ∧ Chg w w' (fun _ => False) ∧ St base w0 h w' (L ++ [amap ke ve b []]) := by
  refine ⟨w.heap.size, w.alloc (.map #[] 0), rfl, Chg.alloc _ _, ?_⟩
  have T1 : St w.heap.size w (fun _ => none) (w.alloc (.map #[] 0)) [amap ke ve w.heap.size ([] : List (α × β))] := by
    refine ⟨(Chg.alloc w _).below, by simp, fun _ _ e => (by cases e), fun _ _ e => (by cases e), fun _ b => b = w.heap.size, fun j A hj => ?_, fun i j hi hj hij => ?_⟩
    · have : j = 0 := by
        have := (List.getElem?_eq_some_iff.1 hj).1
        simpa using this
      subst this
      simp only [List.getElem?_cons_zero, Option.some.injEq] at hj
      subst hj
      refine ⟨⟨⟨#[], 0, ?_, rfl, fun x hx => by simp at hx, by simp⟩, rfl⟩, fun b hb => ⟨by omega, by subst hb; simp, rfl⟩⟩
      show (w.heap.push (.map #[] 0))[w.heap.size]? = _
      simp
    · simp at hi hj; omega
  have := S.call T1
  have e : gor h (fun _ => none) = h := by funext b; unfold gor; cases h b <;> rfl
  rwa [e] at this
theorem St.map_at {j b : Nat} {kvs : List (α × β)} (S : St base w0 h w L) (hj : L[j]? = some (amap ke ve b kvs)) : ∃ es clock, w.heap[b]? = some (.map es clock) ∧ es.toList.map (fun e => (e.key, e.val)) = zc8 ke ve kvs := by
  obtain ⟨Fs, hF, _⟩ := S.sep
  obtain ⟨es, clock, h1, h2, _⟩ := (hF j _ hj).1.1
  exact ⟨es, clock, h1, h2⟩
theorem St.map_born {j b : Nat} {kvs : List (α × β)} (S : St base w0 h w L) (hj : L[j]? = some (amap ke ve b kvs)) : ∃ es clock, w.heap[b]? = some (.map es clock) ∧ es.toList.map (fun e => (e.key, e.val)) = zc8 ke ve kvs ∧ Born es clock := by
  obtain ⟨Fs, hF, _⟩ := S.sep
  exact (hF j _ hj).1.1
def lookVal (ve : β → Value) (z : Value) (o : Option β) : Value := match o with
  | some b => ve b
  | none => z
def zc6 (w : World) (b : Nat) (o : Obj) : World := { w with heap := w.heap.setIfInBounds b o }
theorem zcp (w : World) (b : Nat) (o : Obj) : Chg w (zc6 w b o) (fun x => x = b) where
  os := rfl
  tape := rfl
  output := rfl
  size := by simp [zc6]
  block := fun q hq hn => by
    simp only [zc6]
    rw [Array.getElem?_setIfInBounds_ne (fun e => hn e.symm)]
theorem setBlock_at {w : World} {b : Nat} (hb : b < w.heap.size) (o : Obj) : (zc6 w b o).heap[b]? = some o := by simp [zc6, hb]
theorem lookAt_get (k : α) : ∀ (kvs : List (α × β)) (i j : Nat) (v : β), zbz k kvs i = some (j, v) → i ≤ j ∧ kvs[j - i]? = some (k, v)
  | [], _, _, _, h => by simp [zbz] at h
  | p :: r, i, j, v, h => by
    unfold zbz at h
    by_cases hk : k = p.1
    · rw [if_pos hk] at h
      simp at h
      obtain ⟨rfl, rfl⟩ := h
      simp [hk]
    · rw [if_neg hk] at h
      obtain ⟨h1, h2⟩ := lookAt_get k r (i + 1) j v h
      refine ⟨by omega, ?_⟩
      rw [show j - i = (j - (i + 1)) + 1 by omega]
      simpa using h2
theorem born_push {es : Array MapEntry} {clock : Nat} {k v : Value} (h : Born es clock) : Born (es.push { key := k, val := v, born := clock }) (clock + 1) := by
  refine ⟨fun x hx => ?_, ?_⟩
  · rw [Array.toList_push, List.mem_append, List.mem_singleton] at hx
    rcases hx with hx | rfl
    · exact Nat.lt_succ_of_lt (h.1 x hx)
    · exact Nat.lt_succ_self _
  · rw [Array.toList_push, List.map_append, List.nodup_append]
    refine ⟨h.2, by simp, fun a ha b hb => ?_⟩
    simp only [List.map_cons, List.map_nil, List.mem_singleton] at hb
    obtain ⟨x, hx, rfl⟩ := List.mem_map.1 ha
    have := h.1 x hx
    omega
theorem born_modify {es : Array MapEntry} {clock i : Nat} {k v : Value} (h : Born es clock) : Born (es.modify i fun e => { e with key := k, val := v }) clock := by
  have e : (es.modify i fun e => { e with key := k, val := v }).toList.map (·.born) = es.toList.map (·.born) := by
    apply List.ext_getElem?
    intro q
    rw [List.getElem?_map, List.getElem?_map, Array.getElem?_toList, Array.getElem?_toList, Array.getElem?_modify]
    by_cases hq : i = q
    · subst hq; rw [if_pos rfl]; cases es[i]? <;> rfl
    · rw [if_neg hq]
  refine ⟨fun x hx => ?_, by rw [e]; exact h.2⟩
  have h2 : x.born ∈ es.toList.map (·.born) := by rw [← e]; exact List.mem_map.2 ⟨x, hx, rfl⟩
  obtain ⟨y, hy, hxy⟩ := List.mem_map.1 h2
  rw [← hxy]; exact h.1 y hy
theorem e_mapUpdate {j b : Nat} {T et : TypeId} {kvs : List (α × β)} (K : KeyK P kt ke) (S : St base w0 h w L) (hj : L[j]? = some (amap ke ve b kvs)) (hT : P.underlying T = some (.map kt et)) (k : α) (v : β) :
    ∃ w', (Instr.mapUpdate T (.map (some b)) (ke k) (ve v)).run P w = .ok () w' ∧ Chg w w' (fun q => q = b) ∧ St base w0 h w' (L.set j (amap ke ve b (zcz k v kvs))) := by
  obtain ⟨es, clock, hb, hes, hbn⟩ := S.map_born hj
  have hg : (getObj b).run P w = .ok (.map es clock) w := by simp [getObj, Sem.run, hb]
  have hlt : b < w.heap.size := (Array.getElem?_eq_some_iff.1 hb).1
  have fin : ∀ es' clock', es'.toList.map (fun e => (e.key, e.val)) = zc8 ke ve (zcz k v kvs) → Born es' clock' → St base w0 h (zc6 w b (.map es' clock')) (L.set j (amap ke ve b (zcz k v kvs))) := fun es' clock' he hbn' =>
    S.upd hj fun F hF _ => ⟨(zcp w b _).mono (fun q hq => by subst hq; exact hF.2), F, ⟨⟨es', clock', setBlock_at hlt _, he, hbn'⟩, hF.2⟩, fun q hq => .inl hq⟩
  cases hl : zbz k kvs 0 with
  | none =>
    refine ⟨_, ?_, zcp w b _, fin (es.push { key := ke k, val := ve v, born := clock }) (clock + 1) ?_ (born_push hbn)⟩
    · simp [Instr.mapUpdate, Sem.run_bind, run_underlying hT, Result.andThen_ok, hg, K.chk, run_findKey K k hes, hl, put2, MapKept.run_setObj_map _ hb, zc6]
    · have hp : zcz k v kvs = kvs ++ [(k, v)] := by unfold zcz; rw [hl]
      rw [hp]
      simp [zc8, Array.toList_push] at hes ⊢
      exact hes
  | some p =>
    obtain ⟨i, u⟩ := p
    obtain ⟨_, hget⟩ := lookAt_get k kvs 0 i u hl
    rw [Nat.sub_zero] at hget
    have hei : (es.toList.map (fun e => (e.key, e.val)))[i]? = some (ke k, ve u) := by rw [hes]; simp [zc8, hget]
    rw [List.getElem?_map, Option.map_eq_some_iff] at hei
    obtain ⟨e, he1, he2⟩ := hei
    simp only [Prod.mk.injEq] at he2
    have he3 : es[i]? = some e := by rw [← Array.getElem?_toList]; exact he1
    have hstay : (Instr.keyThatStays (((es[i]?).map (·.key)).getD (ke k)) (ke k)).run P w = .ok (ke k) w := by
      rw [he3]
      simp only [Option.map_some, Option.getD_some, he2.1, Instr.keyThatStays, K.same, if_true]
      rfl
    refine ⟨_, ?_, zcp w b _, fin (es.modify i fun e => { e with key := ke k, val := ve v }) clock ?_ (born_modify hbn)⟩
    · simp [Instr.mapUpdate, Sem.run_bind, run_underlying hT, Result.andThen_ok, hg, K.chk, run_findKey K k hes, hl, put2, hstay, MapKept.run_setObj_map _ hb, zc6]
    · have hp : zcz k v kvs = kvs.set i (k, v) := by unfold zcz; rw [hl]
      rw [hp]
      apply List.ext_getElem?
      intro q
      have hq := congrArg (fun l : List (Value × Value) => l[q]?) hes
      simp only [zc8, List.getElem?_map] at hq ⊢
      rw [List.getElem?_set, Array.getElem?_toList, Array.getElem?_modify]
      rw [Array.getElem?_toList] at hq
      by_cases hqi : i = q
      · subst hqi
        have : i < kvs.length := (List.getElem?_eq_some_iff.1 hget).1
        simp [he3, this]
      · simp only [hqi, if_false]; exact hq
end
section
variable {α β : Type} [DecidableEq α] {P : Program} {kt : TypeId} {ke : α → Value} {ve : β → Value} {w : World} {base : Nat} {w0 : World} {h : Ghost} {L : List Asrt}
end
section
variable {P : Program} {ρ : Env} {w w' : World} {d : Option Tmp} {ty : TypeId} {pos : String} {af : Array Edge} {g : Option (Nat × Bool)} {x y z : Operand}
theorem x_makeMap {T : TypeId} {v : Value} (hr : (Instr.makeMap T none).run P w = .ok v w') : (execOp (ev ρ) ⟨d, .makeMap T none, ty, pos, af, g⟩).run P w = .ok (.value v) w' := by
  simp only [execOp, Option.map_none, Sem.run_bind, hr, Result.andThen_ok]; rfl
theorem x_lookup {T : TypeId} {c : Bool} {a k v : Value} (hx : ev ρ x = a) (hy : ev ρ y = k) (hr : (Instr.lookup T a k c).run P w = .ok v w) : (execOp (ev ρ) ⟨d, .lookup T x y c, ty, pos, af, g⟩).run P w = .ok (.value v) w := by
  simp only [execOp, hx, hy, Sem.run_bind, hr, Result.andThen_ok]; rfl
theorem x_mapUpdate {T : TypeId} {a k v : Value} (hx : ev ρ x = a) (hy : ev ρ y = k) (hz : ev ρ z = v) (hr : (Instr.mapUpdate T a k v).run P w = .ok () w') : (execOp (ev ρ) ⟨d, .mapUpdate T x y z, ty, pos, af, g⟩).run P w = .ok .skip w' := by
  simp only [execOp, hx, hy, hz, Sem.run_bind, hr, Result.andThen_ok]; rfl
end
section
variable {P : Program} {ρ : Env} {w w' : World} {d : Option Tmp} {ty : TypeId} {pos : String} {af : Array Edge} {g : Option (Nat × Bool)} {x y : Operand}
end
end Gx
namespace Gx
open Go Go.RowKit
set_option linter.unusedSimpArgs false
set_option linter.unusedSectionVars false
set_option linter.unusedVariables false
structure PartM where
  of : List Int
  n : Int
deriving DecidableEq
instance : Inhabited PartM := ⟨⟨[], 0⟩⟩
end Gx
namespace Gx
open Go Go.RowKit
set_option linter.unusedSimpArgs false
set_option linter.unusedSectionVars false
set_option linter.unusedVariables false
section
variable {P : Program} {ρ : Env} {w w' : World} {d : Option Tmp} {ty : TypeId} {pos : String} {af : Array Edge} {g : Option (Nat × Bool)} {x y : Operand}
theorem x_bytes_string {src dst e : TypeId} {A : Option Addr} {c : Nat} {xs : List Int} (hs : P.underlying src = some (.slice e)) (he : P.underlying e = some (.int .u8)) (hd : P.underlying dst = some .string)
    (hx : ev ρ x = .slice A xs.length c) (hl : zbe (Kd.int .u8) (hp w) A xs) : (execOp (ev ρ) ⟨d, .convert src dst x, ty, pos, af, g⟩).run P w = .ok (.value (.string (strOfNums xs))) w := by
  have key : (convert src dst (.slice A xs.length c)).run P w = .ok (.string (strOfNums xs)) w := by
    cases xs with
    | nil =>
      rw [run_convert_bytes_string w src dst e A _ c hs he hd]
      cases A with
      | none => rfl
      | some a =>
        have hc := run_loadCells_list (P := P) w a [] (fun j v hj => by simp at hj)
        simp only [List.length_nil] at hc
        have := run_bytesToString (P := P) w a 0 c [] (by simpa using hc)
        exact this
    | cons z zs =>
      obtain ⟨a, rfl, hcells⟩ := hl (by simp)
      rw [run_convert_bytes_string w src dst e _ _ c hs he hd]
      have hl2 := run_loadCells_list (P := P) w a ((z :: zs).map (Value.int .u8)) (fun j v hj => by
        rw [List.getElem?_map] at hj
        cases hq : (z :: zs)[j]? with
        | none => rw [hq] at hj; cases hj
        | some n =>
          rw [hq] at hj
          obtain ⟨seg, ⟨rfl, _⟩, hs2⟩ := hcells j n hq
          have := hs2 0 _ rfl
          simp only [Option.map_some, Option.some.injEq] at hj
          subst hj
          have e1 : (Kd.int .u8).sz = 1 := rfl
          rw [e1, Nat.mul_one, Nat.add_zero] at this
          rw [← gcell_of_block (h := hp w) (by rfl)]
          exact this)
      simp only [List.length_map] at hl2
      rw [run_bytesToString (P := P) w a _ c _ hl2, foldl_push_bytes]
      simp [strOfNums, ByteArray.empty, ByteArray.emptyWithCapacity]
      rfl
  simp only [execOp, hx, Sem.run_bind, key, Result.andThen_ok]
  rfl
theorem str_small {xs : List Int} (h : xs.length ≤ maxLen) : (strOfNums xs).size ≤ maxLen := by rw [strOfNums_size]; exact h
end
structure EqK {α : Type} [DecidableEq α] (P : Program) (T : TypeId) (enc : α → List Value) (ok : α → Prop) : Prop where
  run : ∀ (w : World) (a b : α), ok a → ok b → ∀ d, (Op.equalIn (d + 6) T (.agg (enc a).toArray) (.agg (enc b).toArray)).run P w = .ok (decide (a = b)) w
section
variable {P : Program} {ρ : Env} {w w' : World} {d : Option Tmp} {ty : TypeId} {pos : String} {af : Array Edge} {g : Option (Nat × Bool)} {x y : Operand}
theorem x_eql_agg {α : Type} [DecidableEq α] {enc : α → List Value} {ok : α → Prop} {t t2 : TypeId} {a b : α} (E : EqK P t enc ok) (ha : ok a) (hb : ok b) (hg : P.eqGuardType P.depth t = false) (hx : ev ρ x = .agg (enc a).toArray) (hy : ev ρ y = .agg (enc b).toArray) :
    (execOp (ev ρ) ⟨d, .binOp .eql t x y t2, ty, pos, af, g⟩).run P w = .ok (.value (.bool (decide (a = b)))) w := by
  have h1 := E.run w a b ha hb 9994
  simp only [execOp, hx, hy, Sem.run_bind, run_eqGuard_agg w .eql t x y _ _ hg, Result.andThen_ok, run_eql_struct, h1]
  rfl
end
section
variable {P : Program}
def eqF (d : Nat) (xs ys : Array Value) : List (TypeId × Nat) → Sem Bool
  | [] => pure true
  | f :: fs => do
    let a ← part f.1 xs f.2
    let b ← part f.1 ys f.2
    let r ← Op.equalIn d f.1 a b
    if (!r) = true then pure false else eqF d xs ys fs
theorem eqF_of (d : Nat) (xs ys : Array Value) : ∀ (fs : List Field), (fs.all fun f => f.name != "_") = true → Op.eqFields d xs ys fs = eqF d xs ys (fs.map fun f => (f.type, f.offset))
  | [], _ => rfl
  | f :: fs, h => by
    simp only [List.all_cons, Bool.and_eq_true, bne_iff_ne, ne_eq] at h
    simp only [Op.eqFields, List.map_cons, eqF, h.1, ne_eq, not_false_eq_true, if_true]
    rw [eqF_of d xs ys fs h.2]
theorem eqF_cons {w : World} {d : Nat} {xs ys : Array Value} {t : TypeId} {o : Nat} {fs : List (TypeId × Nat)} {a b : Value} {r q : Bool} (ha : (part t xs o).run P w = .ok a w) (hb : (part t ys o).run P w = .ok b w) (hr : (Op.equalIn d t a b).run P w = .ok r w) (hq : (eqF d xs ys fs).run P w = .ok q w) :
    (eqF d xs ys ((t, o) :: fs)).run P w = .ok (r && q) w := by
  simp only [eqF, Sem.run_bind, ha, hb, hr, Result.andThen_ok]
  cases r
  · rfl
  · simpa using hq
theorem eqF_nil {w : World} {d : Nat} {xs ys : Array Value} : (eqF d xs ys []).run P w = .ok true w := rfl
theorem part_one {w : World} {t : TypeId} {n b : Nat} {z : Option Value} {cs : List Value} {o : Nat} {v : Value} (ht : zbk P t = some (n, b, false, z)) (hv : cs[o]? = some v) : (part t cs.toArray o).run P w = .ok v w := by
  obtain ⟨ii, d5, hi5, hd5, hs5, _, hg5, _⟩ := zbl ht
  simp only [part, Sem.run_bind, run_isAgg hd5, hg5, Result.andThen_ok, Bool.false_eq_true, if_false, List.getElem?_toArray, hv]; rfl
theorem eq_struct {α : Type} [DecidableEq α] {T : TypeId} {enc : α → List Value} {ok : α → Prop} {L : List (TypeId × Nat)} (hT : P.underlying T = some (.struct (P.fieldsOf T))) (hp : P.stoodInHeld T = false) (hn : ((P.fieldsOf T).toList.all fun f => f.name != "_") = true) (hL : ((P.fieldsOf T).toList.map fun f => (f.type, f.offset)) = L)
    (h : ∀ (w : World) (a b : α), ok a → ok b → ∀ d, (eqF (d + 5) (enc a).toArray (enc b).toArray L).run P w = .ok (decide (a = b)) w) : EqK P T enc ok where
  run := fun w a b ha hb d => by
    rw [run_equalIn_agg w (d + 5) T _ _ hT hp, eqF_of _ _ _ _ hn, hL]
    exact h w a b ha hb d
end
end Gx
namespace Gx
open Go Go.RowKit
set_option linter.unusedSimpArgs false
set_option linter.unusedSectionVars false
set_option linter.unusedVariables false
section
variable {P : Program} {ρ : Env} {w w' : World} {d : Option Tmp} {ty : TypeId} {pos : String} {af : Array Edge} {g : Option (Nat × Bool)} {x y : Operand}
theorem zcu {ad : Addr} {q o : Nat} {T ft : TypeId} {m b' : Nat} {gg : Bool} {z : Option Value} (hf : zbr P T q = some (o, ft)) (hs : zbk P ft = some (m, b', gg, z)) (hm : Nat.blt 0 m = true) (hx : ev ρ x = .pointer (some ad)) :
    (execOp (ev ρ) ⟨d, .fieldAddr T x q, ty, pos, af, g⟩).run P w = .ok (.value (.pointer (some (ad.add o)))) w := by
  obtain ⟨fs, fd, hu, hq, ho, rfl⟩ := fieldInfo_parts hf
  obtain ⟨ii, d2, hi, hd2, hsz, _, _, _⟩ := zbl hs
  have hm' : 0 < m := by simpa [Nat.blt_eq] using hm
  subst ho
  simp [execOp, hx, Instr.fieldAt, Instr.sureAddr, run_underlying hu, hq, fieldPlace, zc3 hi, hsz, (show ¬ m = 0 by omega), go_sem]
theorem sub_seg {h : Ghost} {ad : Addr} {cs ds : List Value} {o m : Nat} (hc : ∀ j v, cs[j]? = some v → gcell h (ad.add j) = some v) (hs : (cs.drop o).take m = ds) : ∀ j v, ds[j]? = some v → gcell h ((ad.add o).add j) = some v := fun j v hj => by
  rw [add_add]
  refine hc _ _ ?_
  rw [← hs, List.getElem?_take] at hj
  split at hj
  · rwa [List.getElem?_drop] at hj
  · cases hj
end
section
variable {P : Program} {f n : Nat} {k : List Item} {ρ : Env} {w : World} {R : Ending → World → Prop} {ops : Array Oper} {H : Held} {fuel : Nat} {listed : Array Bool}
end
theorem one_nil : ∀ u ∈ ([] : List Value), u.oneCell' = true := fun u h => by cases h
theorem zdf {v : Value} {vs : List Value} (h : v.oneCell' = true) (hs : ∀ u ∈ vs, u.oneCell' = true) : ∀ u ∈ v :: vs, u.oneCell' = true := fun u hu => by
  rcases List.mem_cons.1 hu with e | e
  · rw [e]; exact h
  · exact hs u e
theorem row_cells {base : Nat} {w0 w : World} {h : Ghost} {L : List Asrt} {α : Type} [Inhabited α] {kd : Kd α} {xs : List α} {j : Nat} {T : TypeId} {v : Value} (S : St base w0 h w L) (hj : L[j]? = some (row T kd v xs)) : v.cells = #[v] := by
  obtain ⟨A, c, e, _⟩ := S.row_val hj
  rw [e]; rfl
theorem fill_any {place : Nat → Option (Nat × Nat)} {cells : Array Value} {i off n : Nat} {v : Value} {vc : List Value} {rest : List (Nat × Value)} {r : Array Value} (hp : place i = some (off, n)) (hv : v.cells = vc.toArray) (hn : vc.length = n) (ho : Nat.ble (off + n) cells.size = true)
    (h : Instr.fill place (lput cells.toList off vc).toArray rest = some r) : Instr.fill place cells ((i, v) :: rest) = some r := by
  have ho' : off + n ≤ cells.size := by simpa [Nat.ble_eq] using ho
  simp only [Instr.fill, hp]
  have hs : v.cells.size = n := by rw [hv]; simpa using hn
  rw [if_neg (by simp [hs]; omega)]
  rw [← h]
  congr 1
  rw [hv]
  have := fold_lput off vc 0 cells.toList
  simp only [Array.toArray_toList, Nat.add_zero] at this
  rw [← this, ← Array.foldl_toList]
  simp
theorem fill_end {place : Nat → Option (Nat × Nat)} {cells : Array Value} {cs : List Value} (h : cells = cs.toArray) : Instr.fill place cells [] = some cs.toArray := by rw [h]; rfl
theorem run_joinW {P : Program} {f n : Nat} {x : Item} {k : List Item} {ρ : Env} {w : World} {R : Ending → World → Prop} (J : Env → World → Prop) (hj : ∀ ρ w, J ρ w → Run P f n k ρ w R) (h : (∀ ρ w, J ρ w → Run P f n k ρ w R) → Run P f n (x :: k) ρ w R) : Run P f n (x :: k) ρ w R := h hj
end Gx
