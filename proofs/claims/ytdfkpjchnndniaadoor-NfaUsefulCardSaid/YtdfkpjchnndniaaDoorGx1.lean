/- My own library for walks through the translated code, part Gx1: laws of the model alone, no word of the program. -/
import Derived.WalkKit
import Derived.Below
namespace Gx
open Go Go.RowKit

/-! ### Frames by a function of slots -/
abbrev Env := Nat → Value
def upd (ρ : Env) (d : Nat) (v : Value) : Env := fun t => bif Nat.beq t d then v else ρ t

theorem upd_same (ρ : Env) (d : Nat) (v : Value) : upd ρ d v d = v := by simp [upd]
theorem upd_ne (ρ : Env) {d t : Nat} (v : Value) (h : t ≠ d) : upd ρ d v t = ρ t := by
  have e : Nat.beq t d = false := by
    cases hb : Nat.beq t d with
    | false => rfl
    | true => exact absurd (Nat.eq_of_beq_eq_true hb) h
  simp only [upd, e, cond_false]

/-- The slots of a frame read as the function says. -/
def Fits (n : Nat) (ρ : Env) (tmps : Array Value) : Prop := tmps.size = n ∧ ∀ t, tmps.getD t undef = ρ t

theorem Fits.set {n : Nat} {ρ : Env} {tmps : Array Value} (h : Fits n ρ tmps) {d : Nat} (hd : Nat.blt d n = true) (v : Value) : Fits n (upd ρ d v) (tmps.setIfInBounds d v) := by
  have hd' : d < n := by simpa [Nat.blt_eq] using hd
  refine ⟨by simpa using h.1, fun t => ?_⟩
  have ht := h.2 t
  rcases Nat.decEq t d with hne | rfl
  · rw [upd_ne _ _ hne, ← ht]
    simp only [Array.getD_eq_getD_getElem?, Array.getElem?_setIfInBounds]
    rw [if_neg (fun e => hne e.symm)]
  · rw [upd_same]
    simp [Array.getD_eq_getD_getElem?, h.1, hd']

def ev (ρ : Env) : Operand → Value
  | .tmp t => ρ t
  | .const v => v
  | .global g => .pointer (some ⟨g, 0, none⟩)
  | .func f => .func (.func f) #[] #[]

def fr (f : FuncId) (tmps : Array Value) (todo : List Item) : Frame := { (default : Frame) with fn := f, tmps, todo, defers := [], mode := .run, kind := .normal }

/-- From here on the call ends so that R holds. -/
def Run (P : Program) (f n : Nat) (todo : List Item) (ρ : Env) (w : World) (R : Ending → World → Prop) : Prop :=
  ∀ tmps, Fits n ρ tmps → ∀ cs, ∃ e w' fr', R e w' ∧ Comes P (lone (fr f tmps todo) cs w) (lone fr' cs w') e ∧ fr'.fn = f ∧ fr'.leaving P w' e

def base0 (f : FuncId) : Frame := { (default : Frame) with fn := f, kind := .normal }

theorem fr_at (f : FuncId) (tmps : Array Value) (todo : List Item) : fr f tmps todo = (base0 f).at ⟨tmps, []⟩ todo := rfl

section
variable {P : Program} {f n : Nat} {k : List Item} {ρ : Env} {w : World} {R : Ending → World → Prop}

theorem Fits.eval {tmps : Array Value} (h : Fits n ρ tmps) : (⟨tmps, []⟩ : Act).eval = ev ρ := by
  funext x
  cases x <;> simp [Act.eval, ev, h.2]

theorem Run.step {todo todo' : List Item} (hs : ∀ tmps, Fits n ρ tmps → ∀ cs, Go.step P (lone ((base0 f).at ⟨tmps, []⟩ todo) cs w) = .next (lone ((base0 f).at ⟨tmps, []⟩ todo') cs w)) (h : Run P f n todo' ρ w R) : Run P f n todo ρ w R := by
  intro tmps ht cs
  obtain ⟨e, w', fr', hr, hc, r⟩ := h tmps ht cs
  exact ⟨e, w', fr', hr, Comes.of_steps (.one (hs tmps ht cs)) hc, r⟩

theorem Run.mono {R' : Ending → World → Prop} {todo : List Item} (h : Run P f n todo ρ w R) (hr : ∀ e w', R e w' → R' e w') : Run P f n todo ρ w R' :=
  fun tmps ht cs => let ⟨e, w', fr', q, rest⟩ := h tmps ht cs; ⟨e, w', fr', hr _ _ q, rest⟩

theorem run_skip (h : Run P f n k ρ w R) : Run P f n (.code .skip :: k) ρ w R := .step (fun _ _ _ => step_skip) h
theorem run_label {l : Nat} (h : Run P f n k ρ w R) : Run P f n (.code (.label l) :: k) ρ w R := .step (fun _ _ _ => step_label) h
theorem run_inBlock {id : Nat} (h : Run P f n k ρ w R) : Run P f n (.inBlock id :: k) ρ w R := .step (fun _ _ _ => step_inBlock) h
theorem run_seq {x y : Code} (h : Run P f n (.code x :: .code y :: k) ρ w R) : Run P f n (.code (.seq x y) :: k) ρ w R := .step (fun _ _ _ => step_seq) h
theorem run_block {id : Nat} {c : Code} (h : Run P f n (.code c :: .inBlock id :: k) ρ w R) : Run P f n (.code (.block id c) :: k) ρ w R := .step (fun _ _ _ => step_block) h
theorem run_exit {id : Nat} {k' : List Item} (he : exitTo id k = some k') (h : Run P f n k' ρ w R) : Run P f n (.code (.exit id) :: k) ρ w R := .step (fun _ _ _ => step_exit he) h
theorem run_goto {l : Nat} {k' : List Item} (he : gotoIn l k = some k') (h : Run P f n k' ρ w R) : Run P f n (.code (.goto l) :: k) ρ w R := .step (fun _ _ _ => step_goto he) h
theorem run_loop1 {c : Code} (h : Run P f n (.code c :: .inLoop c :: k) ρ w R) : Run P f n (.code (.loop c) :: k) ρ w R := .step (fun _ _ _ => step_loop) h
theorem run_inLoop {c : Code} (h : Run P f n (.code c :: .inLoop c :: k) ρ w R) : Run P f n (.inLoop c :: k) ρ w R := .step (fun _ _ _ => step_inLoop) h

theorem run_cond {c : Operand} {x y : Code} {b : Bool} (hc : ev ρ c = .bool b) (h : Run P f n (.code (if b then x else y) :: k) ρ w R) : Run P f n (.code (.cond c x y) :: k) ρ w R :=
  .step (fun tmps ht cs => step_cond (by rw [ht.eval]; exact hc)) h
theorem run_cond_split {c : Operand} {x y : Code} {b : Bool} (hc : ev ρ c = .bool b) (ht : b = true → Run P f n (.code x :: k) ρ w R) (hf : b = false → Run P f n (.code y :: k) ρ w R) : Run P f n (.code (.cond c x y) :: k) ρ w R := by
  refine run_cond hc ?_
  cases b
  · exact hf rfl
  · exact ht rfl
theorem run_cond_prop {c : Operand} {x y : Code} {p : Prop} [Decidable p] (hc : ev ρ c = .bool (decide p)) (ht : p → Run P f n (.code x :: k) ρ w R) (hf : ¬ p → Run P f n (.code y :: k) ρ w R) : Run P f n (.code (.cond c x y) :: k) ρ w R :=
  run_cond_split hc (fun h => ht (of_decide_eq_true h)) (fun h => hf (of_decide_eq_false h))

theorem leave_ret {fn : Func} {v : Value} {tmps : Array Value} {todo : List Item} (hf : P.funcs[f]? = some fn) (hr : (results fn tmps).run P w = .ok v w) :
    ({ (base0 f).at ⟨tmps, []⟩ todo with mode := .returning } : Frame).leaving P w (.returned v) := by
  refine ⟨rfl, rfl, rfl, fn, hf, ?_⟩
  exact hr
theorem run_ret {fn : Func} {v : Value} (hf : P.funcs[f]? = some fn) (hr : ∀ tmps, Fits n ρ tmps → (results fn tmps).run P w = .ok v w) (h : R (.returned v) w) : Run P f n (.code .ret :: k) ρ w R := by
  intro tmps ht cs
  have h1 := leave_ret (f := f) (todo := .code .ret :: k) hf (hr tmps ht)
  have h2 : Steps P (lone ((base0 f).at ⟨tmps, []⟩ (.code .ret :: k)) cs w) (lone { (base0 f).at ⟨tmps, []⟩ (.code .ret :: k) with mode := .returning } cs w) := Steps.one step_ret
  refine ⟨.returned v, w, { (base0 f).at ⟨tmps, []⟩ (.code .ret :: k) with mode := .returning }, h, ?_, ?_, h1⟩
  · exact h2
  · rfl
theorem run_end {fn : Func} {v : Value} (hf : P.funcs[f]? = some fn) (hr : ∀ tmps, Fits n ρ tmps → (results fn tmps).run P w = .ok v w) (h : R (.returned v) w) : Run P f n [] ρ w R := by
  intro tmps ht cs
  have h1 := leave_ret (f := f) (todo := []) hf (hr tmps ht)
  have h2 : Steps P (lone ((base0 f).at ⟨tmps, []⟩ []) cs w) (lone { (base0 f).at ⟨tmps, []⟩ [] with mode := .returning } cs w) := Steps.one step_end
  refine ⟨.returned v, w, { (base0 f).at ⟨tmps, []⟩ [] with mode := .returning }, h, ?_, ?_, h1⟩
  · exact h2
  · rfl

theorem run_region {id : Nat} {ops : Array Oper} (h : Run P f n (.inRegion ops (List.range ops.size) :: k) ρ w R) : Run P f n (.code (.region id ops false) :: k) ρ w R := .step (fun _ _ _ => step_region) h
theorem run_region_end {ops : Array Oper} (h : Run P f n k ρ w R) : Run P f n (.inRegion ops [] :: k) ρ w R := .step (fun _ _ _ => step_region_end) h

/-- The slot of an operation takes a value. -/
def updO (ρ : Env) : Option Nat → Value → Env
  | some d, v => upd ρ d v
  | none, _ => ρ
def okO (n : Nat) : Option Nat → Bool
  | some d => Nat.blt d n
  | none => true
theorem Fits.putO {tmps : Array Value} (h : Fits n ρ tmps) {d : Option Nat} (hd : okO n d = true) (v : Value) : Fits n (updO ρ d v) ((⟨tmps, []⟩ : Act).put d v).tmps := by
  cases d with
  | none => exact h
  | some d => exact h.set hd v
theorem put_defers (a : Act) (d : Option Nat) (v : Value) : (a.put d v).defers = a.defers := by cases d <;> rfl
theorem put_eta (tmps : Array Value) (d : Option Nat) (v : Value) : (⟨tmps, []⟩ : Act).put d v = ⟨((⟨tmps, []⟩ : Act).put d v).tmps, []⟩ := by cases d <;> rfl

/-- A guard: is the operation to be done? -/
def boolOf : Value → Option Bool
  | .bool b => some b
  | _ => none
def wantedE (ρ : Env) (ops : Array Oper) (o : Oper) : Bool :=
  match o.guard with
  | none => true
  | some (j, want) => (match (ops[j]?).bind (·.dst) with | some d => boolOf (ρ d) | none => none) == some want

theorem wanted_eq {tmps : Array Value} (h : Fits n ρ tmps) (ops : Array Oper) (o : Oper) : Region.wanted o (yielded ops tmps) = wantedE ρ ops o := by
  unfold Region.wanted wantedE
  cases hg : o.guard with
  | none => rfl
  | some jw =>
    obtain ⟨j, want⟩ := jw
    simp only [yielded]
    cases hd : (ops[j]?).bind (·.dst) with
    | none => rfl
    | some d =>
      simp only [Option.bind_some]
      have ht := h.2 d
      rw [Array.getD_eq_getD_getElem?] at ht
      cases hx : tmps[d]? with
      | none => rw [hx] at ht; simp only [Option.getD_none] at ht; rw [← ht]; rfl
      | some v => rw [hx] at ht; simp only [Option.getD_some] at ht; rw [← ht]; cases v <;> rfl

section ops
variable {ops : Array Oper} {rest : List Nat} {i : Nat}

/-- An operation that hands back a value. -/
theorem run_op {o : Oper} {v : Value} {w' : World} (ho : ops[i]? = some o) (hw : wantedE ρ ops o = true) (hd : okO n o.dst = true)
    (hr : (execOp (ev ρ) o).run P w = .ok (.value v) w') (h : Run P f n (.inRegion ops rest :: k) (updO ρ o.dst v) w' R) : Run P f n (.inRegion ops (i :: rest) :: k) ρ w R := by
  intro tmps ht cs
  obtain ⟨e, w'', fr', hq, hc, r⟩ := h _ (ht.putO hd v) cs
  refine ⟨e, w'', fr', hq, Comes.of_steps (.one ?_) hc, r⟩
  refine step_lone_go ?_
  show (stepG P true { frame := (base0 f).at ⟨tmps, []⟩ (.inRegion ops (i :: rest) :: k), callers := cs, status := .running, dying := none } w).bare = _
  rw [stepG_op (b := base0 f) (a := ⟨tmps, []⟩) ho (by rw [wanted_eq ht]; exact hw), ht.eval]
  have hfin : ((base0 f).at ⟨tmps, []⟩ (.inRegion ops (i :: rest) :: k)).finish v = fr f ((⟨tmps, []⟩ : Act).put o.dst v).tmps (.inRegion ops rest :: k) := by
    rw [Frame.finish_at, ho, fr_at, ← put_eta]; rfl
  simp [stepG.apply, hr, hfin]
theorem run_op_skip {o : Oper} {w' : World} (ho : ops[i]? = some o) (hw : wantedE ρ ops o = true) (hd : okO n o.dst = true)
    (hr : (execOp (ev ρ) o).run P w = .ok .skip w') (h : Run P f n (.inRegion ops rest :: k) (updO ρ o.dst undef) w' R) : Run P f n (.inRegion ops (i :: rest) :: k) ρ w R := by
  intro tmps ht cs
  obtain ⟨e, w'', fr', hq, hc, r⟩ := h _ (ht.putO hd undef) cs
  refine ⟨e, w'', fr', hq, Comes.of_steps (.one ?_) hc, r⟩
  refine step_lone_go ?_
  show (stepG P true { frame := (base0 f).at ⟨tmps, []⟩ (.inRegion ops (i :: rest) :: k), callers := cs, status := .running, dying := none } w).bare = _
  rw [stepG_op (b := base0 f) (a := ⟨tmps, []⟩) ho (by rw [wanted_eq ht]; exact hw), ht.eval]
  have hfin : ((base0 f).at ⟨tmps, []⟩ (.inRegion ops (i :: rest) :: k)).finish undef = fr f ((⟨tmps, []⟩ : Act).put o.dst undef).tmps (.inRegion ops rest :: k) := by
    rw [Frame.finish_at, ho, fr_at, ← put_eta]; rfl
  simp [stepG.apply, hr, hfin]
/-- A call that returns. -/
theorem run_op_call {o : Oper} {w' : World} {g : FuncId} {args : Array Value} {Q : Value → World → Prop} (ho : ops[i]? = some o) (hw : wantedE ρ ops o = true) (hd : okO n o.dst = true)
    (hr : (execOp (ev ρ) o).run P w = .ok (.enter g args) w') (hc : Calls P g args w' fun e w2 => ∃ v, e = .returned v ∧ Q v w2)
    (h : ∀ v w2, Q v w2 → Run P f n (.inRegion ops rest :: k) (updO ρ o.dst v) w2 R) : Run P f n (.inRegion ops (i :: rest) :: k) ρ w R := by
  intro tmps ht cs
  have hg := stepG_op (P := P) (b := base0 f) (a := ⟨tmps, []⟩) (k := k) (cs := cs) (w := w) (rest := rest) ho (by rw [wanted_eq ht]; exact hw)
  rw [ht.eval] at hg
  obtain ⟨e, w2, fr2, ⟨v, rfl, hQ⟩, hsteps, _, hleave⟩ := hc ((base0 f).at ⟨tmps, []⟩ (.inRegion ops (i :: rest) :: k) :: cs)
  have henter : Go.step P (lone ((base0 f).at ⟨tmps, []⟩ (.inRegion ops (i :: rest) :: k)) cs w) =
      .next (lone (Frame.enter P g args .normal) ((base0 f).at ⟨tmps, []⟩ (.inRegion ops (i :: rest) :: k) :: cs) w') :=
    step_lone_go (by rw [hg]; simp [stepG.apply, hr, Frame.at])
  have hfin : ((base0 f).at ⟨tmps, []⟩ (.inRegion ops (i :: rest) :: k)).finish v = fr f ((⟨tmps, []⟩ : Act).put o.dst v).tmps (.inRegion ops rest :: k) := by
    rw [Frame.finish_at, ho, fr_at, ← put_eta]; rfl
  obtain ⟨e, w3, fr', hq, hcm, r⟩ := h v w2 hQ _ (ht.putO hd v) cs
  refine ⟨e, w3, fr', hq, Comes.of_steps (.head henter (Steps.trans hsteps (.one ?_))) hcm, r⟩
  rw [← hfin]
  exact step_leave_returned hleave
/-- An operation that its guard shuts out. -/
theorem run_op_off {o : Oper} (ho : ops[i]? = some o) (hw : wantedE ρ ops o = false) (hd : okO n o.dst = true)
    (h : Run P f n (.inRegion ops rest :: k) (updO ρ o.dst undef) w R) : Run P f n (.inRegion ops (i :: rest) :: k) ρ w R := by
  intro tmps ht cs
  obtain ⟨e, w'', fr', hq, hc, r⟩ := h _ (ht.putO hd undef) cs
  refine ⟨e, w'', fr', hq, Comes.of_steps (.one ?_) hc, r⟩
  have := step_op_skip (P := P) (b := base0 f) (a := ⟨tmps, []⟩) (k := k) (cs := cs) (w := w) (ops := ops) (i := i) (rest := rest) (by rw [ho]; simpa [wanted_eq ht] using hw)
  rw [ho] at this
  simp only [Option.bind_some] at this
  rw [fr_at, this, put_eta]; rfl
end ops

/-- A call from its first step on. -/
theorem calls_of_run {fn : Func} {c : Code} {args : Array Value} (hf : P.funcs[f]? = some fn) (hb : fn.body = some c) (hn : fn.ntmps = n) (hs : Nat.ble args.size n = true)
    (h : Run P f n [.code c] (fun t => args.getD t undef) w R) : Calls P f args w R := by
  intro cs
  have hs' : args.size ≤ n := by simpa [Nat.ble_eq] using hs
  have henter : Frame.enter P f args .normal = fr f (args ++ Array.replicate (n - args.size) undef) [.code c] := by
    simp [Frame.enter, fr, hf, hb, hn]
    rfl
  obtain ⟨e, w', fr', hq, hc, r⟩ := h (args ++ Array.replicate (n - args.size) undef) ⟨by simp; omega, fun t => by
    simp only [Array.getD_eq_getD_getElem?, Array.getElem?_append, Array.getElem?_replicate]
    by_cases ht : t < args.size
    · rw [if_pos ht]
    · rw [if_neg ht, Array.getElem?_eq_none (by omega)]
      split <;> rfl⟩ cs
  rw [← henter] at hc
  exact ⟨e, w', fr', hq, hc, r⟩

/-- A loop, by a measure. -/
theorem run_loop {c : Code} {S : Type} (I : S → Env → World → Prop) (μ : S → Nat) (s : S) (h0 : I s ρ w)
    (step : ∀ s, (∀ s' ρ' w', μ s' < μ s → I s' ρ' w' → Run P f n (.inLoop c :: k) ρ' w' R) → ∀ ρ w, I s ρ w → Run P f n (.code c :: .inLoop c :: k) ρ w R) :
    Run P f n (.code (.loop c) :: k) ρ w R := by
  have all : ∀ m s, μ s < m → ∀ ρ w, I s ρ w → Run P f n (.code c :: .inLoop c :: k) ρ w R := by
    intro m
    induction m with
    | zero => intro s hs; omega
    | succ m ih =>
      intro s hs ρ w hI
      exact step s (fun s' ρ' w' hlt hI' => run_inLoop (ih s' (by omega) ρ' w' hI')) ρ w hI
  exact run_loop1 (all (μ s + 1) s (by omega) ρ w h0)
end
end Gx
