/- My own library for walks through the translated code, and the walks of the functions that the law WrapLeft comes to, part 1; no conditions but those that each contract tells. -/
import Derived.WalkKit
import Derived.Below
import Derived.Maps.AppendAt
import Derived.Laws.MakeOwn
import Derived.OrdersHeld
import Derived.Laws.Strings
import Derived.Laws.StructEq
import Derived.ChangeKeysEq
import Derived.Laws.Cover3
import Derived.Test.YtgpkkkekmimoeaaProg
import Derived.KernelRfl
import Derived.Lib.TrailingZeros
import Derived.ChangeMaps4
import Derived.Laws.BytesArg
import Derived.Laws.Pointers
namespace Gx
open Go Go.RowKit
abbrev Env := Nat → Value
def upd (ρ : Env) (d : Nat) (v : Value) : Env := fun t => bif Nat.beq t d then v else ρ t
theorem upd_same (ρ : Env) (d : Nat) (v : Value) : upd ρ d v d = v := by simp [upd]
theorem upd_ne (ρ : Env) {d t : Nat} (v : Value) (h : t ≠ d) : upd ρ d v t = ρ t := by
  have e : Nat.beq t d = false := by
    cases hb : Nat.beq t d with
    | false => rfl
    | true => exact absurd (Nat.eq_of_beq_eq_true hb) h
  simp only [upd, e, cond_false]
def Fits (n : Nat) (ρ : Env) (tmps : Array Value) : Prop := tmps.size = n ∧ ∀ t, tmps.getD t undef = ρ t
theorem Fits.set {n : Nat} {ρ : Env} {tmps : Array Value} (h : Fits n ρ tmps) {d : Nat} (hd : Nat.blt d n = true) (v : Value) : Fits n (upd ρ d v) (tmps.setIfInBounds d v) := by
  have hd' : d < n := by simpa [Nat.blt_eq] using hd
  refine ⟨by simpa using h.1, fun t => ?_⟩
  have ht := h.2 t
  rcases Nat.decEq t d with hne | rfl
  · rw [upd_ne _ _ hne, ← ht]
    simp only [Array.getD_eq_getD_getElem?, Array.getElem?_setIfInBounds]
    rw [if_neg (fun e => hne e.symm)]
  · rw [upd_same]
    simp [Array.getD_eq_getD_getElem?, h.1, hd']
def ev (ρ : Env) : Operand → Value
  | .tmp t => ρ t
  | .const v => v
  | .global g => .pointer (some ⟨g, 0, none⟩)
  | .func f => .func (.func f) #[] #[]
def fr (f : FuncId) (tmps : Array Value) (todo : List Item) : Frame := { (default : Frame) with fn := f, tmps, todo, defers := [], mode := .run, kind := .normal }
def Run (P : Program) (f n : Nat) (todo : List Item) (ρ : Env) (w : World) (R : Ending → World → Prop) : Prop :=
  ∀ tmps, Fits n ρ tmps → ∀ cs, ∃ e w' fr', R e w' ∧ Comes P (lone (fr f tmps todo) cs w) (lone fr' cs w') e ∧ fr'.fn = f ∧ fr'.leaving P w' e
def base0 (f : FuncId) : Frame := { (default : Frame) with fn := f, kind := .normal }
theorem fr_at (f : FuncId) (tmps : Array Value) (todo : List Item) : fr f tmps todo = (base0 f).at ⟨tmps, []⟩ todo := rfl
section
variable {P : Program} {f n : Nat} {k : List Item} {ρ : Env} {w : World} {R : Ending → World → Prop}
theorem Fits.eval {tmps : Array Value} (h : Fits n ρ tmps) : (⟨tmps, []⟩ : Act).eval = ev ρ := by
  funext x
  cases x <;> simp [Act.eval, ev, h.2]
theorem Run.step {todo todo' : List Item} (hs : ∀ tmps, Fits n ρ tmps → ∀ cs, Go.step P (lone ((base0 f).at ⟨tmps, []⟩ todo) cs w) = .next (lone ((base0 f).at ⟨tmps, []⟩ todo') cs w)) (h : Run P f n todo' ρ w R) : Run P f n todo ρ w R := by
  intro tmps ht cs
  obtain ⟨e, w', fr', hr, hc, r⟩ := h tmps ht cs
  exact ⟨e, w', fr', hr, Comes.of_steps (.one (hs tmps ht cs)) hc, r⟩
theorem Run.mono {R' : Ending → World → Prop} {todo : List Item} (h : Run P f n todo ρ w R) (hr : ∀ e w', R e w' → R' e w') : Run P f n todo ρ w R' :=
  fun tmps ht cs => let ⟨e, w', fr', q, rest⟩ := h tmps ht cs; ⟨e, w', fr', hr _ _ q, rest⟩
theorem zas (h : Run P f n k ρ w R) : Run P f n (.code .skip :: k) ρ w R := .step (fun _ _ _ => step_skip) h
theorem zak {id : Nat} (h : Run P f n k ρ w R) : Run P f n (.inBlock id :: k) ρ w R := .step (fun _ _ _ => step_inBlock) h
theorem zad {x y : Code} (h : Run P f n (.code x :: .code y :: k) ρ w R) : Run P f n (.code (.seq x y) :: k) ρ w R := .step (fun _ _ _ => step_seq) h
theorem zai {id : Nat} {c : Code} (h : Run P f n (.code c :: .inBlock id :: k) ρ w R) : Run P f n (.code (.block id c) :: k) ρ w R := .step (fun _ _ _ => step_block) h
theorem zat {id : Nat} {k' : List Item} (he : exitTo id k = some k') (h : Run P f n k' ρ w R) : Run P f n (.code (.exit id) :: k) ρ w R := .step (fun _ _ _ => step_exit he) h
theorem run_loop1 {c : Code} (h : Run P f n (.code c :: .inLoop c :: k) ρ w R) : Run P f n (.code (.loop c) :: k) ρ w R := .step (fun _ _ _ => step_loop) h
theorem run_inLoop {c : Code} (h : Run P f n (.code c :: .inLoop c :: k) ρ w R) : Run P f n (.inLoop c :: k) ρ w R := .step (fun _ _ _ => step_inLoop) h
theorem run_cond {c : Operand} {x y : Code} {b : Bool} (hc : ev ρ c = .bool b) (h : Run P f n (.code (if b then x else y) :: k) ρ w R) : Run P f n (.code (.cond c x y) :: k) ρ w R :=
  .step (fun tmps ht cs => step_cond (by rw [ht.eval]; exact hc)) h
theorem zav {c : Operand} {x y : Code} {b : Bool} (hc : ev ρ c = .bool b) (ht : b = true → Run P f n (.code x :: k) ρ w R) (hf : b = false → Run P f n (.code y :: k) ρ w R) : Run P f n (.code (.cond c x y) :: k) ρ w R := by
  refine run_cond hc ?_
  cases b
  · exact hf rfl
  · exact ht rfl
theorem zar {c : Operand} {x y : Code} {p : Prop} [Decidable p] (hc : ev ρ c = .bool (decide p)) (ht : p → Run P f n (.code x :: k) ρ w R) (hf : ¬ p → Run P f n (.code y :: k) ρ w R) : Run P f n (.code (.cond c x y) :: k) ρ w R :=
  zav hc (fun h => ht (of_decide_eq_true h)) (fun h => hf (of_decide_eq_false h))
theorem leave_ret {fn : Func} {v : Value} {tmps : Array Value} {todo : List Item} (hf : P.funcs[f]? = some fn) (hr : (results fn tmps).run P w = .ok v w) :
    ({ (base0 f).at ⟨tmps, []⟩ todo with mode := .returning } : Frame).leaving P w (.returned v) := by
  refine ⟨rfl, rfl, rfl, fn, hf, ?_⟩
  exact hr
theorem run_ret {fn : Func} {v : Value} (hf : P.funcs[f]? = some fn) (hr : ∀ tmps, Fits n ρ tmps → (results fn tmps).run P w = .ok v w) (h : R (.returned v) w) : Run P f n (.code .ret :: k) ρ w R := by
  intro tmps ht cs
  have h1 := leave_ret (f := f) (todo := .code .ret :: k) hf (hr tmps ht)
  have h2 : Steps P (lone ((base0 f).at ⟨tmps, []⟩ (.code .ret :: k)) cs w) (lone { (base0 f).at ⟨tmps, []⟩ (.code .ret :: k) with mode := .returning } cs w) := Steps.one step_ret
  refine ⟨.returned v, w, { (base0 f).at ⟨tmps, []⟩ (.code .ret :: k) with mode := .returning }, h, ?_, ?_, h1⟩
  · exact h2
  · rfl
theorem run_region {id : Nat} {ops : Array Oper} (h : Run P f n (.inRegion ops (List.range ops.size) :: k) ρ w R) : Run P f n (.code (.region id ops false) :: k) ρ w R := .step (fun _ _ _ => step_region) h
theorem zaa {ops : Array Oper} (h : Run P f n k ρ w R) : Run P f n (.inRegion ops [] :: k) ρ w R := .step (fun _ _ _ => step_region_end) h
def updO (ρ : Env) : Option Nat → Value → Env
  | some d, v => upd ρ d v
  | none, _ => ρ
def okO (n : Nat) : Option Nat → Bool
  | some d => Nat.blt d n
  | none => true
theorem Fits.putO {tmps : Array Value} (h : Fits n ρ tmps) {d : Option Nat} (hd : okO n d = true) (v : Value) : Fits n (updO ρ d v) ((⟨tmps, []⟩ : Act).put d v).tmps := by
  cases d with
  | none => exact h
  | some d => exact h.set hd v
theorem put_defers (a : Act) (d : Option Nat) (v : Value) : (a.put d v).defers = a.defers := by cases d <;> rfl
theorem put_eta (tmps : Array Value) (d : Option Nat) (v : Value) : (⟨tmps, []⟩ : Act).put d v = ⟨((⟨tmps, []⟩ : Act).put d v).tmps, []⟩ := by cases d <;> rfl
def boolOf : Value → Option Bool
  | .bool b => some b
  | _ => none
def za1 (ρ : Env) (ops : Array Oper) (o : Oper) : Bool :=
  match o.guard with
  | none => true
  | some (j, want) => (match (ops[j]?).bind (·.dst) with | some d => boolOf (ρ d) | none => none) == some want
theorem wanted_eq {tmps : Array Value} (h : Fits n ρ tmps) (ops : Array Oper) (o : Oper) : Region.wanted o (yielded ops tmps) = za1 ρ ops o := by
  unfold Region.wanted za1
  cases hg : o.guard with
  | none => rfl
  | some jw =>
    obtain ⟨j, want⟩ := jw
    simp only [yielded]
    cases hd : (ops[j]?).bind (·.dst) with
    | none => rfl
    | some d =>
      simp only [Option.bind_some]
      have ht := h.2 d
      rw [Array.getD_eq_getD_getElem?] at ht
      cases hx : tmps[d]? with
      | none => rw [hx] at ht; simp only [Option.getD_none] at ht; rw [← ht]; rfl
      | some v => rw [hx] at ht; simp only [Option.getD_some] at ht; rw [← ht]; cases v <;> rfl
section ops
variable {ops : Array Oper} {rest : List Nat} {i : Nat}
theorem run_op {o : Oper} {v : Value} {w' : World} (ho : ops[i]? = some o) (hw : za1 ρ ops o = true) (hd : okO n o.dst = true)
    (hr : (execOp (ev ρ) o).run P w = .ok (.value v) w') (h : Run P f n (.inRegion ops rest :: k) (updO ρ o.dst v) w' R) : Run P f n (.inRegion ops (i :: rest) :: k) ρ w R := by
  intro tmps ht cs
  obtain ⟨e, w'', fr', hq, hc, r⟩ := h _ (ht.putO hd v) cs
  refine ⟨e, w'', fr', hq, Comes.of_steps (.one ?_) hc, r⟩
  refine step_lone_go ?_
  show (stepG P true { frame := (base0 f).at ⟨tmps, []⟩ (.inRegion ops (i :: rest) :: k), callers := cs, status := .running, dying := none } w).bare = _
  rw [stepG_op (b := base0 f) (a := ⟨tmps, []⟩) ho (by rw [wanted_eq ht]; exact hw), ht.eval]
  have hfin : ((base0 f).at ⟨tmps, []⟩ (.inRegion ops (i :: rest) :: k)).finish v = fr f ((⟨tmps, []⟩ : Act).put o.dst v).tmps (.inRegion ops rest :: k) := by
    rw [Frame.finish_at, ho, fr_at, ← put_eta]; rfl
  simp [stepG.apply, hr, hfin]
theorem run_op_call {o : Oper} {w' : World} {g : FuncId} {args : Array Value} {Q : Value → World → Prop} (ho : ops[i]? = some o) (hw : za1 ρ ops o = true) (hd : okO n o.dst = true)
    (hr : (execOp (ev ρ) o).run P w = .ok (.enter g args) w') (hc : Calls P g args w' fun e w2 => ∃ v, e = .returned v ∧ Q v w2)
    (h : ∀ v w2, Q v w2 → Run P f n (.inRegion ops rest :: k) (updO ρ o.dst v) w2 R) : Run P f n (.inRegion ops (i :: rest) :: k) ρ w R := by
  intro tmps ht cs
  have hg := stepG_op (P := P) (b := base0 f) (a := ⟨tmps, []⟩) (k := k) (cs := cs) (w := w) (rest := rest) ho (by rw [wanted_eq ht]; exact hw)
  rw [ht.eval] at hg
  obtain ⟨e, w2, fr2, ⟨v, rfl, hQ⟩, hsteps, _, hleave⟩ := hc ((base0 f).at ⟨tmps, []⟩ (.inRegion ops (i :: rest) :: k) :: cs)
  have henter : Go.step P (lone ((base0 f).at ⟨tmps, []⟩ (.inRegion ops (i :: rest) :: k)) cs w) =
      .next (lone (Frame.enter P g args .normal) ((base0 f).at ⟨tmps, []⟩ (.inRegion ops (i :: rest) :: k) :: cs) w') :=
    step_lone_go (by rw [hg]; simp [stepG.apply, hr, Frame.at])
  have hfin : ((base0 f).at ⟨tmps, []⟩ (.inRegion ops (i :: rest) :: k)).finish v = fr f ((⟨tmps, []⟩ : Act).put o.dst v).tmps (.inRegion ops rest :: k) := by
    rw [Frame.finish_at, ho, fr_at, ← put_eta]; rfl
  obtain ⟨e, w3, fr', hq, hcm, r⟩ := h v w2 hQ _ (ht.putO hd v) cs
  refine ⟨e, w3, fr', hq, Comes.of_steps (.head henter (Steps.trans hsteps (.one ?_))) hcm, r⟩
  rw [← hfin]
  exact step_leave_returned hleave
end ops
theorem za8 {fn : Func} {c : Code} {args : Array Value} (hf : P.funcs[f]? = some fn) (hb : fn.body = some c) (hn : fn.ntmps = n) (hs : Nat.ble args.size n = true)
    (h : Run P f n [.code c] (fun t => args.getD t undef) w R) : Calls P f args w R := by
  intro cs
  have hs' : args.size ≤ n := by simpa [Nat.ble_eq] using hs
  have henter : Frame.enter P f args .normal = fr f (args ++ Array.replicate (n - args.size) undef) [.code c] := by
    simp [Frame.enter, fr, hf, hb, hn]
    rfl
  obtain ⟨e, w', fr', hq, hc, r⟩ := h (args ++ Array.replicate (n - args.size) undef) ⟨by simp; omega, fun t => by
    simp only [Array.getD_eq_getD_getElem?, Array.getElem?_append, Array.getElem?_replicate]
    by_cases ht : t < args.size
    · rw [if_pos ht]
    · rw [if_neg ht, Array.getElem?_eq_none (by omega)]
      split <;> rfl⟩ cs
  rw [← henter] at hc
  exact ⟨e, w', fr', hq, hc, r⟩
theorem zaz {c : Code} {S : Type} (I : S → Env → World → Prop) (μ : S → Nat) (s : S) (h0 : I s ρ w)
    (step : ∀ s, (∀ s' ρ' w', μ s' < μ s → I s' ρ' w' → Run P f n (.inLoop c :: k) ρ' w' R) → ∀ ρ w, I s ρ w → Run P f n (.code c :: .inLoop c :: k) ρ w R) :
    Run P f n (.code (.loop c) :: k) ρ w R := by
  have all : ∀ m s, μ s < m → ∀ ρ w, I s ρ w → Run P f n (.code c :: .inLoop c :: k) ρ w R := by
    intro m
    induction m with
    | zero => intro s hs; omega
    | succ m ih =>
      intro s hs ρ w hI
      exact step s (fun s' ρ' w' hlt hI' => run_inLoop (ih s' (by omega) ρ' w' hI')) ρ w hI
  exact run_loop1 (all (μ s + 1) s (by omega) ρ w h0)
end
end Gx
namespace Gx
open Go Go.RowKit
abbrev Ghost := Nat → Option Obj
def hp (w : World) : Ghost := fun b => w.heap[b]?
def Le (h h' : Ghost) : Prop := ∀ b o, h b = some o → h' b = some o
theorem Le.refl (h : Ghost) : Le h h := fun _ _ e => e
theorem Le.trans {a b c : Ghost} (h : Le a b) (k : Le b c) : Le a c := fun x o e => k x o (h x o e)
def gor (h k : Ghost) : Ghost := fun b => match h b with | some o => some o | none => k b
theorem Le.gor_left (h k : Ghost) : Le h (gor h k) := fun b o e => by simp [gor, e]
theorem Le.gor_right {h k : Ghost} (hd : ∀ b o, h b = some o → k b = none) : Le k (gor h k) := fun b o e => by
  unfold gor
  cases hb : h b with
  | none => exact e
  | some o' => rw [hd b o' hb] at e; cases e
def gcell (h : Ghost) (a : Addr) : Option Value :=
  match h a.block with
  | some (.cells c _ _) => if a.spot.isSome then none else c[a.off]?
  | _ => none
theorem gcell_mono {h h' : Ghost} (hl : Le h h') {a : Addr} {v : Value} (hc : gcell h a = some v) : gcell h' a = some v := by
  unfold gcell at hc ⊢
  cases hb : h a.block with
  | none => rw [hb] at hc; cases hc
  | some o => rw [hb] at hc; rw [hl _ _ hb]; exact hc
theorem gcell_world {w : World} {h : Ghost} (hl : Le h (hp w)) {a : Addr} {v : Value} (hc : gcell h a = some v) : w.cell? a = some v := gcell_mono hl hc
theorem Le.below {w w' : World} (hb : Below w.heap.size w w') : Le (hp w) (hp w') := fun b o e => by
  have hlt : b < w.heap.size := by
    rcases Nat.lt_or_ge b w.heap.size with h | h
    · exact h
    · unfold hp at e; rw [Array.getElem?_eq_none h] at e; cases e
  unfold hp at e ⊢
  rw [hb.block b hlt]; exact e
structure Kd (α : Type) where
  sz : Nat
  pos : 0 < sz
  rep : Ghost → α → List Value → Prop
  mono : ∀ {h h' : Ghost} {x : α} {cs : List Value}, Le h h' → rep h x cs → rep h' x cs
  len : ∀ {h : Ghost} {x : α} {cs : List Value}, rep h x cs → cs.length = sz
  one : ∀ {h : Ghost} {x : α} {cs : List Value}, rep h x cs → ∀ u ∈ cs, u.oneCell' = true
def Kd.flat {α : Type} (enc : α → List Value) (ok : α → Prop) (n : Nat) (hp : 0 < n) (hl : ∀ x, ok x → (enc x).length = n) (h1 : ∀ x, ∀ u ∈ enc x, u.oneCell' = true) : Kd α where
  sz := n
  pos := hp
  rep := fun _ x cs => cs = enc x ∧ ok x
  mono := fun _ h => h
  len := fun h => by rw [h.1]; exact hl _ h.2
  one := fun h => by rw [h.1]; exact h1 _
def inK (k : IntKind) (x : Int) : Prop := k.min ≤ x ∧ x ≤ k.max
def Kd.int (k : IntKind) : Kd Int := .flat (fun x => [.int k x]) (inK k) 1 (by omega) (fun _ _ => rfl) (fun _ u hu => by simp at hu; subst hu; rfl)
def Kd.bool : Kd Bool := .flat (fun x => [.bool x]) (fun _ => True) 1 (by omega) (fun _ _ => rfl) (fun _ u hu => by simp at hu; subst hu; rfl)
def Kd.string : Kd ByteArray := .flat (fun x => [.string x]) (fun s => s.size ≤ maxLen) 1 (by omega) (fun _ _ => rfl) (fun _ u hu => by simp at hu; subst hu; rfl)
def za9 {α : Type} (k : Kd α) (h : Ghost) (xs : List α) (cs : List Value) : Prop :=
  cs.length = xs.length * k.sz ∧ ∀ i x, xs[i]? = some x → k.rep h x ((cs.drop (i * k.sz)).take k.sz)
def Leads {α : Type} (k : Kd α) (h : Ghost) (A : Option Addr) (xs : List α) : Prop :=
  xs ≠ [] → ∃ ad, A = some ad ∧ ∀ i x, xs[i]? = some x → ∃ seg, k.rep h x seg ∧ ∀ j v, seg[j]? = some v → gcell h (ad.add (i * k.sz + j)) = some v
theorem Leads.mono {α : Type} {k : Kd α} {h h' : Ghost} {A : Option Addr} {xs : List α} (hl : Le h h') (hr : Leads k h A xs) : Leads k h' A xs := fun hne => by
  obtain ⟨ad, e, hx⟩ := hr hne
  exact ⟨ad, e, fun i x hi => let ⟨seg, h1, h2⟩ := hx i x hi; ⟨seg, k.mono hl h1, fun j v hj => gcell_mono hl (h2 j v hj)⟩⟩
def Kd.slice {α : Type} (k : Kd α) : Kd (List α) where
  sz := 1
  pos := by omega
  rep := fun h xs cs => ∃ A c, cs = [.slice A xs.length c] ∧ xs.length ≤ c ∧ c ≤ maxLen ∧ Leads k h A xs
  mono := fun hl ⟨A, c, h1, h2, h3, h4⟩ => ⟨A, c, h1, h2, h3, h4.mono hl⟩
  len := fun ⟨_, _, h, _⟩ => by rw [h]; rfl
  one := fun ⟨_, _, h, _⟩ u hu => by rw [h] at hu; simp at hu; subst hu; rfl
structure Asrt where
  holds : Ghost → World → (Nat → Prop) → Prop
  mono : ∀ {h h' : Ghost} {w : World} {F : Nat → Prop}, Le h h' → holds h w F → holds h' w F
  far : ∀ {h : Ghost} {w w' : World} {F : Nat → Prop}, (∀ b, F b → w'.heap[b]? = w.heap[b]?) → holds h w F → holds h w' F
def emp : Asrt := ⟨fun _ _ _ => True, fun _ h => h, fun _ h => h⟩
def box (b : Nat) (T : TypeId) (cs : List Value) : Asrt where
  holds := fun _ w F => w.heap[b]? = some (.cells cs.toArray T (0, 0)) ∧ F b
  mono := fun _ h => h
  far := fun hf h => ⟨by rw [hf b h.2]; exact h.1, h.2⟩
def row {α : Type} (T : TypeId) (k : Kd α) (v : Value) (xs : List α) : Asrt where
  holds := fun h w F => ∃ cs, w.ownsRow 0 T k.sz v xs.length cs ∧ za9 k h xs cs ∧ ∀ g, v.ownBlock = some g → F g
  mono := fun hl ⟨cs, h1, h2, h3⟩ => ⟨cs, h1, ⟨h2.1, fun i x hi => k.mono hl (h2.2 i x hi)⟩, h3⟩
  far := fun {h w w' F} hf ⟨cs, h1, h2, h3⟩ => by
    refine ⟨cs, ⟨h1.1, ?_⟩, h2, h3⟩
    rcases h1.2 with h4 | ⟨g, cap, cur, hv, hb, hh, hr⟩
    · exact .inl h4
    · have hg : F g := h3 g (by rw [hv]; rfl)
      exact .inr ⟨g, cap, cur, hv, hb, by rw [hf g hg]; exact hh, hr⟩
def Sep (h : Ghost) (w : World) (U : Nat → Prop) (L : List Asrt) : Prop :=
  ∃ Fs : Nat → Nat → Prop, (∀ i A, L[i]? = some A → A.holds h w (Fs i) ∧ ∀ b, Fs i b → U b) ∧ ∀ i j, i < L.length → j < L.length → i ≠ j → ∀ b, Fs i b → ¬ Fs j b
structure Chg (w w' : World) (F : Nat → Prop) : Prop where
  os : w'.os = w.os
  tape : w'.tape = w.tape
  output : w'.output = w.output
  size : w.heap.size ≤ w'.heap.size
  block : ∀ b, b < w.heap.size → ¬ F b → w'.heap[b]? = w.heap[b]?
theorem Chg.mono {w w' : World} {F G : Nat → Prop} (h : Chg w w' F) (hg : ∀ b, F b → G b) : Chg w w' G := ⟨h.os, h.tape, h.output, h.size, fun b hb hn => h.block b hb (fun hf => hn (hg b hf))⟩
theorem Chg.of_below {w w' : World} (h : Below w.heap.size w w') : Chg w w' (fun _ => False) := ⟨h.os, h.tape, h.output, h.size, fun b hb _ => h.block b hb⟩
theorem Chg.below {w w' : World} (h : Chg w w' (fun _ => False)) : Below w.heap.size w w' := ⟨h.os, h.tape, h.output, h.size, fun b hb => h.block b hb (fun x => x)⟩
theorem Chg.alloc (w : World) (o : Obj) : Chg w (w.alloc o) (fun _ => False) := ⟨rfl, rfl, rfl, by simp, fun b hb _ => Below.heap_alloc w o b hb⟩
theorem Chg.refl (w : World) (F : Nat → Prop) : Chg w w F := ⟨rfl, rfl, rfl, Nat.le_refl _, fun _ _ _ => rfl⟩
theorem Chg.grown {w w' : World} {r : Option Nat} (h : w.grownBy w' r) : Chg w w' (fun b => r = some b) := ⟨h.os, h.tape, h.output, h.size, fun b hb hn => h.block b hb (fun e => hn e.symm)⟩
def Uw (base : Nat) (h : Ghost) (w : World) : Nat → Prop := fun b => base ≤ b ∧ b < w.heap.size ∧ h b = none
structure St (base : Nat) (w0 : World) (h : Ghost) (w : World) (L : List Asrt) : Prop where
  below : Below base w0 w
  bsz : base ≤ w.heap.size
  ghost : Le h (hp w)
  dom : ∀ b o, h b = some o → base ≤ b
  sep : Sep h w (Uw base h w) L
section
variable {base : Nat} {w0 w w' : World} {h : Ghost} {L : List Asrt}
theorem hp_lt {w : World} {b : Nat} {o : Obj} (h : hp w b = some o) : b < w.heap.size := by
  rcases Nat.lt_or_ge b w.heap.size with hlt | hge
  · exact hlt
  · unfold hp at h; rw [Array.getElem?_eq_none hge] at h; cases h
theorem St.init (w : World) : St w.heap.size w (fun _ => none) w [] where
  below := Below.refl _ _
  bsz := Nat.le_refl _
  ghost := fun _ _ e => by cases e
  dom := fun _ _ e => by cases e
  sep := ⟨fun _ _ => False, fun i A hi => by simp at hi, fun i j hi => by simp at hi⟩
theorem St.upd (S : St base w0 h w L) {i : Nat} {A A' : Asrt} (hi : L[i]? = some A)
    (hm : ∀ F, A.holds h w F → (∀ b, F b → Uw base h w b) → Chg w w' F ∧ ∃ F', A'.holds h w' F' ∧ ∀ b, F' b → F b ∨ (w.heap.size ≤ b ∧ b < w'.heap.size)) :
    St base w0 h w' (L.set i A') := by
  obtain ⟨Fs, hF, hD⟩ := S.sep
  obtain ⟨hA, hU⟩ := hF i A hi
  obtain ⟨hc, F', hA', hF'⟩ := hm _ hA hU
  have hlen : i < L.length := (List.getElem?_eq_some_iff.1 hi).1
  have hsame : ∀ b, b < w.heap.size → ¬ Fs i b → w'.heap[b]? = w.heap[b]? := hc.block
  have hfresh : ∀ b, w.heap.size ≤ b → h b = none := fun b hb => by
    cases e : h b with
    | none => rfl
    | some o => have := hp_lt (S.ghost b o e); omega
  refine ⟨?_, Nat.le_trans S.bsz hc.size, ?_, S.dom, ?_⟩
  · refine S.below.trans ⟨hc.os, hc.tape, hc.output, hc.size, fun b hb => hsame b (Nat.lt_of_lt_of_le hb S.bsz) (fun hf => ?_)⟩
    have := (hU b hf).1; omega
  · intro b o e
    have h1 := S.ghost b o e
    have hlt := hp_lt h1
    unfold hp at h1 ⊢
    rw [hsame b hlt (fun hf => by have := (hU b hf).2.2; rw [e] at this; cases this)]
    exact h1
  · refine ⟨fun j => if j = i then F' else Fs j, fun j B hj => ?_, fun j m hjl hml hjm b hb1 hb2 => ?_⟩
    · by_cases hji : j = i
      · subst hji
        rw [List.getElem?_set_self hlen] at hj
        injection hj with hj
        subst hj
        simp only [if_true]
        refine ⟨hA', fun b hb => ?_⟩
        rcases hF' b hb with hb | hb
        · exact ⟨(hU b hb).1, Nat.lt_of_lt_of_le (hU b hb).2.1 hc.size, (hU b hb).2.2⟩
        · exact ⟨Nat.le_trans S.bsz hb.1, hb.2, hfresh b hb.1⟩
      · rw [List.getElem?_set_ne (fun e => hji e.symm)] at hj
        obtain ⟨hB, hUB⟩ := hF j B hj
        have hjlen : j < L.length := (List.getElem?_eq_some_iff.1 hj).1
        simp only [if_neg hji]
        refine ⟨B.far (fun b hb => hsame b (hUB b hb).2.1 (fun hf => hD j i hjlen hlen hji b hb hf)) hB, fun b hb => ?_⟩
        exact ⟨(hUB b hb).1, Nat.lt_of_lt_of_le (hUB b hb).2.1 hc.size, (hUB b hb).2.2⟩
    · have hjl' : j < L.length := by simpa using hjl
      have hml' : m < L.length := by simpa using hml
      have key : ∀ q, q < L.length → q ≠ i → ∀ b, F' b → ¬ Fs q b := fun q hq hqi b hb hb' => by
        rcases hF' b hb with hb | hb
        · exact hD i q hlen hq (fun e => hqi e.symm) b hb hb'
        · have hQ := (hF q (L[q]) (List.getElem?_eq_getElem hq)).2 b hb'
          have := hQ.2.1; omega
      by_cases hji : j = i
      · subst hji
        have hmi : m ≠ j := fun e => hjm e.symm
        simp only [if_true] at hb1
        simp only [if_neg hmi] at hb2
        exact key m hml' hmi b hb1 hb2
      · simp only [if_neg hji] at hb1
        by_cases hmi : m = i
        · subst hmi
          simp only [if_true] at hb2
          exact key j hjl' hji b hb2 hb1
        · simp only [if_neg hmi] at hb2
          exact hD j m hjl' hml' hjm b hb1 hb2
theorem St.keep (S : St base w0 h w L) (hc : Chg w w' (fun _ => False)) : St base w0 h w' L := by
  obtain ⟨Fs, hF, hD⟩ := S.sep
  have hsame : ∀ b, b < w.heap.size → w'.heap[b]? = w.heap[b]? := fun b hb => hc.block b hb (fun x => x)
  refine ⟨S.below.trans ⟨hc.os, hc.tape, hc.output, hc.size, fun b hb => hsame b (Nat.lt_of_lt_of_le hb S.bsz)⟩, Nat.le_trans S.bsz hc.size, ?_, S.dom, Fs, fun i A hi => ?_, hD⟩
  · intro b o e
    have h1 := S.ghost b o e
    unfold hp at h1 ⊢
    rw [hsame b (hp_lt h1)]; exact h1
  · obtain ⟨hA, hU⟩ := hF i A hi
    exact ⟨A.far (fun b hb => hsame b (hU b hb).2.1) hA, fun b hb => ⟨(hU b hb).1, Nat.lt_of_lt_of_le (hU b hb).2.1 hc.size, (hU b hb).2.2⟩⟩
theorem St.call {hn : Ghost} {M : List Asrt} (S : St base w0 h w L) (T : St w.heap.size w hn w' M) : St base w0 (gor h hn) w' (L ++ M) := by
  have S' := S.keep (Chg.of_below T.below)
  obtain ⟨Fs, hF, hD⟩ := S.sep
  obtain ⟨Gs, hG, hE⟩ := T.sep
  have hhn : ∀ b, b < w.heap.size → hn b = none := fun b hb => by
    cases e : hn b with
    | none => rfl
    | some o => have := T.dom b o e; omega
  have hh : ∀ b, w.heap.size ≤ b → h b = none := fun b hb => by
    cases e : h b with
    | none => rfl
    | some o => have := hp_lt (S.ghost b o e); omega
  have hle2 : Le hn (gor h hn) := Le.gor_right fun b o e => hhn b (hp_lt (S.ghost b o e))
  refine ⟨S'.below, S'.bsz, ?_, ?_, ?_⟩
  · intro b o e
    unfold gor at e
    cases hb : h b with
    | none => rw [hb] at e; exact T.ghost b o e
    | some o' => rw [hb] at e; injection e with e; subst e; exact S'.ghost b _ hb
  · intro b o e
    unfold gor at e
    cases hb : h b with
    | none => rw [hb] at e; exact Nat.le_trans S.bsz (T.dom b o e)
    | some o' => exact S.dom b _ hb
  · have hlow : ∀ i A b, L[i]? = some A → Fs i b → b < w.heap.size := fun i A b hi hb => ((hF i A hi).2 b hb).2.1
    refine ⟨fun i => if i < L.length then Fs i else Gs (i - L.length), fun i A hi => ?_, fun i j hil hjl hij b hb1 hb2 => ?_⟩
    · by_cases hil : i < L.length
      · rw [List.getElem?_append_left hil] at hi
        obtain ⟨hA, hU⟩ := hF i A hi
        simp only [if_pos hil]
        refine ⟨A.mono (Le.gor_left _ _) (A.far (fun b hb => T.below.block b (hU b hb).2.1) hA), fun b hb => ?_⟩
        have hu := hU b hb
        refine ⟨hu.1, Nat.lt_of_lt_of_le hu.2.1 T.below.size, ?_⟩
        unfold gor; rw [hu.2.2]; exact hhn b hu.2.1
      · rw [List.getElem?_append_right (by omega)] at hi
        obtain ⟨hA, hU⟩ := hG _ A hi
        simp only [if_neg hil]
        refine ⟨A.mono hle2 hA, fun b hb => ?_⟩
        have hu := hU b hb
        refine ⟨Nat.le_trans S.bsz hu.1, hu.2.1, ?_⟩
        unfold gor; rw [hh b hu.1]; exact hu.2.2
    · rw [List.length_append] at hil hjl
      have low : ∀ q, q < L.length → Fs q b → b < w.heap.size := fun q hq hb => hlow q _ b (List.getElem?_eq_getElem hq) hb
      have high : ∀ q, q < M.length → Gs q b → w.heap.size ≤ b := fun q hq hb => ((hG q _ (List.getElem?_eq_getElem hq)).2 b hb).1
      by_cases hi : i < L.length <;> by_cases hj : j < L.length
      · simp only [if_pos hi] at hb1; simp only [if_pos hj] at hb2
        exact hD i j hi hj hij b hb1 hb2
      · simp only [if_pos hi] at hb1; simp only [if_neg hj] at hb2
        have := low i hi hb1; have := high _ (by omega) hb2; omega
      · simp only [if_neg hi] at hb1; simp only [if_pos hj] at hb2
        have := low j hj hb2; have := high _ (by omega) hb1; omega
      · simp only [if_neg hi] at hb1; simp only [if_neg hj] at hb2
        exact hE _ _ (by omega) (by omega) (by omega) b hb1 hb2
theorem St.pick (S : St base w0 h w L) (is : List Nat) (hnd : is.Nodup) (hlt : ∀ i ∈ is, i < L.length) (L' : List Asrt) (hL : L' = is.map fun i => L.getD i emp) : St base w0 h w L' := by
  obtain ⟨Fs, hF, hD⟩ := S.sep
  subst hL
  refine ⟨S.below, S.bsz, S.ghost, S.dom, fun i => Fs (is.getD i 0), fun i A hi => ?_, fun i j hi hj hij b h1 h2 => ?_⟩
  · rw [List.getElem?_map] at hi
    cases hq : is[i]? with
    | none => rw [hq] at hi; cases hi
    | some q =>
      rw [hq] at hi
      have hql : q < L.length := hlt q (List.mem_of_getElem? hq)
      have hd : is.getD i 0 = q := by simp [List.getD_eq_getElem?_getD, hq]
      simp only [Option.map_some, Option.some.injEq] at hi
      simp only [hd]
      refine hF q A ?_
      rw [← hi]
      simp [List.getD_eq_getElem?_getD, List.getElem?_eq_getElem hql]
  · simp only [List.length_map] at hi hj
    have e1 : is.getD i 0 = is[i] := by simp [List.getD_eq_getElem?_getD, List.getElem?_eq_getElem hi]
    have e2 : is.getD j 0 = is[j] := by simp [List.getD_eq_getElem?_getD, List.getElem?_eq_getElem hj]
    simp only [e1] at h1; simp only [e2] at h2
    refine hD _ _ (hlt _ (List.getElem_mem hi)) (hlt _ (List.getElem_mem hj)) (fun e => hij ?_) b h1 h2
    exact (List.getElem_inj hnd).1 e
theorem add_block (a : Addr) (n : Nat) : (a.add n).block = a.block := by unfold Addr.add; split <;> rfl
theorem add_add (a : Addr) (i j : Nat) : (a.add i).add j = a.add (i + j) := by
  unfold Addr.add
  by_cases hi : i = 0 <;> by_cases hj : j = 0 <;> simp [hi, hj, Nat.add_assoc]
theorem gcell_of_block {h : Ghost} {w : World} {a : Addr} (hb : h a.block = w.heap[a.block]?) : gcell h a = w.cell? a := by
  unfold gcell World.cell?
  rw [hb]
  cases w.heap[a.block]? with
  | none => rfl
  | some o => cases o <;> rfl
theorem za9.leads {α : Type} {k : Kd α} {h h' : Ghost} {w : World} {xs : List α} {cs : List Value} {B : Nat} {T : TypeId} {A : Option Addr} {n c : Nat} (he : za9 k h xs cs) (hl : Le h h')
    (hown : w.ownsRow B T k.sz (.slice A n c) n cs) (hg : ∀ g, (Value.slice A n c).ownBlock = some g → h' g = w.heap[g]?) (hn : xs.length = n) : Leads k h' A xs := fun hne => by
  subst hn
  have hp : 0 < xs.length := List.length_pos_iff.2 hne
  rcases hown.2 with ⟨_, h0⟩ | ⟨g, cap, cur, hv, _, hh, _⟩
  · omega
  · injection hv with hA _ hc
    subst hA
    refine ⟨_, rfl, fun i x hi => ⟨_, k.mono hl (he.2 i x hi), fun j u hj => ?_⟩⟩
    rw [List.getElem?_take] at hj
    split at hj
    · rw [List.getElem?_drop] at hj
      have := hown.cells (g := g) rfl _ u hj
      rw [gcell_of_block (w := w) (by rw [add_block]; exact hg g rfl)]
      exact this
    · cases hj
end
end Gx
namespace Gx
open Go Go.RowKit
def aggD : TypeDesc → Bool
  | .struct _ | .array _ _ => true
  | _ => false
def zam (P : Program) (T : TypeId) : Option (Nat × Nat × Bool × Option Value) :=
  match P.info? T, P.underlying T with
  | some i, some d => some (i.size, i.bytes, aggD d, i.zero)
  | _, _ => none
theorem zaj {P : Program} {T : TypeId} {n b : Nat} {g : Bool} {z : Option Value} (h : zam P T = some (n, b, g, z)) :
    ∃ i d, P.info? T = some i ∧ P.underlying T = some d ∧ i.size = n ∧ i.bytes = b ∧ aggD d = g ∧ i.zero = z := by
  unfold zam at h
  split at h
  · rename_i i d hi hd
    simp only [Option.some.injEq, Prod.mk.injEq] at h
    exact ⟨i, d, hi, hd, h.1, h.2.1, h.2.2.1, h.2.2.2⟩
  · cases h
section
variable {P : Program} {w : World}
theorem run_isAgg {T : TypeId} {d : TypeDesc} (hd : P.underlying T = some d) : (isAgg T).run P w = .ok (aggD d) w := by
  simp only [isAgg, Sem.run_bind]
  rw [run_underlying hd]
  simp only [Result.andThen_ok]
  cases d <;> rfl
theorem za5 {T : TypeId} {i : TypeInfo} (hi : P.info? T = some i) : (Go.sizeOf T).run P w = Result.ok i.size w := by
  simp [Go.sizeOf, typeInfo, hi, go_sem]
theorem run_loadCellsFrom (a : Addr) : ∀ (l : List Value) (i : Nat) (acc : Array Value), (∀ j u, l[j]? = some u → w.cell? (a.add (i + j)) = some u) →
    (loadCellsFrom a i l.length acc).run P w = .ok (acc ++ l.toArray) w
  | [], i, acc, _ => by simp [loadCellsFrom, go_sem]
  | v :: l, i, acc, h => by
    have h0 := h 0 v rfl
    have ih := run_loadCellsFrom a l (i + 1) (acc.push v) (fun j u hj => by have := h (j + 1) u (by simpa using hj); rwa [show i + 1 + j = i + (j + 1) by omega])
    simp only [List.length_cons, loadCellsFrom, Sem.run_bind]
    rw [show (load (a.add i)).run P w = .ok v w by
      unfold load
      simp only [Nat.add_zero] at h0
      simp only [Sem.run, h0]]
    simp only [Result.andThen_ok]
    rw [ih]
    simp
theorem run_loadCells {a : Addr} {l : List Value} {n : Nat} (hn : l.length = n) (h : ∀ j u, l[j]? = some u → w.cell? (a.add j) = some u) : (loadCells a n).run P w = .ok l.toArray w := by
  subst hn
  unfold loadCells
  rw [run_loadCellsFrom a l 0 #[] (fun j u hj => by rw [Nat.zero_add]; exact h j u hj)]
  simp
def packV (g : Bool) (cs : List Value) : Value := if g then .agg cs.toArray else cs.headD undef
theorem run_loadVar {T : TypeId} {n b : Nat} {g : Bool} {z : Option Value} {a : Addr} {cs : List Value} (ht : zam P T = some (n, b, g, z)) (hn : cs.length = n) (h1 : g = false → n = 1)
    (h : ∀ j u, cs[j]? = some u → w.cell? (a.add j) = some u) : (loadVar T a).run P w = .ok (packV g cs) w := by
  obtain ⟨i, d, hi, hd, hs, _, hg, _⟩ := zaj ht
  simp only [loadVar, Sem.run_bind, run_isAgg hd, Result.andThen_ok, hg]
  cases g with
  | true =>
    simp only [if_true, Sem.run_bind, za5 hi, Result.andThen_ok, hs]
    rw [run_loadCells hn h]
    simp [packV, go_sem]
  | false =>
    have hn1 := h1 rfl
    match cs, hn.trans hn1 with
    | [v], _ =>
      have h0 := h 0 v rfl
      have : w.cell? a = some v := by simpa [Addr.add] using h0
      simp [packV, load, Sem.run, this]
def zaw (w : World) (b : Nat) (T : TypeId) (cs : List Value) : World := { w with heap := w.heap.setIfInBounds b (.cells cs.toArray T (0, 0)) }
theorem putBlock_chg (w : World) (b : Nat) (T : TypeId) (cs : List Value) : Chg w (zaw w b T cs) (fun x => x = b) where
  os := rfl
  tape := rfl
  output := rfl
  size := by simp [zaw]
  block := fun x _ hn => by
    simp only [zaw, Array.getElem?_setIfInBounds]
    rw [if_neg (fun e => hn e.symm)]
theorem putBlock_at {b : Nat} (hb : b < w.heap.size) (T : TypeId) (cs : List Value) : (zaw w b T cs).heap[b]? = some (.cells cs.toArray T (0, 0)) := by
  simp [zaw, hb]
theorem putBlock_put (w : World) (b : Nat) (T : TypeId) (cs ds : List Value) : zaw (zaw w b T cs) b T ds = zaw w b T ds := by
  simp [zaw, Array.setIfInBounds_setIfInBounds]
theorem putBlock_size (w : World) (b : Nat) (T : TypeId) (cs : List Value) : (zaw w b T cs).heap.size = w.heap.size := by simp [zaw]
theorem setCell_box {b off : Nat} {T : TypeId} {cs : List Value} (hb : w.heap[b]? = some (.cells cs.toArray T (0, 0))) (v : Value) : w.setCell ⟨b, off, none⟩ v = zaw w b T (cs.set off v) := by
  have hlt : b < w.heap.size := (Array.getElem?_eq_some_iff.1 hb).1
  unfold World.setCell zaw
  congr 1
  apply Array.ext_getElem?
  intro i
  rw [Array.getElem?_modify, Array.getElem?_setIfInBounds]
  by_cases hi : b = i
  · subst hi
    rw [if_pos rfl, if_pos rfl, hb, if_pos hlt]
    simp
  · rw [if_neg hi, if_neg hi]
theorem cell_box {b off : Nat} {T : TypeId} {cs : List Value} (hb : w.heap[b]? = some (.cells cs.toArray T (0, 0))) : w.cell? ⟨b, off, none⟩ = cs[off]? := by
  simp [World.cell?, hb]
theorem frozen_box {b off : Nat} {T : TypeId} {cs : List Value} (hb : w.heap[b]? = some (.cells cs.toArray T (0, 0))) : w.frozen? ⟨b, off, none⟩ = false := by
  simp [World.frozen?, hb]
theorem run_store_box {b off : Nat} {T : TypeId} {cs : List Value} {v : Value} (hb : w.heap[b]? = some (.cells cs.toArray T (0, 0))) (ho : off < cs.length) (h1 : v.oneCell' = true) :
    (store ⟨b, off, none⟩ v).run P w = .ok () (zaw w b T (cs.set off v)) := by
  rw [run_store P w _ v _ h1, cell_box hb, List.getElem?_eq_getElem ho]
  simp only [frozen_box hb]
  rw [setCell_box hb]
  rfl
def lput (cs : List Value) (off : Nat) : List Value → List Value
  | [] => cs
  | v :: vs => lput (cs.set off v) (off + 1) vs
theorem lput_length (vs : List Value) : ∀ (cs : List Value) (off : Nat), (lput cs off vs).length = cs.length := by
  induction vs with
  | nil => intro cs off; rfl
  | cons v vs ih => intro cs off; simp [lput, ih]
theorem lput_get (vs : List Value) : ∀ (cs : List Value) (off i : Nat), off + vs.length ≤ cs.length → (lput cs off vs)[i]? = if off ≤ i ∧ i < off + vs.length then vs[i - off]? else cs[i]? := by
  induction vs with
  | nil => intro cs off i h; rw [if_neg (by simp only [List.length_nil]; omega)]; rfl
  | cons v vs ih =>
    intro cs off i h
    simp only [List.length_cons] at h
    simp only [lput]
    rw [ih _ _ _ (by rw [List.length_set]; omega)]
    by_cases h1 : off = i
    · subst h1
      rw [if_neg (by omega), if_pos (by simp), List.getElem?_set_self (by omega)]
      simp
    · by_cases h2 : off + 1 ≤ i ∧ i < off + 1 + vs.length
      · rw [if_pos h2, if_pos (by simp; omega), show i - off = (i - (off + 1)) + 1 by omega, List.getElem?_cons_succ]
      · rw [if_neg h2, if_neg (by simp; omega), List.getElem?_set_ne h1]
theorem lput_eq (vs cs : List Value) (off : Nat) (h : off + vs.length ≤ cs.length) : lput cs off vs = cs.take off ++ vs ++ cs.drop (off + vs.length) := by
  apply List.ext_getElem?
  intro i
  rw [lput_get vs cs off i h]
  simp only [List.getElem?_append, List.length_append, List.length_take, List.getElem?_take, List.getElem?_drop]
  rw [Nat.min_eq_left (by omega)]
  by_cases h1 : i < off
  · rw [if_neg (by omega), if_pos (by omega), if_pos h1, if_pos h1]
  · by_cases h2 : i < off + vs.length
    · rw [if_pos (by omega), if_pos h2, if_neg h1]
    · rw [if_neg (by omega), if_neg h2]
      congr 1
      omega
theorem run_storeCells_box (vs : List Value) : ∀ (w : World) (b off i : Nat) (T : TypeId) (cs : List Value), w.heap[b]? = some (.cells cs.toArray T (0, 0)) → off + i + vs.length ≤ cs.length → (∀ u ∈ vs, u.oneCell' = true) →
    (storeCells ⟨b, off, none⟩ vs i).run P w = .ok () (zaw w b T (lput cs (off + i) vs)) := by
  induction vs with
  | nil =>
    intro w b off i T cs hb hl h1
    have hlt : b < w.heap.size := (Array.getElem?_eq_some_iff.1 hb).1
    simp only [storeCells, lput]
    have : zaw w b T cs = w := by
      unfold zaw
      congr 1
      apply Array.ext_getElem?
      intro x
      rw [Array.getElem?_setIfInBounds]
      split
      · rename_i e; subst e; rw [hb]; try rw [if_pos hlt]
      · rfl
    rw [this]
    rfl
  | cons v vs ih =>
    intro w b off i T cs hb hl h1
    simp only [List.length_cons] at hl
    have hlt : b < w.heap.size := (Array.getElem?_eq_some_iff.1 hb).1
    have hadd : (⟨b, off, none⟩ : Addr).add i = ⟨b, off + i, none⟩ := by unfold Addr.add; split <;> simp_all
    simp only [storeCells, Sem.run_bind]
    rw [hadd, run_store_box hb (by omega) (h1 v (by simp))]
    simp only [Result.andThen_ok]
    rw [ih (zaw w b T (cs.set (off + i) v)) b off (i + 1) T (cs.set (off + i) v) (putBlock_at hlt _ _) (by simp; omega) (fun u hu => h1 u (by simp [hu]))]
    rw [putBlock_put]
    rfl
theorem run_storeVar_box {b off : Nat} {T E : TypeId} {cs : List Value} {v : Value} {n by' : Nat} {g : Bool} {z : Option Value} (ht : zam P T = some (n, by', g, z)) (hb : w.heap[b]? = some (.cells cs.toArray E (0, 0)))
    (hv : v.cells.size = n) (ho : off + n ≤ cs.length) (h1 : ∀ u ∈ v.cells.toList, u.oneCell' = true) :
    (storeVar T ⟨b, off, none⟩ v).run P w = .ok () (zaw w b E (lput cs off v.cells.toList)) := by
  obtain ⟨i, d, hi, hd, hs, _, hg, _⟩ := zaj ht
  simp only [storeVar, Sem.run_bind, za5 hi, Result.andThen_ok]
  rw [if_neg (by rw [hs]; simp [hv])]
  have := run_storeCells_box (P := P) v.cells.toList w b off 0 E cs hb (by simp [hv]; omega) h1
  simpa [go_sem] using this
end
end Gx
namespace Gx
open Go Go.RowKit
set_option linter.unusedSimpArgs false
theorem zan {x : Int} (h1 : -9223372036854775808 ≤ x) (h2 : x ≤ 9223372036854775807) : inK .i64 x := ⟨h1, h2⟩
theorem in_u8 {x : Int} (h1 : 0 ≤ x) (h2 : x ≤ 255) : inK .u8 x := ⟨h1, h2⟩
theorem in_u64 {x : Int} (h1 : 0 ≤ x) (h2 : x ≤ 18446744073709551615) : inK .u64 x := ⟨h1, h2⟩
theorem i64_lo {x : Int} (h : inK .i64 x) : -9223372036854775808 ≤ x := h.1
theorem i64_hi {x : Int} (h : inK .i64 x) : x ≤ 9223372036854775807 := h.2
theorem u8_lo {x : Int} (h : inK .u8 x) : 0 ≤ x := h.1
theorem u8_hi {x : Int} (h : inK .u8 x) : x ≤ 255 := h.2
theorem u64_lo {x : Int} (h : inK .u64 x) : 0 ≤ x := h.1
theorem u64_hi {x : Int} (h : inK .u64 x) : x ≤ 18446744073709551615 := h.2
theorem wrap_in {k : IntKind} {x : Int} (h : inK k x) : k.wrap x = x := by
  obtain ⟨h1, h2⟩ := h
  unfold IntKind.wrap
  cases k <;> simp only [IntKind.min, IntKind.max, IntKind.bits, IntKind.signed] at * <;> simp at * <;> omega
section
variable {P : Program} {w : World} {ρ : Env} {d : Option Tmp} {ty : TypeId} {pos : String} {af : Array Edge} {g : Option (Nat × Bool)} {x y : Operand}
theorem zac {v : Value} (h : ev ρ x = v) : (execOp (ev ρ) ⟨d, .move x, ty, pos, af, g⟩).run P w = .ok (.value v) w := by subst h; rfl
theorem zah {v : Value} (h : ev ρ x = v) : (execOp (ev ρ) ⟨d, .assign x, ty, pos, af, g⟩).run P w = .ok (.value v) w := by subst h; rfl
theorem x_pick_t {c : Operand} {v : Value} (hc : ev ρ c = .bool true) (h : ev ρ x = v) : (execOp (ev ρ) ⟨d, .pick c x y, ty, pos, af, g⟩).run P w = .ok (.value v) w := by
  subst h; simp [execOp, hc, asBool, go_sem]
theorem x_pick_f {c : Operand} {v : Value} (hc : ev ρ c = .bool false) (h : ev ρ y = v) : (execOp (ev ρ) ⟨d, .pick c x y, ty, pos, af, g⟩).run P w = .ok (.value v) w := by
  subst h; simp [execOp, hc, asBool, go_sem]
theorem x_add {k : IntKind} {a b : Int} {t t2 : TypeId} (hx : ev ρ x = .int k a) (hy : ev ρ y = .int k b) (hr : inK k (a + b)) : (execOp (ev ρ) ⟨d, .binOp .add t x y t2, ty, pos, af, g⟩).run P w = .ok (.value (.int k (a + b))) w := by
  simp [execOp, hx, hy, eqGuard, binOp, Op.intArith, wrap_in hr, go_sem]
theorem x_sub {k : IntKind} {a b : Int} {t t2 : TypeId} (hx : ev ρ x = .int k a) (hy : ev ρ y = .int k b) (hr : inK k (a - b)) : (execOp (ev ρ) ⟨d, .binOp .sub t x y t2, ty, pos, af, g⟩).run P w = .ok (.value (.int k (a - b))) w := by
  simp [execOp, hx, hy, eqGuard, binOp, Op.intArith, wrap_in hr, go_sem]
theorem x_quo {k : IntKind} {a b : Int} {t t2 : TypeId} (hx : ev ρ x = .int k a) (hy : ev ρ y = .int k b) (ha : 0 ≤ a) (hb : 0 < b) (hr : inK k (a / b)) : (execOp (ev ρ) ⟨d, .binOp .quo t x y t2, ty, pos, af, g⟩).run P w = .ok (.value (.int k (a / b))) w := by
  have h0 : b ≠ 0 := by omega
  simp [execOp, hx, hy, eqGuard, binOp, Op.intDiv, h0, Int.tdiv_eq_ediv_of_nonneg ha, wrap_in hr, go_sem]
theorem x_rem {k : IntKind} {a b : Int} {t t2 : TypeId} (hx : ev ρ x = .int k a) (hy : ev ρ y = .int k b) (ha : 0 ≤ a) (hb : 0 < b) : (execOp (ev ρ) ⟨d, .binOp .rem t x y t2, ty, pos, af, g⟩).run P w = .ok (.value (.int k (a % b))) w := by
  have h0 : b ≠ 0 := by omega
  simp [execOp, hx, hy, eqGuard, binOp, Op.intDiv, h0, Int.tmod_eq_emod_of_nonneg ha, go_sem]
theorem x_lss {k : IntKind} {a b : Int} {t t2 : TypeId} (hx : ev ρ x = .int k a) (hy : ev ρ y = .int k b) : (execOp (ev ρ) ⟨d, .binOp .lss t x y t2, ty, pos, af, g⟩).run P w = .ok (.value (.bool (decide (a < b)))) w := by
  simp [execOp, hx, hy, eqGuard, binOp, Op.intCmp, go_sem]
theorem x_gtr {k : IntKind} {a b : Int} {t t2 : TypeId} (hx : ev ρ x = .int k a) (hy : ev ρ y = .int k b) : (execOp (ev ρ) ⟨d, .binOp .gtr t x y t2, ty, pos, af, g⟩).run P w = .ok (.value (.bool (decide (b < a)))) w := by
  simp [execOp, hx, hy, eqGuard, binOp, Op.intCmp, go_sem]
theorem x_eql {k : IntKind} {a b : Int} {t t2 : TypeId} (hx : ev ρ x = .int k a) (hy : ev ρ y = .int k b) : (execOp (ev ρ) ⟨d, .binOp .eql t x y t2, ty, pos, af, g⟩).run P w = .ok (.value (.bool (decide (a = b)))) w := by
  simp [execOp, hx, hy, eqGuard, binOp, Op.intCmp, go_sem]; rfl
theorem x_neq {k : IntKind} {a b : Int} {t t2 : TypeId} (hx : ev ρ x = .int k a) (hy : ev ρ y = .int k b) : (execOp (ev ρ) ⟨d, .binOp .neq t x y t2, ty, pos, af, g⟩).run P w = .ok (.value (.bool (decide (a ≠ b)))) w := by
  simp [execOp, hx, hy, eqGuard, binOp, Op.intCmp, go_sem]; rfl
theorem x_not {b : Bool} {t : TypeId} (hx : ev ρ x = .bool b) : (execOp (ev ρ) ⟨d, .unOp .not t x, ty, pos, af, g⟩).run P w = .ok (.value (.bool (!b))) w := by
  simp [execOp, hx, Op.unary, go_sem]
theorem x_conv {k k' : IntKind} {a : Int} {s t : TypeId} {D : TypeDesc} (hs : P.underlying s = some D) (ht : P.underlying t = some (.int k')) (hx : ev ρ x = .int k a) (hr : inK k' a) : (execOp (ev ρ) ⟨d, .convert s t x, ty, pos, af, g⟩).run P w = .ok (.value (.int k' a)) w := by
  simp [execOp, hx, convert, run_underlying hs, run_underlying ht, Conv.intToInt, wrap_in hr, go_sem]
theorem x_extract {vs : List Value} {v : Value} {j : Nat} (hx : ev ρ x = .tuple vs.toArray) (hj : vs[j]? = some v) : (execOp (ev ρ) ⟨d, .extract x j, ty, pos, af, g⟩).run P w = .ok (.value v) w := by
  simp [execOp, hx, Instr.extract, hj, go_sem]
theorem x_len_slice {A : Option Addr} {n c : Nat} {t : TypeId} {E : TypeId} (ht : P.underlying t = some (.slice E)) (hx : ev ρ x = .slice A n c) : (execOp (ev ρ) ⟨d, .call ⟨.builtin .len, #[x], #[t]⟩, ty, pos, af, g⟩).run P w = .ok (.value (.int .i64 n)) w := by
  simp [execOp, resolve, invoke, builtin, Builtin.len_, run_underlying ht, hx, goInt, go_sem]
theorem zap {s : ByteArray} {t : TypeId} (ht : P.underlying t = some .string) (hx : ev ρ x = .string s) : (execOp (ev ρ) ⟨d, .call ⟨.builtin .len, #[x], #[t]⟩, ty, pos, af, g⟩).run P w = .ok (.value (.int .i64 s.size)) w := by
  simp [execOp, resolve, invoke, builtin, Builtin.len_, run_underlying ht, hx, goInt, go_sem]
theorem x_makeFunc {fn : Fn} {fs cs : Array Operand} {fv cv : Array Value} (hf : fs.map (ev ρ) = fv) (hc : cs.map (ev ρ) = cv) : (execOp (ev ρ) ⟨d, .makeFunc fn fs cs, ty, pos, af, g⟩).run P w = .ok (.value (.func fn fv cv)) w := by
  subst hf; subst hc; simp [execOp, Instr.makeFunc, go_sem]
def zbb (P : Program) (f : FuncId) : Prop := ∃ fn : Func, P.funcs[f]? = some fn ∧ fn.body.isNone = false ∧ (fn.name == "runtime.NumGoroutine") = false
theorem x_call {fo : Operand} {f : FuncId} {al : Array Operand} {ts : Array TypeId} {cap args : Array Value} (hf : zbb P f)
    (ho : ev ρ fo = .func (.func f) #[] cap) (ha : al.map (ev ρ) ++ cap = args) : (execOp (ev ρ) ⟨d, .call ⟨.value fo, al, ts⟩, ty, pos, af, g⟩).run P w = .ok (.enter f args) w := by
  subst ha
  obtain ⟨fn, hf, hb, hn⟩ := hf
  have h1 : ¬ fn.name = "runtime.NumGoroutine" := by simpa using hn
  have h2 : ¬ fn.body = none := by intro e; rw [e] at hb; cases hb
  simp [execOp, resolve, ho, Deferred.ofValue, invoke, callFunc, program, Sem.run, hf, h1, h2, go_sem]
end
end Gx
namespace Gx
open Go Go.RowKit
set_option linter.unusedSimpArgs false
section
variable {P : Program} {f n : Nat} {k : List Item} {ρ : Env} {w : World} {R : Ending → World → Prop} {ops : Array Oper} {rest : List Nat} {i : Nat}
variable {d : Tmp} {ty : TypeId} {pos : String} {af : Array Edge} {x y : Operand} {op : Op}
theorem zag {id : Nat} {l : List Nat} (hl : List.range ops.size = l) (h : Run P f n (.inRegion ops l :: k) ρ w R) : Run P f n (.code (.region id ops false) :: k) ρ w R := run_region (by rw [hl]; exact h)
variable {base : Nat} {w0 : World} {h : Ghost} {L : List Asrt}
theorem box_new (w : World) (T : TypeId) (cs : List Value) (h : Ghost) : (box w.heap.size T cs).holds h (w.alloc (.cells cs.toArray T)) (fun b => b = w.heap.size) := by
  refine ⟨?_, rfl⟩
  show (w.heap.push (.cells cs.toArray T))[w.heap.size]? = _
  simp
theorem St.alloc (S : St base w0 h w L) (T : TypeId) (cs : List Value) : St base w0 h (w.alloc (.cells cs.toArray T)) (L ++ [box w.heap.size T cs]) := by
  have T1 : St w.heap.size w (fun _ => none) (w.alloc (.cells cs.toArray T)) [box w.heap.size T cs] := by
    refine ⟨(Chg.alloc w _).below, by simp, fun _ _ e => (by cases e), fun _ _ e => (by cases e), fun _ b => b = w.heap.size, fun j A hj => ?_, fun i j hi hj hij => ?_⟩
    · have : j = 0 := by
        have := (List.getElem?_eq_some_iff.1 hj).1
        simpa using this
      subst this
      simp only [List.getElem?_cons_zero, Option.some.injEq] at hj
      subst hj
      exact ⟨box_new w T cs _, fun b hb => ⟨by omega, by subst hb; simp, rfl⟩⟩
    · simp at hi hj; omega
  have := S.call T1
  have e : gor h (fun _ => none) = h := by funext b; unfold gor; cases h b <;> rfl
  rwa [e] at this
theorem zero_cells {T : TypeId} {n b : Nat} {g : Bool} {z : Value} (ht : zam P T = some (n, b, g, some z)) : (zeroValue T).run P w = .ok z w := by
  obtain ⟨i, dd, hi, _, _, _, _, hz⟩ := zaj ht
  simp [zeroValue, typeInfo, hi, hz, go_sem]
theorem St.box_at {j b : Nat} {T : TypeId} {cs : List Value} (S : St base w0 h w L) (hj : L[j]? = some (box b T cs)) : w.heap[b]? = some (.cells cs.toArray T (0, 0)) := by
  obtain ⟨Fs, hF, _⟩ := S.sep
  exact ((hF j _ hj).1).1
theorem x_fieldAddr {dd : Option Tmp} {g : Option (Nat × Bool)} {b off q o : Nat} {T : TypeId} {fs : Array Field} {fd : Field} {m b' : Nat} {gg : Bool} {z : Option Value} (ht : P.underlying T = some (.struct fs)) (hf : fs[q]? = some fd) (ho : fd.offset = o) (hs : zam P fd.type = some (m, b', gg, z)) (hm : 0 < m)
    (hx : ev ρ x = .pointer (some ⟨b, off, none⟩)) : (execOp (ev ρ) ⟨dd, .fieldAddr T x q, ty, pos, af, g⟩).run P w = .ok (.value (.pointer (some ⟨b, off + o, none⟩))) w := by
  obtain ⟨ii, d2, hi, hd2, hsz, _, _, _⟩ := zaj hs
  have hadd : (⟨b, off, none⟩ : Addr).add o = ⟨b, off + o, none⟩ := by unfold Addr.add; split <;> simp_all
  subst ho
  simp [execOp, hx, Instr.fieldAt, Instr.sureAddr, run_underlying ht, hf, fieldPlace, za5 hi, hsz, (show ¬ m = 0 by omega), hadd, go_sem]
theorem x_indexAddr_arr {dd : Option Tmp} {g : Option (Nat × Bool)} {b off len : Nat} {q : Int} {T E : TypeId} {kk : IntKind} {m b' : Nat} {gg : Bool} {z : Option Value} (ht : P.underlying T = some (.array len E)) (hs : zam P E = some (m, b', gg, z))
    (hx : ev ρ x = .pointer (some ⟨b, off, none⟩)) (hy : ev ρ y = .int kk q) (h0 : 0 ≤ q) (h1 : q < len) : (execOp (ev ρ) ⟨dd, .indexAddr T x y, ty, pos, af, g⟩).run P w = .ok (.value (.pointer (some ⟨b, off + q.toNat * m, none⟩))) w := by
  obtain ⟨ii, d2, hi, hd2, hsz, _, _, _⟩ := zaj hs
  have hadd : (⟨b, off, none⟩ : Addr).add (q.toNat * m) = ⟨b, off + q.toNat * m, none⟩ := by unfold Addr.add; split <;> simp_all
  simp [execOp, hx, hy, Instr.indexAt, asIntOf, Instr.sureAddr, run_underlying ht, za5 hi, hsz, h0, h1, hadd, go_sem]
end
end Gx
namespace Gx
open Go Go.RowKit
set_option linter.unusedSimpArgs false
set_option linter.unusedSectionVars false
set_option linter.unusedVariables false
def resOne (tmps : Array Value) : ResultVar → Sem Value
  | .tmp t => pure (tmps.getD t undef)
  | .cell a t => do loadVar t (← asAddr (tmps.getD a undef))
def ResOk (P : Program) (n : Nat) (ρ : Env) (w : World) (r : ResultVar) (v : Value) : Prop := ∀ tmps, Fits n ρ tmps → (resOne tmps r).run P w = .ok v w
section
variable {P : Program} {f n : Nat} {k : List Item} {ρ : Env} {w : World} {R : Ending → World → Prop} {base : Nat} {w0 : World} {h : Ghost} {L : List Asrt}
theorem zbc {t : Nat} {v : Value} (hv : ρ t = v) : ResOk P n ρ w (.tmp t) v := fun tmps ht => by
  simp [resOne, ht.2 t, hv, go_sem]
theorem results_eq (fn : Func) (tmps : Array Value) : results fn tmps = (do let vs ← fn.results.mapM (resOne tmps); pure (if h : vs.size = 1 then vs[0] else .tuple vs)) := by
  have e : (fun r : ResultVar => match r with | .tmp t => (pure (tmps.getD t undef) : Sem Value) | .cell a t => do loadVar t (← asAddr (tmps.getD a undef))) = resOne tmps := by
    funext r
    cases r <;> rfl
  rw [← e]
  rfl
theorem res1 {fn : Func} {r : ResultVar} {v : Value} (hr : fn.results = #[r]) (h1 : ResOk P n ρ w r v) : ∀ tmps, Fits n ρ tmps → (results fn tmps).run P w = .ok v w := fun tmps ht => by
  rw [results_eq, hr]; simp [h1 tmps ht, go_sem]
theorem res2 {fn : Func} {r s : ResultVar} {v u : Value} (hr : fn.results = #[r, s]) (h1 : ResOk P n ρ w r v) (h2 : ResOk P n ρ w s u) : ∀ tmps, Fits n ρ tmps → (results fn tmps).run P w = .ok (.tuple #[v, u]) w := fun tmps ht => by
  rw [results_eq, hr]; simp [h1 tmps ht, h2 tmps ht, go_sem]
end
def at_ {α : Type} [Inhabited α] (xs : List α) (i : Int) : α := xs.getD i.toNat default
theorem at_some {α : Type} [Inhabited α] {xs : List α} {i : Int} (h0 : 0 ≤ i) (h1 : i < (xs.length : Int)) : xs[i.toNat]? = some (at_ xs i) := by
  unfold at_
  rw [List.getD_eq_getElem?_getD, List.getElem?_eq_getElem (by omega)]
  rfl
def Seg {α : Type} (k : Kd α) (h : Ghost) (x : α) (ad : Addr) : Prop := ∃ seg, k.rep h x seg ∧ ∀ j u, seg[j]? = some u → gcell h (ad.add j) = some u
theorem Leads.seg {α : Type} [Inhabited α] {k : Kd α} {h : Ghost} {A : Option Addr} {xs : List α} (hl : Leads k h A xs) {i : Int} (h0 : 0 ≤ i) (h1 : i < (xs.length : Int)) : ∃ ad, A = some ad ∧ Seg k h (at_ xs i) (ad.add (i.toNat * k.sz)) := by
  obtain ⟨ad, e, hx⟩ := hl (by intro e; subst e; simp at h1; omega)
  obtain ⟨seg, h2, h3⟩ := hx _ _ (at_some h0 h1)
  exact ⟨ad, e, seg, h2, fun j u hj => by rw [add_add]; exact h3 j u hj⟩
def AtOwn (v : Value) (sz : Nat) (i : Int) (ad : Addr) : Prop := ∃ g, v.ownBlock = some g ∧ ad = ⟨g, i.toNat * sz, none⟩
section
variable {P : Program} {f n : Nat} {k : List Item} {ρ : Env} {w : World} {R : Ending → World → Prop} {ops : Array Oper} {rest : List Nat} {i : Nat}
variable {d : Tmp} {ty : TypeId} {pos : String} {af : Array Edge} {x y : Operand} {op : Op}
variable {base : Nat} {w0 : World} {h : Ghost} {L : List Asrt}
variable {α : Type} [Inhabited α] {kd : Kd α} {xs : List α}
theorem x_indexAddr_slice {A : Addr} {len cap : Nat} {q : Int} {T E : TypeId} {kk : IntKind} {dd : Option Tmp} {g : Option (Nat × Bool)} {m b' : Nat} {gg : Bool} {z : Option Value} (ht : P.underlying T = some (.slice E)) (hs : zam P E = some (m, b', gg, z))
    (hx : ev ρ x = .slice (some A) len cap) (hy : ev ρ y = .int kk q) (h0 : 0 ≤ q) (h1 : q < len) : (execOp (ev ρ) ⟨dd, .indexAddr T x y, ty, pos, af, g⟩).run P w = .ok (.value (.pointer (some (A.add (q.toNat * m))))) w := by
  obtain ⟨ii, d2, hi, hd2, hsz, _, _, _⟩ := zaj hs
  simp [execOp, hx, hy, Instr.indexAt, asIntOf, run_underlying ht, za5 hi, hsz, h0, h1, go_sem]
theorem St.row_at {j : Nat} {T : TypeId} {v : Value} (S : St base w0 h w L) (hj : L[j]? = some (row T kd v xs)) : ∃ cs, w.ownsRow 0 T kd.sz v xs.length cs ∧ za9 kd h xs cs := by
  obtain ⟨Fs, hF, _⟩ := S.sep
  obtain ⟨⟨cs, h1, h2, _⟩, _⟩ := hF j _ hj
  exact ⟨cs, h1, h2⟩
theorem St.row_val {j : Nat} {T : TypeId} {v : Value} (S : St base w0 h w L) (hj : L[j]? = some (row T kd v xs)) : ∃ A c, v = .slice A xs.length c ∧ xs.length ≤ c ∧ c ≤ maxLen := by
  obtain ⟨cs, h1, _⟩ := S.row_at hj
  rcases h1.2 with ⟨hv, h0⟩ | ⟨g, cap, cur, hv, _, _, hl, hc, _⟩
  · exact ⟨none, 0, by rw [hv, h0], by omega, by simp⟩
  · exact ⟨_, cap, hv, hl, hc⟩
theorem St.row_le {j : Nat} {T : TypeId} {v : Value} (S : St base w0 h w L) (hj : L[j]? = some (row T kd v xs)) : xs.length ≤ maxLen := by
  obtain ⟨A, c, _, h1, h2⟩ := S.row_val hj
  omega
theorem St.row_leads {j : Nat} {T : TypeId} {A : Option Addr} {m c : Nat} (S : St base w0 h w L) (hj : L[j]? = some (row T kd (.slice A m c) xs)) : Leads kd (hp w) A xs := by
  obtain ⟨cs, h1, h2⟩ := S.row_at hj
  have hm : xs.length = m := by
    rcases h1.2 with ⟨hv, h0⟩ | ⟨g, cap, cur, hv, _⟩
    · injection hv with _ hm _; omega
    · injection hv with _ hm _; exact hm.symm
  subst hm
  exact h2.leads S.ghost h1 (fun g _ => rfl) rfl
end
end Gx
namespace Gx
open Go Go.RowKit
set_option linter.unusedSimpArgs false
set_option linter.unusedSectionVars false
set_option linter.unusedVariables false
theorem drop_take_set {α : Type} {k : Kd α} {h : Ghost} {xs : List α} {cs seg : List Value} {i : Nat} {x : α} (he : za9 k h xs cs) (hi : i < xs.length) (hx : k.rep h x seg) : za9 k h (xs.set i x) (lput cs (i * k.sz) seg) := by
  have hl := k.len hx
  have hfit : i * k.sz + k.sz ≤ cs.length := by rw [he.1, ← Nat.succ_mul]; exact Nat.mul_le_mul_right _ hi
  refine ⟨by rw [lput_length, he.1, List.length_set], fun j y hj => ?_⟩
  have hjl : j < xs.length := by have := (List.getElem?_eq_some_iff.1 hj).1; simpa using this
  by_cases hji : j = i
  · subst hji
    rw [List.getElem?_set_self hjl] at hj
    injection hj with hj
    subst hj
    have : ((lput cs (j * k.sz) seg).drop (j * k.sz)).take k.sz = seg := by
      apply List.ext_getElem?
      intro q
      rw [List.getElem?_take]
      split
      · rw [List.getElem?_drop, lput_get seg cs _ _ (by omega), if_pos (by omega)]
        congr 1; omega
      · rw [List.getElem?_eq_none (by omega)]
    rw [this]; exact hx
  · rw [List.getElem?_set_ne (fun e => hji e.symm)] at hj
    have : ((lput cs (i * k.sz) seg).drop (j * k.sz)).take k.sz = (cs.drop (j * k.sz)).take k.sz := by
      apply List.ext_getElem?
      intro q
      rw [List.getElem?_take, List.getElem?_take]
      split
      · rw [List.getElem?_drop, List.getElem?_drop, lput_get seg cs _ _ (by omega), if_neg]
        rintro ⟨h1, h2⟩
        rcases Nat.lt_or_gt_of_ne hji with hlt | hgt
        · have : (j + 1) * k.sz ≤ i * k.sz := Nat.mul_le_mul_right _ hlt
          rw [Nat.succ_mul] at this; omega
        · have : (i + 1) * k.sz ≤ j * k.sz := Nat.mul_le_mul_right _ hgt
          rw [Nat.succ_mul] at this; omega
      · rfl
    rw [this]; exact he.2 j y hj
theorem za9.app {α : Type} {k : Kd α} {h : Ghost} {xs ys : List α} {cs ds : List Value} (hx : za9 k h xs cs) (hy : za9 k h ys ds) : za9 k h (xs ++ ys) (cs ++ ds) := by
  refine ⟨by rw [List.length_append, List.length_append, hx.1, hy.1, Nat.add_mul], fun i z hi => ?_⟩
  by_cases hlt : i < xs.length
  · rw [List.getElem?_append_left hlt] at hi
    have hfit : i * k.sz + k.sz ≤ cs.length := by rw [hx.1, ← Nat.succ_mul]; exact Nat.mul_le_mul_right _ hlt
    rw [List.drop_append_of_le_length (by omega), List.take_append_of_le_length (by rw [List.length_drop]; omega)]
    exact hx.2 i z hi
  · rw [List.getElem?_append_right (by omega)] at hi
    have e : i * k.sz = cs.length + (i - xs.length) * k.sz := by rw [hx.1, ← Nat.add_mul]; congr 1; omega
    rw [e, List.drop_append]
    simp only [List.drop_eq_nil_of_le (show cs.length ≤ cs.length + (i - xs.length) * k.sz by omega), List.nil_append]
    rw [show cs.length + (i - xs.length) * k.sz - cs.length = (i - xs.length) * k.sz by omega]
    exact hy.2 _ z hi
theorem za9.nil {α : Type} (k : Kd α) (h : Ghost) : za9 k h [] [] := ⟨by simp, fun i x hi => by simp at hi⟩
theorem za9.one {α : Type} {k : Kd α} {h : Ghost} {xs : List α} {cs : List Value} (he : za9 k h xs cs) : ∀ u ∈ cs, u.oneCell' = true := by
  intro u hu
  obtain ⟨q, hq, rfl⟩ := List.mem_iff_getElem.1 hu
  have hp := k.pos
  have hql : q / k.sz < xs.length := by rw [Nat.div_lt_iff_lt_mul hp, ← he.1]; exact hq
  refine k.one (he.2 (q / k.sz) _ (List.getElem?_eq_getElem hql)) _ ?_
  rw [List.mem_iff_getElem?]
  refine ⟨q % k.sz, ?_⟩
  rw [List.getElem?_take, if_pos (Nat.mod_lt _ hp), List.getElem?_drop, Nat.mul_comm, Nat.div_add_mod, List.getElem?_eq_getElem hq]
theorem za9.single {α : Type} {k : Kd α} {h : Ghost} {x : α} {cs : List Value} (hx : k.rep h x cs) : za9 k h [x] cs := by
  refine ⟨by rw [k.len hx]; simp, fun i y hi => ?_⟩
  cases i with
  | zero =>
    simp only [List.getElem?_cons_zero, Option.some.injEq] at hi
    subst hi
    rw [Nat.zero_mul, List.drop_zero, List.take_of_length_le (by rw [k.len hx]; exact Nat.le_refl _)]; exact hx
  | succ i => simp at hi
theorem za9.cons {α : Type} {k : Kd α} {h : Ghost} {x : α} {xs : List α} {cs ds : List Value} (hx : k.rep h x cs) (hy : za9 k h xs ds) : za9 k h (x :: xs) (cs ++ ds) := (za9.single hx).app hy
section
variable {P : Program} {f n : Nat} {k : List Item} {ρ : Env} {w : World} {R : Ending → World → Prop} {ops : Array Oper} {rest : List Nat} {i : Nat}
variable {d : Tmp} {ty : TypeId} {pos : String} {af : Array Edge} {x y : Operand} {op : Op}
variable {base : Nat} {w0 : World} {h : Ghost} {L : List Asrt}
variable {α : Type} [Inhabited α] {kd : Kd α} {xs : List α}
theorem St.row_add {w' : World} {T : TypeId} {v : Value} {cs : List Value} (S : St base w0 h w L) (hc : Chg w w' (fun _ => False)) (hown : w'.ownsRow w.heap.size T kd.sz v xs.length cs) (hel : za9 kd h xs cs) : St base w0 h w' (L ++ [row T kd v xs]) := by
  have S' := S.keep hc
  obtain ⟨Fs, hF, hD⟩ := S.sep
  have hsame : ∀ b, b < w.heap.size → w'.heap[b]? = w.heap[b]? := fun b hb => hc.block b hb (fun x => x)
  have hfresh : ∀ b, w.heap.size ≤ b → h b = none := fun b hb => by
    cases e : h b with
    | none => rfl
    | some o => have := hp_lt (S.ghost b o e); omega
  have hlt := hown.lt
  refine ⟨S'.below, S'.bsz, S'.ghost, S'.dom, fun q => if q < L.length then Fs q else fun b => v.ownBlock = some b, fun q A hq => ?_, fun p q hp hq hpq b h1 h2 => ?_⟩
  · by_cases hql : q < L.length
    · rw [List.getElem?_append_left hql] at hq
      obtain ⟨hA, hU⟩ := hF q A hq
      simp only [if_pos hql]
      exact ⟨A.far (fun b hb => hsame b (hU b hb).2.1) hA, fun b hb => ⟨(hU b hb).1, Nat.lt_of_lt_of_le (hU b hb).2.1 hc.size, (hU b hb).2.2⟩⟩
    · rw [List.getElem?_append_right (by omega)] at hq
      have h0 : q - L.length = 0 := by
        have := (List.getElem?_eq_some_iff.1 hq).1
        simp at this; omega
      rw [h0] at hq
      simp only [List.getElem?_cons_zero, Option.some.injEq] at hq
      subst hq
      simp only [if_neg hql]
      refine ⟨⟨cs, ⟨hown.1, ?_⟩, hel, fun g hg => hg⟩, fun b hb => ?_⟩
      · rcases hown.2 with h4 | ⟨g, cap, cur, hv, hb, hr⟩
        · exact .inl h4
        · exact .inr ⟨g, cap, cur, hv, Nat.zero_le _, hr⟩
      · have := hlt b hb
        exact ⟨Nat.le_trans S.bsz this.1, this.2, hfresh b this.1⟩
  · rw [List.length_append] at hp hq
    simp only [List.length_cons, List.length_nil] at hp hq
    by_cases hpl : p < L.length <;> by_cases hql : q < L.length
    · simp only [if_pos hpl] at h1; simp only [if_pos hql] at h2
      exact hD p q hpl hql hpq b h1 h2
    · simp only [if_pos hpl] at h1; simp only [if_neg hql] at h2
      have a1 := ((hF p _ (List.getElem?_eq_getElem hpl)).2 b h1).2.1
      have a2 := (hlt b h2).1; omega
    · simp only [if_neg hpl] at h1; simp only [if_pos hql] at h2
      have a1 := ((hF q _ (List.getElem?_eq_getElem hql)).2 b h2).2.1
      have a2 := (hlt b h1).1; omega
    · omega
end
end Gx
namespace Gx
open Go Go.RowKit
set_option linter.unusedSimpArgs false
set_option linter.unusedSectionVars false
set_option linter.unusedVariables false
section
variable {P : Program} {f n : Nat} {k : List Item} {ρ : Env} {w : World} {R : Ending → World → Prop} {ops : Array Oper} {rest : List Nat} {i : Nat}
variable {d : Tmp} {ty : TypeId} {pos : String} {af : Array Edge} {x y : Operand} {op : Op}
variable {base : Nat} {w0 : World} {h : Ghost} {L : List Asrt}
variable {α : Type} [Inhabited α] {kd : Kd α} {xs : List α}
theorem St.row_nil (S : St base w0 h w L) (T : TypeId) (kd : Kd α) : St base w0 h w (L ++ [row T kd (.slice none 0 0) []]) :=
  S.row_add (kd := kd) (xs := []) (cs := []) (Chg.refl w _) (World.ownsRow_nil w _ T kd.sz) (za9.nil kd h)
theorem made_get {z : List Value} {sz m : Nat} (hz : z.length = sz) (h0 : 0 < sz) (i : Nat) (hi : i < m) : ((madeCells z.toArray (m * sz)).toList.drop (i * sz)).take sz = z := by
  have hfit : i * sz + sz ≤ m * sz := by rw [← Nat.succ_mul]; exact Nat.mul_le_mul_right _ hi
  have hlen : (madeCells z.toArray (m * sz)).toList.length = m * sz := by rw [Array.length_toList, size_madeCells]
  apply List.ext_getElem?
  intro q
  rw [List.getElem?_take]
  split
  · rename_i hq
    rw [List.getElem?_drop, List.getElem?_eq_getElem (by omega), List.getElem?_eq_getElem (by omega)]
    congr 1
    simp only [madeCells, Array.getElem_toList, Array.getElem_map, Array.getElem_range, List.size_toArray, hz]
    have : (i * sz + q) % sz = q := by rw [Nat.add_comm, Nat.add_mul_mod_self_right, Nat.mod_eq_of_lt hq]
    rw [this]
    simp [hz, hq]
  · rw [List.getElem?_eq_none (by omega)]
theorem made_elems {z : α} {zc : List Value} {m : Nat} (hr : kd.rep h z zc) : za9 kd h (List.replicate m z) (madeCells zc.toArray (m * kd.sz)).toList := by
  refine ⟨by rw [Array.length_toList, size_madeCells, List.length_replicate], fun i x hi => ?_⟩
  rw [List.getElem?_replicate] at hi
  split at hi
  · injection hi with hi
    subst hi
    rw [made_get (kd.len hr) kd.pos i (by assumption)]
    exact hr
  · cases hi
theorem run_build_slice {T E : TypeId} {m b' len : Nat} {gg : Bool} {zv : Value} {pv : List (Nat × Value)} {cs : List Value} {zc : Array Value} (hT : P.underlying T = some (.slice E))
    (ht : zam P E = some (m, b', gg, some zv)) (hsm : len * m ≤ 100000) (hz : (if len * m = 0 then #[] else zv.cells) = zc) (hf : Instr.fill (fun i => some (i * m, m)) ((Array.range (len * m)).map (zc[· % zc.size]!)) pv = some cs.toArray) :
    (Instr.buildSlice T len pv.toArray).run P w = .ok (.slice (some ⟨w.heap.size, 0, none⟩) len len) (w.alloc (.cells cs.toArray E)) := by
  obtain ⟨ii, dd, hi, _, hs, hby, _, hzz⟩ := zaj ht
  have hns : ¬ (len * m > 2 ^ 24) := by omega
  have e : Instr.buildSlice T len pv.toArray = (do
    let .slice elem ← underlying T | stuck "buildSlice: slice type expected"
    let size ← Go.sizeOf elem
    if len * size > 2 ^ 24 then unsupported (.resourceLimit "buildSlice: more than 2^24 cells")
    let zero ← if len * size = 0 then pure #[] else do pure (← zeroValue elem).cells
    let some cells := Instr.fill (fun i => some (i * size, size)) ((Array.range (len * size)).map (zero[· % zero.size]!)) pv
      | stuck "buildSlice: a part of the wrong size"
    pure (.slice (some (← newRow elem cells)) len len)) := rfl
  rw [e]
  simp only [Sem.run_bind, run_underlying hT, Result.andThen_ok, za5 hi, hs, if_neg hns]
  by_cases h0 : len * m = 0
  · rw [if_pos h0] at hz ⊢
    subst hz
    simp only [Sem.run_bind, Sem.run_pure, Result.andThen_ok, hf]
    rfl
  · rw [if_neg h0] at hz ⊢
    subst hz
    simp only [Sem.run_bind, Sem.run_pure, Result.andThen_ok, zero_cells ht, hf]
    rfl
theorem grown_chg {w w' : World} {v : Value} (hg : w.grownBy w' v.ownBlock) : Chg w w' (fun b => v.ownBlock = some b) := Chg.grown hg
theorem run_append_nothing {B : Nat} {t ty E : TypeId} {ii : TypeInfo} {sz n : Nat} {v : Value} {cs : List Value} (ht : P.underlying t = some (.slice E)) (hi : P.info? E = some ii) (hown : w.ownsRow B E sz v n cs) (c : Nat) : (Builtin.append_ #[t, t] ty #[v, .slice none 0 c]).run P w = .ok v w := by
  rcases hown.2 with ⟨rfl, rfl⟩ | ⟨g, cap, cur, rfl, _, _, hnc, _⟩
  · simp [Builtin.append_, run_underlying ht, Go.sizeOf, typeInfo, hi, Builtin.lenOf, Builtin.firstCells, go_sem]
  · simp [Builtin.append_, run_underlying ht, Go.sizeOf, typeInfo, hi, Builtin.lenOf, Builtin.firstCells, hnc, storeCells, go_sem]
theorem Leads.cells {A : Addr} {ys : List α} (hl : Leads kd (hp w) (some A) ys) : ∃ news, za9 kd (hp w) ys news ∧ ∀ j u, news[j]? = some u → w.cell? (A.add j) = some u := by
  rcases ys with _ | ⟨y0, ys'⟩
  · exact ⟨[], za9.nil _ _, fun j u hj => by simp at hj⟩
  generalize hys : y0 :: ys' = ys at hl
  obtain ⟨ad, hA, hx⟩ := hl (by rw [← hys]; simp)
  injection hA with hA
  subst hA
  let news := (List.range (ys.length * kd.sz)).map fun j => (w.cell? (A.add j)).getD undef
  have hlen : news.length = ys.length * kd.sz := by simp [news]
  have hget : ∀ i e, ys[i]? = some e → ∃ seg, kd.rep (hp w) e seg ∧ ∀ q, q < kd.sz → w.cell? (A.add (i * kd.sz + q)) = seg[q]? := fun i e he => by
    obtain ⟨seg, h1, h2⟩ := hx i e he
    refine ⟨seg, h1, fun q hq => ?_⟩
    have hql : q < seg.length := by rw [kd.len h1]; exact hq
    rw [List.getElem?_eq_getElem hql]
    exact gcell_world (Le.refl _) (h2 q _ (List.getElem?_eq_getElem hql))
  have hcell : ∀ j u, news[j]? = some u → w.cell? (A.add j) = some u := fun j u hj => by
    have hjl : j < ys.length * kd.sz := by rw [← hlen]; exact (List.getElem?_eq_some_iff.1 hj).1
    have hi : j / kd.sz < ys.length := by rw [Nat.div_lt_iff_lt_mul kd.pos]; exact hjl
    obtain ⟨seg, h1, h2⟩ := hget (j / kd.sz) _ (List.getElem?_eq_getElem hi)
    have h3 := h2 (j % kd.sz) (Nat.mod_lt _ kd.pos)
    rw [Nat.mul_comm, Nat.div_add_mod] at h3
    have hql : j % kd.sz < seg.length := by rw [kd.len h1]; exact Nat.mod_lt _ kd.pos
    rw [List.getElem?_eq_getElem hql] at h3
    simp only [news, List.getElem?_map, List.getElem?_range hjl, Option.map_some, h3, Option.getD_some, Option.some.injEq] at hj
    rw [h3, hj]
  refine ⟨news, ⟨hlen, fun i e he => ?_⟩, hcell⟩
  obtain ⟨seg, h1, h2⟩ := hget i e he
  have hi : i < ys.length := (List.getElem?_eq_some_iff.1 he).1
  have hfit : i * kd.sz + kd.sz ≤ ys.length * kd.sz := by rw [← Nat.succ_mul]; exact Nat.mul_le_mul_right _ hi
  have : (news.drop (i * kd.sz)).take kd.sz = seg := by
    apply List.ext_getElem?
    intro q
    rw [List.getElem?_take]
    split
    · rename_i hq
      rw [List.getElem?_drop, List.getElem?_eq_getElem (by omega)]
      have := hcell _ _ (List.getElem?_eq_getElem (show i * kd.sz + q < news.length by omega))
      rw [← h2 q hq, this]
    · rw [List.getElem?_eq_none (by rw [kd.len h1]; omega)]
  rw [this]; exact h1
end
end Gx
namespace Gx
open Go Go.RowKit
set_option linter.unusedSimpArgs false
set_option linter.unusedSectionVars false
set_option linter.unusedVariables false
section
variable {P : Program} {f n : Nat} {k : List Item} {ρ : Env} {w : World} {R : Ending → World → Prop} {ops : Array Oper} {rest : List Nat} {i : Nat}
variable {d : Tmp} {ty : TypeId} {pos : String} {af : Array Edge} {x y : Operand} {op : Op}
variable {base : Nat} {w0 : World} {h : Ghost} {L : List Asrt}
variable {α : Type} [Inhabited α] {kd : Kd α} {xs : List α}
theorem x_index_string {T : TypeId} {s : ByteArray} {q : Int} {kk : IntKind} {dd : Option Tmp} {g : Option (Nat × Bool)} (hT : P.underlying T = some .string) (hx : ev ρ x = .string s) (hy : ev ρ y = .int kk q) (h0 : 0 ≤ q) (h1 : q < (s.size : Int)) :
    (execOp (ev ρ) ⟨dd, .index T x y, ty, pos, af, g⟩).run P w = .ok (.value (.int .u8 ((s.data.toList.getD q.toNat 0).toNat : Nat))) w := by
  have hlt : q.toNat < s.size := by omega
  have hg : s[q.toNat]? = some (s.data.toList.getD q.toNat 0) := by
    rw [getElem?_pos s q.toNat hlt]
    congr 1
    have h2 : q.toNat < s.data.toList.length := by simpa using hlt
    rw [List.getD_eq_getElem?_getD, List.getElem?_eq_getElem h2]
    rfl
  simp only [execOp, hx, hy, Instr.index, asIntOf, Sem.run_bind, Sem.run_pure, Result.andThen_ok, run_underlying hT, if_pos h0, hg]
theorem x_field {T : TypeId} {fs : Array Field} {fd : Field} {q m b' o : Nat} {gg : Bool} {z : Option Value} {cs ds : List Value} {dd : Option Tmp} {g : Option (Nat × Bool)} {v : Value} (hT : P.underlying T = some (.struct fs)) (hf : fs[q]? = some fd) (ho : fd.offset = o) (ht : zam P fd.type = some (m, b', gg, z)) (hx : ev ρ x = .agg cs.toArray) (hs : (cs.drop o).take m = ds) (hm : ds.length = m) (h1 : gg = false → m = 1) (hv : packV gg ds = v) :
    (execOp (ev ρ) ⟨dd, .field T x q, ty, pos, af, g⟩).run P w = .ok (.value v) w := by
  obtain ⟨ii, d2, hi, hd2, hsz, _, hg2, _⟩ := zaj ht
  subst ho
  cases gg with
  | true =>
    have e : cs.toArray.extract fd.offset (fd.offset + m) = ds.toArray := by
      apply Array.ext'
      rw [← hs]
      simp
    simp [execOp, hx, Instr.field, run_underlying hT, hf, asAgg, part, run_isAgg hd2, hg2, za5 hi, hsz, e, ← hv, packV, go_sem]
    exact hs
  | false =>
    have hm1 := h1 rfl
    subst hm1
    match ds, hm with
    | [u], _ =>
      have hu : cs[fd.offset]? = some u := by
        have : ((cs.drop fd.offset).take 1)[0]? = some u := by rw [hs]; rfl
        rw [List.getElem?_take, if_pos (by omega), List.getElem?_drop] at this
        simpa using this
      simp [execOp, hx, Instr.field, run_underlying hT, hf, asAgg, part, run_isAgg hd2, hg2, hu, ← hv, packV, go_sem]
end
end Gx
namespace Gx
open Go Go.RowKit
set_option linter.unusedSimpArgs false
set_option linter.unusedSectionVars false
set_option linter.unusedVariables false
abbrev Gr (w w2 : World) : Prop := Chg w w2 (fun _ => False)
theorem Gr.refl (w : World) : Gr w w := ⟨rfl, rfl, rfl, Nat.le_refl _, fun _ _ _ => rfl⟩
theorem Gr.trans {w w2 w3 : World} (h : Gr w w2) (h2 : Gr w2 w3) : Gr w w3 :=
  ⟨h2.os.trans h.os, h2.tape.trans h.tape, h2.output.trans h.output, Nat.le_trans h.size h2.size, fun b hb _ => (h2.block b (Nat.lt_of_lt_of_le hb h.size) (fun x => x)).trans (h.block b hb (fun x => x))⟩
abbrev Sp := { p : World → Prop // ∀ w w2, Gr w w2 → p w → p w2 }
abbrev Held := List (Nat × Sp)
def waits (ops : Array Oper) (j i : Nat) : Bool := ((ops[j]?).map fun o => o.after.any fun e => Region.binds .any e && e.on == i).getD false
def Keep (ops : Array Oper) (j : Nat) (w : World) : Held → Prop
  | [] => True
  | p :: r => (waits ops j p.1 = false → p.2.1 w) ∧ Keep ops j w r
theorem Keep.mem {ops : Array Oper} {j : Nat} {w : World} : ∀ {H : Held}, Keep ops j w H → ∀ p ∈ H, waits ops j p.1 = false → p.2.1 w
  | p :: r, h, q, hq, hw => by
    rcases List.mem_cons.1 hq with e | e
    · subst e; exact h.1 hw
    · exact Keep.mem h.2 q e hw
def Of (H : Held) (i : Nat) (w : World) : Prop := ∀ p ∈ H, p.1 = i → p.2.1 w
theorem Of.gr {H : Held} {i : Nat} {w w2 : World} (h : Of H i w) (g : Gr w w2) : Of H i w2 := fun p hp hi => p.2.2 w w2 g (h p hp hi)
section
variable {P : Program} {ops : Array Oper} {Q : Exit → Act → World → Prop} {H : Held} {S : World → Prop}
def GivesIf (P : Program) (ops : Array Oper) (S : World → Prop) (o : Oper) (v : Value) (a : Act) : Prop :=
  (Region.wanted o (yielded ops a.tmps) = true ∧ ∀ w, S w → ((execOp a.eval o).run P w = .ok (.value v) w ∨ ∃ g args, (execOp a.eval o).run P w = .ok (.enter g args) w ∧ Calls P g args w fun e w2 => e = .returned v ∧ Gr w w2)) ∨
  (Region.wanted o (yielded ops a.tmps) = false ∧ v = undef)
theorem GivesIf.wpOp {i : Nat} {o : Oper} {v : Value} {a : Act} (hi : ops[i]? = some o) (hy : GivesIf P ops S o v a)
    {K : Act → World → Prop} {w : World} (hS : S w) (h : ∀ w2, Gr w w2 → K (a.put o.dst v) w2) : wpOp P ops Q i K a w := by
  unfold Go.wpOp
  simp only [hi]
  rcases hy with ⟨hw, hv⟩ | ⟨hw, rfl⟩
  · rcases hv w hS with hv | ⟨g, args, hv, hc⟩
    · simp only [hw, if_true, Oper.wp, hv, Oper.upon]; exact .inl (h w (Gr.refl w))
    · simp only [hw, if_true, Oper.wp, hv, Oper.upon]
      refine .inl (Calls.mono hc fun e w2 he => ?_)
      obtain ⟨rfl, hg⟩ := he
      exact h w2 hg
  · simp only [hw, Bool.false_eq_true, if_false]; exact h w (Gr.refl w)
theorem GivesIf.of_same {o : Oper} {v : Value} {a a' : Act} (hy : GivesIf P ops S o v a) (he : execOp a'.eval o = execOp a.eval o)
    (hw : Region.wanted o (yielded ops a'.tmps) = Region.wanted o (yielded ops a.tmps)) : GivesIf P ops S o v a' := by
  unfold GivesIf at *
  rw [he, hw]
  exact hy
theorem wpOp_putG {j : Nat} {oi oj : Oper} {v : Value} (hj : ops[j]? = some oj) (hap : oi.apart ops oj = true)
    (hsi : ∀ cs b, oi.op ≠ .select cs b) (hsj : ∀ cs b, oj.op ≠ .select cs b)
    (hQ : ∀ c a w, Q (.panic c) (a.put oi.dst v) w → Q (.panic c) a w) {K : Act → World → Prop} {a : Act} {w : World}
    (hy : GivesIf P ops S oi v a) (h : wpOp P ops Q j K (a.put oi.dst v) w) :
    wpOp P ops Q j (fun a' w' => GivesIf P ops S oi v a' ∧ K (a'.put oi.dst v) w') a w := by
  obtain ⟨h1, h2, h3⟩ := Oper.apart_spec hap
  have keep : ∀ (a : Act), GivesIf P ops S oi v a → ∀ u, GivesIf P ops S oi v (a.put oj.dst u) := fun a hy u =>
    hy.of_same (execOp_put oi hsi a oj.dst u h3) (wanted_put oi a oj.dst u h3)
  have keepD : ∀ d, GivesIf P ops S oi v { a with defers := d :: a.defers } := fun d => hy.of_same rfl rfl
  unfold wpOp at *
  simp only [hj] at *
  rw [wanted_put oj a oi.dst v h1] at h
  split
  · rename_i hw
    simp only [hw, if_true] at h
    rcases h with h | ⟨hasks, hlets⟩
    case inr => exact .inr ⟨by unfold Oper.asks at *; rw [execOp_put oj hsj a oi.dst v h1] at hasks; exact hasks, hlets⟩
    refine .inl ?_
    unfold Oper.wp at *
    rw [execOp_put oj hsj a oi.dst v h1] at h
    generalize (execOp a.eval oj).run P w = r at *
    cases r with
    | ok n w' =>
      cases n <;> simp only [Oper.upon] at h ⊢
      case value u => exact ⟨keep a hy u, by rw [← Act.put_comm a v u h2]; exact h⟩
      case skip => exact ⟨keep a hy _, by rw [← Act.put_comm a v undef h2]; exact h⟩
      case defer d =>
        refine ⟨keep _ (keepD d) _, ?_⟩
        rw [← Act.put_comm _ v undef h2, ← Act.put_defers]
        exact h
      case enter f args =>
        refine Calls.mono h fun e w'' he => ?_
        cases e with
        | returned u => exact ⟨keep a hy u, by rw [← Act.put_comm a v u h2]; exact he⟩
        | panicked c => exact hQ _ _ _ he
        | outgrown => exact he
      case row row args => exact Rows.mono h fun u w'' he => ⟨keep a hy u, by rw [← Act.put_comm a v u h2]; exact he⟩
    | halt x w' =>
      cases x <;> simp only [Oper.upon] at h ⊢
      case panic u => exact hQ _ _ _ h
  · rename_i hw
    simp only [hw] at h
    exact ⟨keep a hy _, by rw [← Act.put_comm a v undef h2]; exact h⟩
def AnyL (P : Program) (ops : Array Oper) (Q : Exit → Act → World → Prop) (H : Held) : Nat → Array Bool → Act → World → Prop
  | 0, listed, a, w => Region.ready .any ops listed = [] ∧ ∀ w2, Gr w w2 → Q .normal a w2
  | fuel + 1, listed, a, w => ∀ w2, Gr w w2 →
    (Region.ready .any ops listed = [] → Q .normal a w2) ∧
    ∀ i ∈ Region.ready .any ops listed, wpOp P ops Q i (fun a' w' => (Gr w2 w' ∨ Keep ops i w' H) ∧ AnyL P ops Q H fuel (listed.setIfInBounds i true) a' w') a w2
theorem AnyL.gr {w w2 : World} (g : Gr w w2) : ∀ {fuel : Nat} {listed : Array Bool} {a : Act}, AnyL P ops Q H fuel listed a w → AnyL P ops Q H fuel listed a w2
  | 0, _, _, h => ⟨h.1, fun w3 g3 => h.2 w3 (g.trans g3)⟩
  | _ + 1, _, _, h => fun w3 g3 => h w3 (g.trans g3)
theorem wpAny_of_AnyL : ∀ (fuel : Nat) (listed : Array Bool) (a : Act) (w : World), AnyL P ops Q H fuel listed a w → wpAny P .any ops Q fuel listed a w
  | 0, _, _, w, h => ⟨h.1, h.2 w (Gr.refl w)⟩
  | fuel + 1, _, _, w, h => ⟨(h w (Gr.refl w)).1, fun i hi => wpOp_mono (fun a' w' h' => wpAny_of_AnyL fuel _ a' w' h'.2) ((h w (Gr.refl w)).2 i hi)⟩
theorem anyL_first {i : Nat} {oi : Oper} {v : Value} (hi : ops[i]? = some oi) (hsel : ∀ (j : Nat) (o : Oper) cs b, ops[j]? = some o → o.op ≠ .select cs b)
    (hQ : ∀ c a w, Q (.panic c) (a.put oi.dst v) w → Q (.panic c) a w) :
    ∀ (fuel : Nat) (listed : Array Bool) (a : Act) (w : World),
      (∀ j oj, ops[j]? = some oj → j ≠ i → listed.getD j true = false → (∀ e ∈ oj.after, Region.binds .any e = true → e.on ≠ i) → oi.apart ops oj = true) →
      i ∈ Region.ready .any ops listed → GivesIf P ops (Of H i) oi v a → Of H i w →
      AnyL P ops Q H fuel (listed.setIfInBounds i true) (a.put oi.dst v) w → AnyL P ops Q H (fuel + 1) listed a w := by
  intro fuel
  induction fuel with
  | zero =>
    intro listed a w _ hr hy hS hA w2 g2
    refine ⟨fun h => (by rw [h] at hr; cases hr), fun j hj => ?_⟩
    by_cases hji : j = i
    · subst hji; exact hy.wpOp hi (hS.gr g2) fun w3 g3 => ⟨.inl g3, hA.gr (g2.trans g3)⟩
    · have := ready_mono hj hji
      rw [hA.1] at this
      cases this
  | succ fuel ih =>
    intro listed a w hfree hr hy hS hA w2 g2
    refine ⟨fun h => (by rw [h] at hr; cases hr), fun j hj => ?_⟩
    by_cases hji : j = i
    · subst hji; exact hy.wpOp hi (hS.gr g2) fun w3 g3 => ⟨.inl g3, hA.gr (g2.trans g3)⟩
    · have h1 := (hA w2 g2).2 j (ready_mono hj hji)
      obtain ⟨hjun, oj, hoj, hall⟩ := mem_ready.1 hj
      have hun : listed.getD i true = false := (mem_ready.1 hr).1
      have hun' : listed.getD i false = false := by
        rcases Nat.lt_or_ge i listed.size with h' | h'
        · simp only [Array.getD_eq_getD_getElem?, Array.getElem?_eq_getElem h', Option.getD_some] at hun ⊢
          exact hun
        · simp [Array.getElem?_eq_none h']
      have hnot : ∀ e ∈ oj.after, Region.binds .any e = true → e.on ≠ i := fun e he hb heq => by
        have h2 := hall e he hb
        rw [heq, hun'] at h2
        cases h2
      have hw : waits ops j i = false := by
        unfold waits
        rw [hoj]
        simp only [Option.map_some, Option.getD_some]
        cases hq : oj.after.any (fun e => Region.binds .any e && e.on == i) with
        | false => rfl
        | true =>
          obtain ⟨e, he, hb⟩ := Array.any_eq_true'.1 hq
          simp only [Bool.and_eq_true, beq_iff_eq] at hb
          exact absurd hb.2 (hnot e he hb.1)
      have h2 := wpOp_putG hoj (hfree j oj hoj hji hjun hnot) (fun cs b => hsel i oi cs b hi) (fun cs b => hsel j oj cs b hoj) hQ hy h1
      have hfree' : ∀ k ok, ops[k]? = some ok → k ≠ i → (listed.setIfInBounds j true).getD k true = false →
          (∀ e ∈ ok.after, Region.binds .any e = true → e.on ≠ i) → oi.apart ops ok = true := fun k ok hk hki hun hno => by
        refine hfree k ok hk hki ?_ hno
        by_cases hjk : j = k
        · subst hjk; exact hjun
        · rw [getD_set_ne true hjk] at hun; exact hun
      refine wpOp_mono (fun a' w' h3 => ⟨h3.2.1, ih (listed.setIfInBounds j true) a' w' hfree' (ready_mono hr (Ne.symm hji)) h3.1 ?_ ?_⟩) h2
      · rcases h3.2.1 with g | hk
        · exact (hS.gr g2).gr g
        · exact fun p hp hpi => hk.mem p hp (by rw [hpi]; exact hw)
      · rw [Array.setIfInBounds_comm _ _ hji]
        exact h3.2.2
end
section
variable {P : Program} {f n : Nat} {k : List Item} {ρ : Env} {w : World} {R : Ending → World → Prop} {ops : Array Oper} {H : Held} {fuel : Nat} {listed : Array Bool} {i : Nat}
def Qk (P : Program) (f n : Nat) (k : List Item) (R : Ending → World → Prop) : Exit → Act → World → Prop :=
  fun e a w => e = .normal ∧ ∃ tmps ρ, a = ⟨tmps, []⟩ ∧ Fits n ρ tmps ∧ Run P f n k ρ w R
def RA (P : Program) (f n : Nat) (ops : Array Oper) (H : Held) (fuel : Nat) (listed : Array Bool) (k : List Item) (ρ : Env) (w : World) (R : Ending → World → Prop) : Prop :=
  ∀ tmps, Fits n ρ tmps → AnyL P ops (Qk P f n k R) H fuel listed ⟨tmps, []⟩ w
theorem ra_start {id : Nat} (H : Held) (hm : P.follows .mixedOrders = true) (h : ∀ w', Chg w w' (fun _ => False) → w'.heap = w.heap → RA P f n ops H ops.size (Array.replicate ops.size false) k ρ w' R) : Run P f n (.code (.region id ops true) :: k) ρ w R := by
  intro tmps ht cs
  have hw := wp_region_any (P := P) (ops := ops) (Q := Qk P f n k R) (id := id) (a := ⟨tmps, []⟩) (w := w) hm (wpAny_of_AnyL (H := H) _ _ _ _ (h { w with drawn := w.drawn + 1 } ⟨rfl, rfl, rfl, Nat.le_refl _, fun _ _ _ => rfl⟩ rfl tmps ht))
  obtain ⟨e, a', w', ⟨rfl, tmps', ρ', rfl, hf, hrun⟩, harr⟩ := hw (base0 f) k cs
  obtain ⟨e2, w2, fr2, hq, hc, r⟩ := hrun tmps' hf cs
  exact ⟨e2, w2, fr2, hq, Comes.of_steps harr hc, r⟩
theorem zay (hr : Region.ready .any ops listed = []) (h : ∀ w2, Gr w w2 → Run P f n k ρ w2 R) : RA P f n ops H fuel listed k ρ w R := fun tmps ht => by
  have hq : ∀ w2, Gr w w2 → Qk P f n k R .normal ⟨tmps, []⟩ w2 := fun w2 g => ⟨rfl, tmps, ρ, rfl, ht, h w2 g⟩
  cases fuel with
  | zero => exact ⟨hr, hq⟩
  | succ m => exact fun w2 g => ⟨fun _ => hq w2 g, (fun i hi => by rw [hr] at hi; cases hi)⟩
theorem ra_take {o : Oper} {v : Value} (ho : ops[i]? = some o) (hs : Region.noSelect ops = true) (hfr : Region.free .any ops listed i = true) (hr : (Region.ready .any ops listed).contains i = true) (hw : za1 ρ ops o = true) (hd : okO n o.dst = true)
    (hv : ∀ w, Of H i w → (execOp (ev ρ) o).run P w = .ok (.value v) w) (hnow : Of H i w) (h : RA P f n ops H fuel (listed.setIfInBounds i true) k (updO ρ o.dst v) w R) : RA P f n ops H (fuel + 1) listed k ρ w R := fun tmps ht => by
  refine anyL_first ho (Region.noSelect_spec hs) (fun c a w hq => by cases hq.1) fuel listed ⟨tmps, []⟩ w (Region.free_spec ho hfr) (by simpa using hr) (.inl ⟨by rw [wanted_eq ht]; exact hw, fun w hS => .inl (by rw [ht.eval]; exact hv w hS)⟩) hnow ?_
  rw [put_eta]
  exact h _ (ht.putO hd v)
theorem ra_mild {o : Oper} {v : Value} (ho : ops[i]? = some o) (hs : Region.noSelect ops = true) (hfr : Region.free .any ops listed i = true) (hr : (Region.ready .any ops listed).contains i = true) (hw : za1 ρ ops o = true) (hd : okO n o.dst = true)
    (hv : ∀ w, Of H i w → ∃ g args, (execOp (ev ρ) o).run P w = .ok (.enter g args) w ∧ Calls P g args w fun e w2 => e = .returned v ∧ Gr w w2) (hnow : Of H i w) (h : RA P f n ops H fuel (listed.setIfInBounds i true) k (updO ρ o.dst v) w R) : RA P f n ops H (fuel + 1) listed k ρ w R := fun tmps ht => by
  refine anyL_first ho (Region.noSelect_spec hs) (fun c a w hq => by cases hq.1) fuel listed ⟨tmps, []⟩ w (Region.free_spec ho hfr) (by simpa using hr) (.inl ⟨by rw [wanted_eq ht]; exact hw, fun w hS => .inr (by rw [ht.eval]; exact hv w hS)⟩) hnow ?_
  rw [put_eta]
  exact h _ (ht.putO hd v)
theorem ra_off {o : Oper} (ho : ops[i]? = some o) (hs : Region.noSelect ops = true) (hfr : Region.free .any ops listed i = true) (hr : (Region.ready .any ops listed).contains i = true) (hw : za1 ρ ops o = false) (hd : okO n o.dst = true)
    (hnow : Of H i w) (h : RA P f n ops H fuel (listed.setIfInBounds i true) k (updO ρ o.dst undef) w R) : RA P f n ops H (fuel + 1) listed k ρ w R := fun tmps ht => by
  refine anyL_first ho (Region.noSelect_spec hs) (fun c a w hq => by cases hq.1) fuel listed ⟨tmps, []⟩ w (Region.free_spec ho hfr) (by simpa using hr) (.inr ⟨by rw [wanted_eq ht]; exact hw, rfl⟩) hnow ?_
  rw [put_eta]
  exact h _ (ht.putO hd undef)
def RA1 (P : Program) (f n : Nat) (ops : Array Oper) (H : Held) (fuel : Nat) (listed : Array Bool) (k : List Item) (ρ : Env) (w : World) (R : Ending → World → Prop) (i : Nat) : Prop :=
  ∀ tmps, Fits n ρ tmps → wpOp P ops (Qk P f n k R) i (fun a' w' => (Gr w w' ∨ Keep ops i w' H) ∧ AnyL P ops (Qk P f n k R) H fuel (listed.setIfInBounds i true) a' w') ⟨tmps, []⟩ w
theorem ra_one (hr : Region.ready .any ops listed = [i]) (h : ∀ w2, Gr w w2 → RA1 P f n ops H fuel listed k ρ w2 R i) : RA P f n ops H (fuel + 1) listed k ρ w R := fun tmps ht w2 g =>
  ⟨(fun e => by rw [hr] at e; cases e), (fun j hj => by rw [hr] at hj; simp at hj; subst hj; exact h w2 g tmps ht)⟩
theorem ra_op_skip {o : Oper} {w' : World} (ho : ops[i]? = some o) (hw : za1 ρ ops o = true) (hd : okO n o.dst = true) (hr : (execOp (ev ρ) o).run P w = .ok .skip w') (hk : Gr w w' ∨ Keep ops i w' H)
    (h : RA P f n ops H fuel (listed.setIfInBounds i true) k (updO ρ o.dst undef) w' R) : RA1 P f n ops H fuel listed k ρ w R i := fun tmps ht => by
  unfold wpOp
  simp only [ho]
  rw [if_pos (by rw [wanted_eq ht]; exact hw)]
  refine .inl ?_
  unfold Oper.wp
  rw [ht.eval, hr, Oper.upon_skip]
  refine ⟨hk, ?_⟩
  rw [put_eta]
  exact h _ (ht.putO hd undef)
end
end Gx
namespace Gx
open Go Go.RowKit
set_option linter.unusedSimpArgs false
set_option linter.unusedSectionVars false
set_option linter.unusedVariables false
section
variable {P : Program} {f n : Nat} {k : List Item} {ρ : Env} {w w' : World} {R : Ending → World → Prop} {ops : Array Oper} {rest : List Nat} {i : Nat} {H : Held} {fuel : Nat} {listed : Array Bool}
variable {d : Tmp} {ty : TypeId} {pos : String} {af : Array Edge} {gd : Option (Nat × Bool)} {x y : Operand} {op : Op} {v : Value}
theorem p_v (ho : ops[i]? = some ⟨some d, op, ty, pos, af, gd⟩) (hw : za1 ρ ops ⟨some d, op, ty, pos, af, gd⟩ = true) (hd : Nat.blt d n = true) (hr : (execOp (ev ρ) ⟨some d, op, ty, pos, af, gd⟩).run P w = .ok (.value v) w')
    (h : Run P f n (.inRegion ops rest :: k) (upd ρ d v) w' R) : Run P f n (.inRegion ops (i :: rest) :: k) ρ w R := run_op ho hw hd hr h
theorem p_c {g : FuncId} {args : Array Value} {Q : Value → World → Prop} (ho : ops[i]? = some ⟨some d, op, ty, pos, af, gd⟩) (hw : za1 ρ ops ⟨some d, op, ty, pos, af, gd⟩ = true) (hd : Nat.blt d n = true) (hr : (execOp (ev ρ) ⟨some d, op, ty, pos, af, gd⟩).run P w = .ok (.enter g args) w)
    (hc : Calls P g args w fun e w2 => ∃ v, e = .returned v ∧ Q v w2) (h : ∀ v w2, Q v w2 → Run P f n (.inRegion ops rest :: k) (upd ρ d v) w2 R) : Run P f n (.inRegion ops (i :: rest) :: k) ρ w R := run_op_call ho hw hd hr hc h
theorem d_q (F : World → Prop) (hF : ∀ w, Of H i w → F w) (ho : ops[i]? = some ⟨some d, op, ty, pos, af, gd⟩) (hs : Region.noSelect ops = true) (hfr : Region.free .any ops listed i = true) (hr : (Region.ready .any ops listed).contains i = true) (hw : za1 ρ ops ⟨some d, op, ty, pos, af, gd⟩ = true) (hd : Nat.blt d n = true)
    (hv : ∀ w, F w → (execOp (ev ρ) ⟨some d, op, ty, pos, af, gd⟩).run P w = .ok (.value v) w) (hnow : Of H i w) (h : RA P f n ops H fuel (listed.setIfInBounds i true) k (upd ρ d v) w R) : RA P f n ops H (fuel + 1) listed k ρ w R :=
  ra_take ho hs hfr hr hw hd (fun w hO => hv w (hF w hO)) hnow h
theorem za7 (ho : ops[i]? = some ⟨some d, op, ty, pos, af, gd⟩) (hs : Region.noSelect ops = true) (hfr : Region.free .any ops listed i = true) (hr : (Region.ready .any ops listed).contains i = true) (hw : za1 ρ ops ⟨some d, op, ty, pos, af, gd⟩ = false) (hd : Nat.blt d n = true)
    (hnow : Of H i w) (h : RA P f n ops H fuel (listed.setIfInBounds i true) k (upd ρ d undef) w R) : RA P f n ops H (fuel + 1) listed k ρ w R := ra_off ho hs hfr hr hw hd hnow h
theorem d_s (ho : ops[i]? = some ⟨none, op, ty, pos, af, gd⟩) (hw : za1 ρ ops ⟨none, op, ty, pos, af, gd⟩ = true) (hr : (execOp (ev ρ) ⟨none, op, ty, pos, af, gd⟩).run P w = .ok .skip w') (hk : Gr w w' ∨ Keep ops i w' H)
    (h : RA P f n ops H fuel (listed.setIfInBounds i true) k ρ w' R) : RA1 P f n ops H fuel listed k ρ w R i := ra_op_skip ho hw rfl hr hk h
theorem of_nil (i : Nat) (w : World) : Of [] i w := fun p hp => by cases hp
theorem d_m (F : World → Prop) (hF : ∀ w, Of H i w → F w) (ho : ops[i]? = some ⟨some d, op, ty, pos, af, gd⟩) (hs : Region.noSelect ops = true) (hfr : Region.free .any ops listed i = true) (hr : (Region.ready .any ops listed).contains i = true) (hw : za1 ρ ops ⟨some d, op, ty, pos, af, gd⟩ = true) (hd : Nat.blt d n = true)
    {g : FuncId} {args : Array Value} (he : ∀ w, (execOp (ev ρ) ⟨some d, op, ty, pos, af, gd⟩).run P w = .ok (.enter g args) w) (hv : ∀ w, F w → Calls P g args w fun e w2 => e = .returned v ∧ Gr w w2) (hnow : Of H i w) (h : RA P f n ops H fuel (listed.setIfInBounds i true) k (upd ρ d v) w R) : RA P f n ops H (fuel + 1) listed k ρ w R :=
  ra_mild ho hs hfr hr hw hd (fun w hO => ⟨g, args, he w, hv w (hF w hO)⟩) hnow h
def CF (ad : Addr) (seg : List Value) (w : World) : Prop := ∀ j u, seg[j]? = some u → w.cell? (ad.add j) = some u
theorem CF.grow {ad : Addr} {seg : List Value} (hc : Chg w w' (fun _ => False)) (h : CF ad seg w) : CF ad seg w' := fun j u hj => by
  have h1 := h j u hj
  have hlt := World.block_lt_of_cell? w _ h1
  exact (World.cell?_of_block (w := w) (hc.block _ hlt (fun x => x))).trans h1
def CFs (ad : Addr) (seg : List Value) : Sp := ⟨CF ad seg, fun _ _ g h => h.grow g⟩
theorem CF.same {ad : Addr} {seg : List Value} (hh : w'.heap = w.heap) (h : CF ad seg w) : CF ad seg w' := fun j u hj => by
  have h1 := h j u hj
  simpa [World.cell?, hh] using h1
theorem CF.ghost {ad : Addr} {seg : List Value} {h : Ghost} (hs : ∀ j u, seg[j]? = some u → gcell h (ad.add j) = some u) (hle : Le h (hp w)) : CF ad seg w := fun j u hj => gcell_world hle (hs j u hj)
theorem CF.box {b off m : Nat} {T : TypeId} {cs ds : List Value} (hb : w.heap[b]? = some (.cells cs.toArray T (0, 0))) (hs : (cs.drop off).take m = ds) : CF ⟨b, off, none⟩ ds w := fun q u hq => by
  have hadd : (⟨b, off, none⟩ : Addr).add q = ⟨b, off + q, none⟩ := by unfold Addr.add; split <;> simp_all
  rw [hadd, cell_box hb]
  rw [← hs, List.getElem?_take] at hq
  split at hq
  · rwa [List.getElem?_drop] at hq
  · cases hq
end
section
variable {P : Program} {ρ : Env} {w w' : World} {d : Option Tmp} {ty : TypeId} {pos : String} {af : Array Edge} {g : Option (Nat × Bool)} {x y : Operand}
variable {base : Nat} {w0 : World} {h : Ghost} {L : List Asrt}
variable {α : Type} [Inhabited α] {kd : Kd α} {xs : List α}
theorem za0 {T : TypeId} {m b' : Nat} {gg : Bool} {z : Option Value} {ad : Addr} {seg : List Value} (ht : zam P T = some (m, b', gg, z)) (hm : seg.length = m) (h1 : gg = false → m = 1) (hx : ev ρ x = .pointer (some ad)) (hc : CF ad seg w) :
    (execOp (ev ρ) ⟨d, .load T x, ty, pos, af, g⟩).run P w = .ok (.value (packV gg seg)) w := by
  have hl := run_loadVar (P := P) (w := w) (a := ad) ht hm h1 hc
  simp only [execOp, hx, Instr.loadAt, Instr.sureAddr, Sem.run_bind]
  show (((Sem.pure ad).run P w).andThen fun a w' => ((loadVar T a).run P w')).andThen _ = _
  simp only [Sem.run, Result.andThen_ok, hl]
  rfl
theorem x_box {T : TypeId} {v : Value} {a : Addr} (hx : ev ρ x = v) (hr : (newVar T v).run P w = .ok a w') : (execOp (ev ρ) ⟨d, .box T x, ty, pos, af, g⟩).run P w = .ok (.value (.pointer (some a))) w' := by
  simp only [execOp, Instr.box, hx, Sem.run_bind, hr, Result.andThen_ok]; rfl
theorem x_alloc {T : TypeId} {z : Value} {a : Addr} {m b' : Nat} {gg : Bool} (ht : zam P T = some (m, b', gg, some z)) (hr : (newVar T z).run P w = .ok a w') : (execOp (ev ρ) ⟨d, .alloc T, ty, pos, af, g⟩).run P w = .ok (.value (.pointer (some a))) w' := by
  simp only [execOp, Instr.alloc, Sem.run_bind, zero_cells ht, Result.andThen_ok, hr]; rfl
theorem x_store {T : TypeId} {a : Operand} {v : Value} {ad : Addr} (ha : ev ρ a = .pointer (some ad)) (hx : ev ρ x = v) (hr : (storeVar T ad v).run P w = .ok () w') : (execOp (ev ρ) ⟨d, .store T a x, ty, pos, af, g⟩).run P w = .ok .skip w' := by
  simp only [execOp, ha, hx, Instr.storeAt, Instr.sureAddr, Sem.run_bind]
  show (((Sem.pure ad).run P w).andThen fun a w' => ((storeVar T a v).run P w')).andThen _ = _
  simp only [Sem.run, Result.andThen_ok, hr]
  rfl
theorem x_make {T : TypeId} {a b v : Value} (hx : ev ρ x = a) (hy : ev ρ y = b) (hr : (Instr.makeSlice T a b).run P w = .ok v w') : (execOp (ev ρ) ⟨d, .makeSlice T x y, ty, pos, af, g⟩).run P w = .ok (.value v) w' := by
  simp only [execOp, hx, hy, Sem.run_bind, hr, Result.andThen_ok]; rfl
theorem x_build_slice {T : TypeId} {len : Nat} {parts : Array (Nat × Operand)} {pv : List (Nat × Value)} {v : Value} (hp : (parts.map fun (i, x) => (i, ev ρ x)) = pv.toArray) (hr : (Instr.buildSlice T len pv.toArray).run P w = .ok v w') : (execOp (ev ρ) ⟨d, .buildSlice T len parts, ty, pos, af, g⟩).run P w = .ok (.value v) w' := by
  simp only [execOp, hp, Sem.run_bind, hr, Result.andThen_ok]; rfl
theorem x_build {T : TypeId} {parts : Array (Nat × Operand)} {pv : List (Nat × Value)} {v : Value} (hp : (parts.map fun (i, x) => (i, ev ρ x)) = pv.toArray) (hr : (Instr.build T pv.toArray).run P w = .ok v w) : (execOp (ev ρ) ⟨d, .build T parts, ty, pos, af, g⟩).run P w = .ok (.value v) w := by
  simp only [execOp, hp, Sem.run_bind, hr, Result.andThen_ok]; rfl
theorem x_append {T : TypeId} {a b v : Value} (hx : ev ρ x = a) (hy : ev ρ y = b) (hr : (Builtin.append_ #[T, T] ty #[a, b]).run P w = .ok v w') : (execOp (ev ρ) ⟨d, .call ⟨.builtin .append, #[x, y], #[T, T]⟩, ty, pos, af, g⟩).run P w = .ok (.value v) w' := by
  have h1 : ((#[x, y] : Array Operand).map (ev ρ)) = #[a, b] := by simp [hx, hy]
  simp only [execOp, resolve, invoke, builtin, Sem.run_bind, Sem.run_pure, Result.andThen_ok, h1, hr]
theorem x_slice {T : TypeId} {lo hi : Option Operand} {lv hv : Option Value} {a v : Value} (hx : ev ρ x = a) (hl : lo.map (ev ρ) = lv) (hh : hi.map (ev ρ) = hv) (hr : (Instr.sliceAt T a lv hv none).run P w = .ok v w) : (execOp (ev ρ) ⟨d, .slice T x lo hi none, ty, pos, af, g⟩).run P w = .ok (.value v) w := by
  simp only [execOp, hx, hl, hh, Option.map_none, Sem.run_bind, hr, Result.andThen_ok]; rfl
theorem x_index_own {v : Value} {ad : Addr} {len m b' : Nat} {q : Int} {T E : TypeId} {kk : IntKind} {gg : Bool} {z : Option Value} (hT : P.underlying T = some (.slice E)) (ht : zam P E = some (m, b', gg, z))
    (hx : ev ρ x = v) (hy : ev ρ y = .int kk q) (hA : ∃ g cap, v = .slice (some ⟨g, 0, none⟩) len cap ∧ ad = ⟨g, q.toNat * m, none⟩) (h0 : 0 ≤ q) (h1 : q < (len : Int)) : (execOp (ev ρ) ⟨d, .indexAddr T x y, ty, pos, af, g⟩).run P w = .ok (.value (.pointer (some ad))) w := by
  obtain ⟨b, cap, rfl, rfl⟩ := hA
  have hadd : (⟨b, 0, none⟩ : Addr).add (q.toNat * m) = ⟨b, q.toNat * m, none⟩ := by unfold Addr.add; split <;> simp_all
  rw [← hadd]
  exact x_indexAddr_slice hT ht hx hy h0 h1
theorem e_box (S : St base w0 h w L) (T : TypeId) {v : Value} (cs : List Value) (hv : v.cells = cs.toArray) : ∃ b w', (newVar T v).run P w = .ok (⟨b, 0, none⟩ : Addr) w' ∧ Chg w w' (fun _ => False) ∧ St base w0 h w' (L ++ [box b T cs]) :=
  ⟨w.heap.size, w.alloc (.cells cs.toArray T), by simp only [newVar, newRow, newObj, hv, Sem.run_bind]; rfl, Chg.alloc _ _, S.alloc T cs⟩
theorem e_make {T E : TypeId} {kk kk' : IntKind} {q : Int} {m b' : Nat} {gg : Bool} {zv : Value} {z : α} {zc : List Value} (S : St base w0 h w L) (hT : P.underlying T = some (.slice E)) (ht : zam P E = some (m, b', gg, some zv)) (hm : kd.sz = m) (hz : zv.cells = zc.toArray) (hr : kd.rep h z zc)
    (h0 : 0 ≤ q) (hb : (b' : Int) * q ≤ 281474976710656) (h63 : q ≤ 9223372036854775807) :
    ∃ v w', (Instr.makeSlice T (.int kk q) (.int kk' q)).run P w = .ok v w' ∧ Chg w w' (fun _ => False) ∧ St base w0 h w' (L ++ [row E kd v (List.replicate q.toNat z)]) := by
  obtain ⟨ii, dd, hi, _, hs, hby, _, hzz⟩ := zaj ht
  have hrun := run_make (P := P) w T E ii zv hT hi hzz kk kk' q q h0 (Int.le_refl _) (by rw [hby]; exact hb) h63
  rw [hz, hs, ← hm] at hrun
  refine ⟨_, _, hrun, Chg.alloc _ _, ?_⟩
  have hown := World.ownsRow_lit (e := E) (base := w.heap.size) (size := kd.sz) w (madeCells zc.toArray (q.toNat * kd.sz)) q.toNat (Nat.le_refl _) (by simp only [maxLen]; omega) (size_madeCells _ _)
  refine S.row_add (cs := (madeCells zc.toArray (q.toNat * kd.sz)).toList) (Chg.alloc _ _) ?_ (made_elems hr)
  simpa using hown
theorem e_build {T E : TypeId} {m b' len : Nat} {gg : Bool} {zv : Value} {pv : List (Nat × Value)} {cs : List Value} {zc : Array Value} (S : St base w0 h w L) (hT : P.underlying T = some (.slice E)) (ht : zam P E = some (m, b', gg, some zv)) (hm : kd.sz = m) (hlen : xs.length = len) (hsmall : Nat.ble (len * m) 100000 = true)
    (hz : (if len * m = 0 then #[] else zv.cells) = zc) (hf : Instr.fill (fun i => some (i * m, m)) ((Array.range (len * m)).map (zc[· % zc.size]!)) pv = some cs.toArray) (hel : za9 kd h xs cs) :
    ∃ v w', (Instr.buildSlice T len pv.toArray).run P w = .ok v w' ∧ Chg w w' (fun _ => False) ∧ St base w0 h w' (L ++ [row E kd v xs]) := by
  have hsm : len * m ≤ 100000 := by simpa [Nat.ble_eq] using hsmall
  refine ⟨_, _, run_build_slice hT ht hsm hz hf, Chg.alloc _ _, ?_⟩
  have hcs : cs.length = len * kd.sz := by rw [hel.1, hlen]
  have hown := World.ownsRow_lit (e := E) (base := w.heap.size) (size := kd.sz) w cs.toArray len (Nat.le_refl _) (by have := kd.pos; simp only [maxLen]; rw [← hm] at hsm; have : len ≤ len * kd.sz := Nat.le_mul_of_pos_right _ kd.pos; omega) (by simpa using hcs)
  subst hlen
  refine S.row_add (cs := cs) (Chg.alloc _ _) ?_ hel
  simpa using hown
theorem e_index_own {j : Nat} {v : Value} {q : Int} {m : Nat} {E : TypeId} (S : St base w0 h w L) (hj : L[j]? = some (row E kd v xs)) (hm : kd.sz = m) (h0 : 0 ≤ q) (h1 : q < (xs.length : Int)) :
    ∃ ad, (∃ g cap, v = .slice (some ⟨g, 0, none⟩) xs.length cap ∧ ad = ⟨g, q.toNat * m, none⟩) ∧ AtOwn v m q ad := by
  obtain ⟨cs, hown, _⟩ := S.row_at hj
  rcases hown.2 with ⟨_, he⟩ | ⟨g, cap, cur, hv, _⟩
  · omega
  · exact ⟨_, ⟨g, cap, hv, rfl⟩, g, by rw [hv]; rfl, rfl⟩
theorem e_load_own {j : Nat} {v : Value} {q : Int} {m : Nat} {T : TypeId} {ad : Addr} (S : St base w0 h w L) (hj : L[j]? = some (row T kd v xs)) (hm : kd.sz = m) (ha : AtOwn v m q ad) (h0 : 0 ≤ q) (hq : q < (xs.length : Int)) : ∃ seg, kd.rep h (at_ xs q) seg ∧ CF ad seg w := by
  obtain ⟨cs, hown, hel⟩ := S.row_at hj
  obtain ⟨g, hg, rfl⟩ := ha
  subst hm
  refine ⟨_, hel.2 _ _ (at_some h0 hq), fun p u hp => ?_⟩
  rw [List.getElem?_take] at hp
  split at hp
  · rw [List.getElem?_drop] at hp
    have := hown.cells hg _ u hp
    rwa [show (⟨g, q.toNat * kd.sz, none⟩ : Addr).add p = (⟨g, 0, none⟩ : Addr).add (q.toNat * kd.sz + p) by
      unfold Addr.add; split <;> split <;> simp_all]
  · cases hp
end
end Gx
namespace Gx
open Go Go.RowKit
set_option linter.unusedSimpArgs false
set_option linter.unusedSectionVars false
set_option linter.unusedVariables false
section
variable {P : Program} {w : World} {base : Nat} {w0 : World} {h : Ghost} {L : List Asrt}
variable {α : Type} [Inhabited α] {kd : Kd α} {xs : List α}
theorem e_store_own {j : Nat} {v u : Value} {q : Int} {T : TypeId} {m b' : Nat} {gg : Bool} {z : Option Value} {ad : Addr} (e : α) {vs : List Value} (S : St base w0 h w L) (ht : zam P T = some (m, b', gg, z)) (hm : kd.sz = m)
    (hj : L[j]? = some (row T kd v xs)) (hc : u.cells = vs.toArray) (hr : kd.rep h e vs) (hat : AtOwn v m q ad) (h0 : 0 ≤ q) (hq : q < (xs.length : Int)) :
    ∃ w', (storeVar T ad u).run P w = .ok () w' ∧ Chg w w' (fun b => v.ownBlock = some b) ∧ St base w0 h w' (L.set j (row T kd v (xs.set q.toNat e))) := by
  obtain ⟨Fs, hF, _⟩ := S.sep
  obtain ⟨g, hg, rfl⟩ := hat
  subst hm
  have hql : q.toNat < xs.length := by omega
  obtain ⟨⟨cs, hown, hel, hfo⟩, _⟩ := hF j _ hj
  rcases hown.2 with ⟨_, he⟩ | ⟨g', cap, cur, hv, hb, hh, hl, hcap, hcs, htk⟩
  · omega
  have hgg : g' = g := by rw [hv] at hg; simpa [Value.ownBlock] using hg
  subst hgg
  have hlt : g' < w.heap.size := (Array.getElem?_eq_some_iff.1 hh).1
  have hvl := kd.len hr
  have hfit : q.toNat * kd.sz + kd.sz ≤ xs.length * kd.sz := by rw [← Nat.succ_mul]; exact Nat.mul_le_mul_right _ hql
  have hcap' : xs.length * kd.sz ≤ cap * kd.sz := Nat.mul_le_mul_right _ hl
  have hh' : w.heap[g']? = some (.cells cur.toList.toArray T (0, 0)) := by rw [hh]
  have hcl : cur.toList.length = cap * kd.sz := by rw [Array.length_toList]; exact hcs
  have S' : St base w0 h (zaw w g' T (lput cur.toList (q.toNat * kd.sz) vs)) (L.set j (row T kd v (xs.set q.toNat e))) := by
    refine S.upd hj fun F hF' hFU => ?_
    obtain ⟨cs2, hown2, hel2, hfo2⟩ := hF'
    have hFg : F g' := hfo2 g' hg
    refine ⟨(putBlock_chg w g' T _).mono (fun b hb => by subst hb; exact hFg), F, ⟨lput cs (q.toNat * kd.sz) vs, ⟨?_, .inr ⟨g', cap, (lput cur.toList (q.toNat * kd.sz) vs).toArray, ?_, hb, putBlock_at hlt _ _, ?_, hcap, ?_, ?_⟩⟩, drop_take_set hel hql hr, hfo2⟩, fun b hb => .inl hb⟩
    · rw [lput_length, hown.1, List.length_set]
    · rw [hv, List.length_set]
    · rw [List.length_set]; exact hl
    · simp [lput_length, hcs]
    · rw [List.length_set]
      show (lput cur.toList (q.toNat * kd.sz) vs).take _ = _
      apply List.ext_getElem?
      intro p
      rw [List.getElem?_take, lput_get vs cur.toList _ _ (by omega), lput_get vs cs _ _ (by rw [hown.1]; omega)]
      split
      · split
        · rfl
        · rw [← htk, List.getElem?_take, if_pos (by assumption)]
      · rw [if_neg (by omega), List.getElem?_eq_none (by rw [hown.1]; omega)]
  have hrun := run_storeVar_box (P := P) (v := u) (off := q.toNat * kd.sz) ht hh' (by rw [hc]; simpa using hvl) (by omega) (by rw [hc]; simpa using kd.one hr)
  rw [hc] at hrun
  exact ⟨_, hrun, (putBlock_chg w g' T _).mono (fun b hb => by subst hb; exact hg), S'⟩
def News (kd : Kd α) (h : Ghost) (w : World) (A : Option Addr) (ys : List α) : Prop := (A = none ∧ ys = []) ∨ ∃ ad news, A = some ad ∧ za9 kd h ys news ∧ ∀ j u, news[j]? = some u → w.cell? (ad.add j) = some u
theorem news_own {j : Nat} {T : TypeId} {v : Value} {A : Option Addr} {c : Nat} {ys : List α} (S : St base w0 h w L) (hj : L[j]? = some (row T kd v ys)) (hv : v = .slice A ys.length c) : News kd h w A ys := by
  obtain ⟨cs, hown, hel⟩ := S.row_at hj
  subst hv
  rcases hown.2 with ⟨hv, h0⟩ | ⟨g, cap, cur, hv, _⟩
  · injection hv with e _ _
    exact .inl ⟨e, List.eq_nil_of_length_eq_zero h0⟩
  · injection hv with e _ _
    subst e
    exact .inr ⟨_, cs, rfl, hel, fun j u hj => hown.cells (g := g) rfl j u hj⟩
theorem e_append {j : Nat} {T E : TypeId} {m b' : Nat} {gg : Bool} {zv : Value} {v : Value} {A : Option Addr} {c : Nat} {ys : List α} {len : Nat} (ty : TypeId) (S : St base w0 h w L) (hT : P.underlying T = some (.slice E))
    (ht : zam P E = some (m, b', gg, some zv)) (hm : kd.sz = m) (hzs : zv.cells.size = m) (hj : L[j]? = some (row E kd v xs)) (hlen : ys.length = len)
    (hnews : News kd h w A ys) (hbytes : (xs.length + ys.length) * b' ≤ 140737488355328) (hbig : xs.length + ys.length ≤ 9223372036854775807) :
    ∃ v' w', (Builtin.append_ #[T, T] ty #[v, .slice A len c]).run P w = .ok v' w' ∧ Chg w w' (fun b => v.ownBlock = some b) ∧ St base w0 h w' (L.set j (row E kd v' (xs ++ ys))) := by
  obtain ⟨cs, hown, helx⟩ := S.row_at hj
  obtain ⟨ii, dd, hi, _, hs, hby, _, hzz⟩ := zaj ht
  subst hlen; subst hm
  have finish : ∀ v' w' news, (Builtin.append_ #[T, T] ty #[v, .slice A ys.length c]).run P w = .ok v' w' → za9 kd h ys news → w'.ownsRow w.heap.size E kd.sz v' (xs.length + ys.length) (cs ++ news) ∨ w'.ownsRow 0 E kd.sz v' (xs.length + ys.length) (cs ++ news) → w.grownBy w' v.ownBlock → (v'.ownBlock = v.ownBlock ∨ v'.ownBlock = some w.heap.size) → ∃ v' w', (Builtin.append_ #[T, T] ty #[v, .slice A ys.length c]).run P w = .ok v' w' ∧ Chg w w' (fun b => v.ownBlock = some b) ∧ St base w0 h w' (L.set j (row E kd v' (xs ++ ys))) := by
    intro v' w' news hrun helN hown' hg hwhere
    have hown2 : w'.ownsRow 0 E kd.sz v' (xs.length + ys.length) (cs ++ news) := by
      rcases hown' with h1 | h1
      · refine ⟨h1.1, ?_⟩
        rcases h1.2 with h4 | ⟨g, cap, cur, hv, hb, hr⟩
        · exact .inl h4
        · exact .inr ⟨g, cap, cur, hv, Nat.zero_le _, hr⟩
      · exact h1
    have helN' : za9 kd h ys news := helN
    have hlt := hown2.lt
    have S' : St base w0 h w' (L.set j (row E kd v' (xs ++ ys))) := by
      refine S.upd hj fun F hF hFU => ?_
      obtain ⟨cs2, hown3, hel3, hfo⟩ := hF
      have hsame : cs2 = cs := by
        rcases hown3.2 with ⟨hv, h0⟩ | ⟨g, cap, cur, hv, _, hh, _, _, _, htk⟩
        · have e1 : cs2 = [] := List.eq_nil_of_length_eq_zero (by rw [hown3.1, h0]; simp)
          have e2 : cs = [] := List.eq_nil_of_length_eq_zero (by rw [hown.1, h0]; simp)
          rw [e1, e2]
        · rcases hown.2 with ⟨hv', h0'⟩ | ⟨g', cap', cur', hv', _, hh', _, _, _, htk'⟩
          · rw [hv] at hv'; cases hv'
          · rw [hv] at hv'
            injection hv' with e1 _ _
            injection e1 with e1
            injection e1 with e1 _ _
            subst e1
            rw [hh] at hh'
            injection hh' with e2
            injection e2 with e2 _ _
            subst e2
            rw [← htk, ← htk']
      subst hsame
      refine ⟨(grown_chg hg).mono fun b hb => hfo b hb, fun b => v'.ownBlock = some b, ⟨cs2 ++ news, by rw [List.length_append]; exact hown2, hel3.app helN', fun g hg' => hg'⟩, fun b hb => ?_⟩
      rcases hwhere with e | e
      · left; exact hfo b (by rw [← e]; exact hb)
      · right
        have hb2 := (hlt b hb).2
        rw [hb] at e; injection e with e
        omega
    exact ⟨v', w', hrun, grown_chg hg, S'⟩
  rcases hnews with ⟨rfl, rfl⟩ | ⟨ad, news, rfl, helN, hcell⟩
  · exact finish v w [] (run_append_nothing hT hi hown c) (za9.nil _ _) (.inr (by simpa using hown)) (World.grownBy.refl w _) (.inl rfl)
  · obtain ⟨v', w', hrun, h2, h3, _, h5⟩ := run_append_own_at (P := P) w 0 T ty E ii zv kd.sz b' hT hi hzz hs hby hzs kd.pos v xs.length cs hown ad ys.length c news helN.1 hcell helN.one (by simp only [maxLen]; omega) hbytes (Nat.zero_le _)
    exact finish v' w' news hrun helN (.inr h2) h3 h5
end
end Gx
namespace Gx
open Go Go.RowKit
set_option linter.unusedSimpArgs false
set_option linter.unusedSectionVars false
set_option linter.unusedVariables false
theorem all_cons {w : World} {i : Nat} {F : Sp} {H : Held} (h : F.1 w) (hs : ∀ p ∈ H, p.2.1 w) : ∀ p ∈ (i, F) :: H, p.2.1 w := fun p hp => by
  rcases List.mem_cons.1 hp with e | e
  · subst e; exact h
  · exact hs p e
section
variable {P : Program} {f n : Nat} {k : List Item} {ρ : Env} {w w' : World} {R : Ending → World → Prop} {ops : Array Oper} {H : Held} {fuel : Nat} {listed : Array Bool}
theorem run_cond_nsplit {c : Operand} {x y : Code} {b : Bool} (hc : ev ρ c = .bool (!b)) (ht : b = false → Run P f n (.code x :: k) ρ w R) (hf : b = true → Run P f n (.code y :: k) ρ w R) : Run P f n (.code (.cond c x y) :: k) ρ w R :=
  zav hc (fun h => ht (by simpa using h)) (fun h => hf (by simpa using h))
theorem wanted_of {op : Op} {dd : Option Tmp} {ty : TypeId} {pos : String} {af : Array Edge} {j d : Nat} {want b r : Bool} {o' : Oper} (ho : ops[j]? = some o') (hd : o'.dst = some d) (hv : ρ d = .bool b) (hr : (some b == some want) = r) : za1 ρ ops ⟨dd, op, ty, pos, af, some (j, want)⟩ = r := by
  simp only [za1, ho, Option.bind_some, hd, hv, boolOf]
  exact hr
end
section
variable {P : Program} {ρ : Env} {w w' : World} {d : Option Tmp} {ty : TypeId} {pos : String} {af : Array Edge} {g : Option (Nat × Bool)} {x y : Operand}
variable {base : Nat} {w0 : World} {h : Ghost} {L : List Asrt}
variable {α : Type} [Inhabited α] {kd : Kd α} {xs : List α}
theorem row_leads_eq {j : Nat} {T : TypeId} {A : Option Addr} {c : Nat} {v : Value} (S : St base w0 h w L) (hj : L[j]? = some (row T kd v xs)) (hv : v = .slice A xs.length c) : Leads kd (hp w) A xs := by
  subst hv
  exact S.row_leads hj
theorem call_joins {hn : Ghost} {M : List Asrt} (S : St base w0 h w L) (T : St w.heap.size w hn w' M) : ∃ k, Le h k ∧ Le hn k ∧ St base w0 k w' (L ++ M) :=
  ⟨gor h hn, Le.gor_left _ _, Le.gor_right (fun b o e => by
    cases e2 : hn b with
    | none => rfl
    | some o2 => have := T.dom b o2 e2; have := hp_lt (S.ghost b o e); omega), S.call T⟩
theorem bytes_list (a : ByteArray) : a.toList = a.data.toList := ByteArray.toList_eq a
theorem bytes_eq {a b : ByteArray} : (a.toList == b.toList) = decide (a = b) := by
  rw [bytes_list, bytes_list]
  by_cases h : a = b
  · subst h; simp
  · have : a.data.toList ≠ b.data.toList := fun e => h (by cases a; cases b; congr; exact Array.ext' e)
    rw [decide_eq_false h]
    exact beq_eq_false_iff_ne.mpr this
theorem x_eql_string {a b : ByteArray} {t t2 : TypeId} (hx : ev ρ x = .string a) (hy : ev ρ y = .string b) : (execOp (ev ρ) ⟨d, .binOp .eql t x y t2, ty, pos, af, g⟩).run P w = .ok (.value (.bool (decide (a = b)))) w := by
  rw [← bytes_eq]
  simp [execOp, hx, hy, eqGuard, binOp, Op.stringOp, go_sem]
theorem zbe {a b : ByteArray} {t t2 : TypeId} (hx : ev ρ x = .string a) (hy : ev ρ y = .string b) : (execOp (ev ρ) ⟨d, .binOp .neq t x y t2, ty, pos, af, g⟩).run P w = .ok (.value (.bool (decide (a ≠ b)))) w := by
  have e : (!(a.toList == b.toList)) = decide (a ≠ b) := by rw [bytes_eq]; simp
  rw [← e]
  simp [execOp, hx, hy, eqGuard, binOp, Op.stringOp, go_sem]
def byt (s : ByteArray) (i : Int) : Int := ((s.data.toList.getD i.toNat 0).toNat : Nat)
theorem zaq (s : ByteArray) (i : Int) : 0 ≤ byt s i ∧ byt s i ≤ 255 := by
  unfold byt
  have := (s.data.toList.getD i.toNat 0).toNat_lt
  omega
theorem zao {T : TypeId} {s : ByteArray} {q : Int} {kk : IntKind} (hT : P.underlying T = some .string) (hx : ev ρ x = .string s) (hy : ev ρ y = .int kk q) (h0 : 0 ≤ q) (h1 : q < (s.size : Int)) :
    (execOp (ev ρ) ⟨d, .index T x y, ty, pos, af, g⟩).run P w = .ok (.value (.int .u8 (byt s q))) w := x_index_string hT hx hy h0 h1
end
end Gx
/-! Short names for what printed walks say often (lay2.py puts them in). -/
open Go Go.RowKit
namespace Gx
theorem bT {p : Prop} [Decidable p] (h : p) : Value.bool (decide p) = Value.bool true := congrArg Value.bool (decide_eq_true h)
theorem bF {p : Prop} [Decidable p] (h : ¬ p) : Value.bool (decide p) = Value.bool false := congrArg Value.bool (decide_eq_false h)
theorem wo {ρ : Env} {ops : Array Oper} {op : Op} {dd : Option Tmp} {ty : TypeId} {pos : String} {af : Array Edge} (j d : Nat) {want b r : Bool} {o' : Oper} (ho : ops[j]? = some o') (hd : o'.dst = some d) (hv : ρ d = .bool b) (hr : (some b == some want) = r) : za1 ρ ops ⟨dd, op, ty, pos, af, some (j, want)⟩ = r := wanted_of ho hd hv hr
end Gx

namespace Gx
open Go Go.RowKit
set_option linter.unusedSimpArgs false
set_option linter.unusedSectionVars false
set_option linter.unusedVariables false
def za2 (P : Program) (T : TypeId) (q : Nat) : Option (Nat × TypeId) :=
  match P.underlying T with
  | some (.struct fs) => (fs[q]?).map fun f => (f.offset, f.type)
  | _ => none
def placesInfo (P : Program) (T : TypeId) : Option (List (Nat × Nat)) :=
  match P.underlying T with
  | some (.struct fs) => fs.toList.mapM fun f => (P.info? f.type).map fun i => (f.offset, i.size)
  | _ => none
theorem fieldInfo_parts {P : Program} {T : TypeId} {q o : Nat} {ft : TypeId} (h : za2 P T q = some (o, ft)) : ∃ fs fd, P.underlying T = some (.struct fs) ∧ fs[q]? = some fd ∧ fd.offset = o ∧ fd.type = ft := by
  unfold za2 at h
  split at h
  · rename_i fs hu
    cases hq : fs[q]? with
    | none => rw [hq] at h; cases h
    | some fd =>
      rw [hq] at h
      simp only [Option.map_some, Option.some.injEq, Prod.mk.injEq] at h
      exact ⟨fs, fd, hu, hq, h.1, h.2⟩
  · cases h
section
variable {P : Program} {ρ : Env} {w w' : World} {d : Option Tmp} {ty : TypeId} {pos : String} {af : Array Edge} {g : Option (Nat × Bool)} {x y : Operand}
theorem x_fieldAt {b off q o : Nat} {T ft : TypeId} {m b' : Nat} {gg : Bool} {z : Option Value} (hf : za2 P T q = some (o, ft)) (hs : zam P ft = some (m, b', gg, z)) (hm : Nat.blt 0 m = true) (hx : ev ρ x = .pointer (some ⟨b, off, none⟩)) :
    (execOp (ev ρ) ⟨d, .fieldAddr T x q, ty, pos, af, g⟩).run P w = .ok (.value (.pointer (some ⟨b, off + o, none⟩))) w := by
  obtain ⟨fs, fd, hu, hq, ho, rfl⟩ := fieldInfo_parts hf
  exact x_fieldAddr hu hq ho hs (by simpa [Nat.blt_eq] using hm) hx
theorem x_fieldOf {T ft : TypeId} {q m b' o : Nat} {gg : Bool} {z : Option Value} {cs ds : List Value} {v : Value} (hf : za2 P T q = some (o, ft)) (ht : zam P ft = some (m, b', gg, z)) (hx : ev ρ x = .agg cs.toArray) (hs : (cs.drop o).take m = ds) (hm : ds.length = m) (h1 : gg = false → m = 1) (hv : packV gg ds = v) :
    (execOp (ev ρ) ⟨d, .field T x q, ty, pos, af, g⟩).run P w = .ok (.value v) w := by
  obtain ⟨fs, fd, hu, hq, ho, rfl⟩ := fieldInfo_parts hf
  exact x_field hu hq ho ht hx hs hm h1 hv
theorem mapM_places {P : Program} {w : World} : ∀ (l : List Field) (ps : List (Nat × Nat)), l.mapM (fun f => (P.info? f.type).map fun i => (f.offset, i.size)) = some ps → (l.mapM fun f => (do pure (f.offset, ← Go.sizeOf f.type) : Sem (Nat × Nat))).run P w = .ok ps w
  | [], ps, h => by
    simp only [List.mapM_nil, Option.pure_def, Option.some.injEq] at h
    subst h
    rfl
  | f :: l, ps, h => by
    rw [List.mapM_cons] at h
    cases hi : P.info? f.type with
    | none => simp [hi] at h
    | some i =>
      cases hl : l.mapM (fun f => (P.info? f.type).map fun i => (f.offset, i.size)) with
      | none => simp [hi, hl] at h
      | some qs =>
        simp [hi, hl] at h
        subst h
        have ih := mapM_places (w := w) l qs hl
        rw [List.mapM_cons]
        simp only [Sem.run_bind, za5 hi, Result.andThen_ok, Sem.run_pure, ih]
theorem run_build_struct {T : TypeId} {ps : List (Nat × Nat)} {zc : Array Value} {m b' : Nat} {gg : Bool} {zv : Value} {pv : List (Nat × Value)} {cs : List Value} (hp : placesInfo P T = some ps) (ht : zam P T = some (m, b', gg, some zv)) (hz : zv.cells = zc)
    (hf : Instr.fill (ps.toArray[·]?) zc pv = some cs.toArray) : (Instr.build T pv.toArray).run P w = .ok (.agg cs.toArray) w := by
  unfold placesInfo at hp
  split at hp
  · rename_i fs hu
    have h1 := mapM_places (w := w) fs.toList ps hp
    have h2 : (fs.mapM fun f => (do pure (f.offset, ← Go.sizeOf f.type) : Sem (Nat × Nat))).run P w = .ok ps.toArray w := by
      rw [Array.mapM_eq_mapM_toList, Sem.run_map]
      show ((fs.toList.mapM fun f => (do pure (f.offset, ← Go.sizeOf f.type) : Sem (Nat × Nat))).run P w).andThen _ = _
      rw [h1]; rfl
    subst hz
    simp only [Instr.build, Sem.run_bind, zero_cells ht, Result.andThen_ok, run_underlying hu, h2, hf]
    rfl
  · cases hp
end
theorem calls_some {P : Program} {f : FuncId} {args : Array Value} {w : World} {R : Ending → World → Prop} (h : Calls P f args w R) : ∃ e w', R e w' := by
  obtain ⟨e, w', _, hr, _⟩ := h []
  exact ⟨e, w', hr⟩
def Block (b : Nat) (cs : List Value) (w : World) : Prop := ∀ j, j < cs.length → w.cell? ⟨b, j, none⟩ = cs[j]?
theorem Block.gr {b : Nat} {cs : List Value} {w w2 : World} (g : Gr w w2) (h : Block b cs w) : Block b cs w2 := fun j hj => by
  have h1 := h j hj
  rw [List.getElem?_eq_getElem hj] at h1 ⊢
  have hlt := World.block_lt_of_cell? w _ h1
  exact (World.cell?_of_block (w := w) (g.block _ hlt (fun x => x))).trans h1
theorem Block.st {b : Nat} {cs : List Value} {w w2 : World} {h : Ghost} {L : List Asrt} (S : St w.heap.size w h w2 L) (hb : Block b cs w) : Block b cs w2 := hb.gr (Chg.of_below S.below)
section
variable {ops : Array Oper} {H : Held} {i j : Nat} {F : Sp} {w : World}
theorem keep_w (hw : waits ops j i = true) (h : Keep ops j w H) : Keep ops j w ((i, F) :: H) := ⟨fun e => (by rw [hw] at e; cases e), h⟩
end
section
variable {H : Held} {i j : Nat} {F : Sp} {w : World}
theorem of_eq (hf : F.1 w) (h : Of H i w) : Of ((j, F) :: H) i w := fun p hp hi => by
  rcases List.mem_cons.1 hp with e | e
  · subst e; exact hf
  · exact h p e hi
theorem of_ne (hn : Nat.beq j i = false) (h : Of H i w) : Of ((j, F) :: H) i w := fun p hp hi => by
  rcases List.mem_cons.1 hp with e | e
  · subst e; simp at hi; subst hi; simp at hn
  · exact h p e hi
end
theorem zae {H : Held} {i : Nat} {w : World} (h : H.all (fun p => !Nat.beq p.1 i) = true) : Of H i w := fun p hp hi => by
  have := List.all_eq_true.1 h p hp
  subst hi
  simp at this
section
variable {P : Program} {f n : Nat} {k : List Item} {ρ : Env} {w : World} {R : Ending → World → Prop} {ops : Array Oper} {i : Nat} {H : Held} {fuel : Nat} {listed : Array Bool}
variable {d : Tmp} {ty : TypeId} {pos : String} {af : Array Edge} {gd : Option (Nat × Bool)} {op : Op} {v : Value} {F : Sp}
def goable (ops : Array Oper) (listed : Array Bool) (i : Nat) : Bool := Region.noSelect ops && (Region.free .any ops listed i && (Region.ready .any ops listed).contains i)
theorem goable_of (h : goable ops listed i = true) : Region.noSelect ops = true ∧ Region.free .any ops listed i = true ∧ (Region.ready .any ops listed).contains i = true := by
  unfold goable at h
  rw [Bool.and_eq_true, Bool.and_eq_true] at h
  exact h
theorem qd0 (ho : ops[i]? = some ⟨some d, op, ty, pos, af, gd⟩) (hz : goable ops listed i = true) (hw : za1 ρ ops ⟨some d, op, ty, pos, af, gd⟩ = true) (hd : Nat.blt d n = true)
    (hv : ∀ {w : World}, (execOp (ev ρ) ⟨some d, op, ty, pos, af, gd⟩).run P w = .ok (.value v) w) (hnow : Of H i w) (h : RA P f n ops H fuel (listed.setIfInBounds i true) k (upd ρ d v) w R) : RA P f n ops H (fuel + 1) listed k ρ w R :=
  d_q (fun _ => True) (fun _ _ => trivial) ho (goable_of hz).1 (goable_of hz).2.1 (goable_of hz).2.2 hw hd (fun _ _ => hv) hnow h
theorem qd1 (q : Nat) (hq : H[q]? = some (i, F)) (ho : ops[i]? = some ⟨some d, op, ty, pos, af, gd⟩) (hz : goable ops listed i = true) (hw : za1 ρ ops ⟨some d, op, ty, pos, af, gd⟩ = true) (hd : Nat.blt d n = true)
    (hv : ∀ w, F.1 w → (execOp (ev ρ) ⟨some d, op, ty, pos, af, gd⟩).run P w = .ok (.value v) w) (hnow : Of H i w) (h : RA P f n ops H fuel (listed.setIfInBounds i true) k (upd ρ d v) w R) : RA P f n ops H (fuel + 1) listed k ρ w R :=
  d_q F.1 (fun _ hO => hO _ (List.mem_of_getElem? hq) rfl) ho (goable_of hz).1 (goable_of hz).2.1 (goable_of hz).2.2 hw hd hv hnow h
end
theorem lAa (a : Asrt) (l r : List Asrt) : (a :: l) ++ r = a :: (l ++ r) := rfl
theorem lAn (r : List Asrt) : [] ++ r = r := rfl
theorem lA0 (a x : Asrt) (l : List Asrt) : (a :: l).set 0 x = x :: l := rfl
theorem lAs (a x : Asrt) (l : List Asrt) (n : Nat) : (a :: l).set (n + 1) x = a :: l.set n x := rfl
theorem St.fx {base : Nat} {w0 w : World} {h : Ghost} {L : List Asrt} (S : St base w0 h w L) (j : Nat) (A : Asrt) (hj : L[j]? = some A) : St base w0 h w (L.set j A) := by
  have e : L.set j A = L := by
    apply List.ext_getElem?
    intro i
    rw [List.getElem?_set]
    by_cases hi : j = i
    · subst hi
      rw [if_pos rfl, hj, if_pos (List.getElem?_eq_some_iff.1 hj).1]
    · rw [if_neg hi]
  rw [e]; exact S
theorem spUp {F : Sp} {w w' : World} (g : Gr w w') (h : F.1 w) : F.1 w' := F.2 _ _ g h
def HA : Held → World → Prop
  | [], _ => True
  | p :: H, w => p.2.1 w ∧ HA H w
theorem hkN {w : World} : HA [] w := trivial
theorem hkC {F : Sp} {H : Held} {w : World} (i : Nat) (h : F.1 w) (t : HA H w) : HA ((i, F) :: H) w := ⟨h, t⟩
section
variable {P : Program} {f n : Nat} {k : List Item} {ρ : Env} {w : World} {R : Ending → World → Prop} {ops : Array Oper} {H X : Held} {fuel : Nat} {listed : Array Bool}
end
end Gx
namespace Gx
open Go Go.RowKit
set_option linter.unusedSimpArgs false
set_option linter.unusedSectionVars false
set_option linter.unusedVariables false
def encInts (k : IntKind) (xs : List Int) : List Value := xs.map fun x => .int k x
def okInts (k : IntKind) (n : Nat) (xs : List Int) : Prop := xs.length = n ∧ ∀ x ∈ xs, inK k x
theorem encInts_one (k : IntKind) (xs : List Int) : ∀ u ∈ encInts k xs, u.oneCell' = true := by simp [encInts, Value.oneCell']
def kInts (k : IntKind) (n : Nat) (h : 0 < n) : Kd (List Int) := .flat (encInts k) (okInts k n) n h (fun x hx => by simp [encInts, hx.1]) (encInts_one k)
section
variable {k : IntKind} {n : Nat} {xs : List Int} {bs : List Bool} {i v : Int}
theorem take1 {α : Type} {l : List α} {i : Nat} {a : α} (h : l[i]? = some a) : (l.drop i).take 1 = [a] := by
  obtain ⟨hi, e⟩ := List.getElem?_eq_some_iff.1 h
  rw [List.drop_eq_getElem_cons hi, e]
  rfl
theorem encInts_at (h : okInts k n xs) (h0 : 0 ≤ i) (h1 : i < (n : Int)) : ((encInts k xs).drop (0 + i.toNat * 1)).take 1 = [.int k (at_ xs i)] := by
  have hl := h.1
  rw [Nat.zero_add, Nat.mul_one]
  refine take1 ?_
  rw [encInts, List.getElem?_map, at_some h0 (by omega)]
  rfl
theorem okInts_at (h : okInts k n xs) (h0 : 0 ≤ i) (h1 : i < (n : Int)) : inK k (at_ xs i) := h.2 _ (List.mem_of_getElem? (at_some h0 (by rw [h.1]; exact h1)))
end
abbrev BSet := BitVec 256
def wd (s : BSet) (i : Nat) : Int := ((s.toNat / 2 ^ (64 * i) % 18446744073709551616 : Nat) : Int)
def words (s : BSet) : List Int := [wd s 0, wd s 1, wd s 2, wd s 3]
theorem wd_in (s : BSet) (i : Nat) : inK .u64 (wd s i) := by
  unfold wd
  refine in_u64 ?_ ?_ <;> omega
theorem okWords (s : BSet) : okInts .u64 4 (words s) := ⟨rfl, fun x hx => by simp [words] at hx; rcases hx with e | e | e | e <;> rw [e] <;> exact wd_in s _⟩
def zab (s : BSet) : List Value := encInts .u64 (words s)
theorem encSet_one (s : BSet) : ∀ u ∈ zab s, u.oneCell' = true := encInts_one _ _
def kSet : Kd BSet := .flat zab (fun _ => True) 4 (by omega) (fun _ _ => rfl) encSet_one
def ofWords (xs : List Int) : BSet := BitVec.ofNat 256 ((at_ xs 0).toNat + (at_ xs 1).toNat * 18446744073709551616 + (at_ xs 2).toNat * 340282366920938463463374607431768211456 + (at_ xs 3).toNat * 6277101735386680763835789423207666416102355444464034512896)
theorem words_of {xs : List Int} (h : okInts .u64 4 xs) : words (ofWords xs) = xs := by
  obtain ⟨hl, hr⟩ := h
  match xs, hl with
  | [a, b, c, d], _ =>
    have ha := hr a (by simp); have hb := hr b (by simp); have hc := hr c (by simp); have hd := hr d (by simp)
    have a0 := u64_lo ha; have a1 := u64_hi ha; have b0 := u64_lo hb; have b1 := u64_hi hb; have c0 := u64_lo hc; have c1 := u64_hi hc; have d0 := u64_lo hd; have d1 := u64_hi hd
    have e0 : at_ [a, b, c, d] 0 = a := rfl
    have e1 : at_ [a, b, c, d] 1 = b := rfl
    have e2 : at_ [a, b, c, d] 2 = c := rfl
    have e3 : at_ [a, b, c, d] 3 = d := rfl
    obtain ⟨a', rfl⟩ := Int.eq_ofNat_of_zero_le a0
    obtain ⟨b', rfl⟩ := Int.eq_ofNat_of_zero_le b0
    obtain ⟨c', rfl⟩ := Int.eq_ofNat_of_zero_le c0
    obtain ⟨d', rfl⟩ := Int.eq_ofNat_of_zero_le d0
    have p : (2 : Nat) ^ 256 = 115792089237316195423570985008687907853269984665640564039457584007913129639936 := by decide
    have hN : (a' + b' * 18446744073709551616 + c' * 340282366920938463463374607431768211456 + d' * 6277101735386680763835789423207666416102355444464034512896) % 2 ^ 256 = a' + b' * 18446744073709551616 + c' * 340282366920938463463374607431768211456 + d' * 6277101735386680763835789423207666416102355444464034512896 := by
      apply Nat.mod_eq_of_lt; rw [p]; omega
    simp only [words, wd, ofWords, e0, e1, e2, e3, BitVec.toNat_ofNat, Int.toNat_natCast, hN, Nat.mul_zero, Nat.mul_one, Nat.reduceMul, Nat.reducePow, Nat.pow_zero, Nat.div_one]
    have q0 : (a' + b' * 18446744073709551616 + c' * 340282366920938463463374607431768211456 + d' * 6277101735386680763835789423207666416102355444464034512896) % 18446744073709551616 = a' := by omega
    have q1 : (a' + b' * 18446744073709551616 + c' * 340282366920938463463374607431768211456 + d' * 6277101735386680763835789423207666416102355444464034512896) / 18446744073709551616 % 18446744073709551616 = b' := by omega
    have q2 : (a' + b' * 18446744073709551616 + c' * 340282366920938463463374607431768211456 + d' * 6277101735386680763835789423207666416102355444464034512896) / 340282366920938463463374607431768211456 % 18446744073709551616 = c' := by omega
    have q3 : (a' + b' * 18446744073709551616 + c' * 340282366920938463463374607431768211456 + d' * 6277101735386680763835789423207666416102355444464034512896) / 6277101735386680763835789423207666416102355444464034512896 % 18446744073709551616 = d' := by omega
    rw [q0, q1, q2, q3]
theorem encSet_of {xs : List Int} (h : okInts .u64 4 xs) : encInts .u64 xs = zab (ofWords xs) := by rw [zab, words_of h]
end Gx
namespace Gx
open Go Go.RowKit
set_option linter.unusedSimpArgs false
set_option linter.unusedSectionVars false
set_option linter.unusedVariables false
def iand (a b : Int) : Int := ((a.toNat &&& b.toNat : Nat) : Int)
theorem iand_nonneg (a b : Int) : 0 ≤ iand a b := by unfold iand; omega
theorem iand_le {a b : Int} (h : 0 ≤ a) : iand a b ≤ a := by
  unfold iand
  have := Nat.and_le_left (n := a.toNat) (m := b.toNat)
  omega
theorem iand_in {a : Int} (b : Int) (ha : inK .u64 a) : inK .u64 (iand a b) := in_u64 (iand_nonneg a b) (Int.le_trans (iand_le (u64_lo ha)) (u64_hi ha))
theorem pow_in {b : Int} (h0 : 0 ≤ b) (h1 : b < 64) : inK .u64 (2 ^ b.toNat) := by
  have h : (2 : Nat) ^ b.toNat < 2 ^ 64 := Nat.pow_lt_pow_right (by omega) (by omega)
  have e : ((2 : Int) ^ b.toNat) = (((2 : Nat) ^ b.toNat : Nat) : Int) := by simp
  rw [e]
  generalize (2 : Nat) ^ b.toNat = z at h
  exact in_u64 (by omega) (by omega)
theorem ofInt_toNat {a : Int} (h0 : 0 ≤ a) (h1 : a < 18446744073709551616) : (BitVec.ofInt 64 a).toNat = a.toNat := by
  rw [BitVec.toNat_ofInt]
  omega
section
variable {P : Program} {ρ : Env} {w w' : World} {d : Option Tmp} {ty : TypeId} {pos : String} {af : Array Edge} {g : Option (Nat × Bool)} {x y : Operand}
theorem guard_int {a b : Int} {k k' : IntKind} {t : TypeId} {o : BinOp} : (eqGuard o t x y (.int k a) (.int k' b)).run P w = .ok () w := by
  unfold eqGuard
  cases o <;> rfl
theorem x_and_u64 {a b : Int} {t t2 : TypeId} (hx : ev ρ x = .int .u64 a) (hy : ev ρ y = .int .u64 b) (ha : inK .u64 a) (hb : inK .u64 b) : (execOp (ev ρ) ⟨d, .binOp .and t x y t2, ty, pos, af, g⟩).run P w = .ok (.value (.int .u64 (iand a b))) w := by
  have h1 : (BitVec.ofInt 64 a).toNat = a.toNat := ofInt_toNat (u64_lo ha) (by have := u64_hi ha; omega)
  have h2 : (BitVec.ofInt 64 b).toNat = b.toNat := ofInt_toNat (u64_lo hb) (by have := u64_hi hb; omega)
  have h3 : IntKind.u64.wrap ((BitVec.ofInt 64 a &&& BitVec.ofInt 64 b).toNat : Int) = iand a b := by
    rw [BitVec.toNat_and, h1, h2]; exact wrap_in (iand_in b ha)
  simp only [execOp, hx, hy, Sem.run_bind, guard_int, Result.andThen_ok]
  show ((Sem.pure (Value.int .u64 (IntKind.u64.wrap ((BitVec.ofInt 64 a &&& BitVec.ofInt 64 b).toNat : Int)))).run P w).andThen _ = _
  rw [h3]; rfl
theorem x_shl_one {b : Int} {yk : IntKind} {t t2 : TypeId} (hx : ev ρ x = .int .u64 1) (hy : ev ρ y = .int yk b) (h0 : 0 ≤ b) (h1 : b < 64) : (execOp (ev ρ) ⟨d, .binOp .shl t x y t2, ty, pos, af, g⟩).run P w = .ok (.value (.int .u64 (2 ^ b.toNat))) w := by
  have hn : ¬ b < 0 := by omega
  have hm : min b.toNat (IntKind.u64.bits) = b.toNat := by
    have : IntKind.u64.bits = 64 := rfl
    rw [this]; omega
  have hs : (Op.shift .shl .u64 1 yk b).run P w = .ok (.int .u64 (2 ^ b.toNat)) w := by
    unfold Op.shift
    rw [if_neg hn]
    simp only [hm, Int.one_mul]
    rw [wrap_in (pow_in h0 h1)]; rfl
  simp only [execOp, hx, hy, Sem.run_bind, guard_int, Result.andThen_ok]
  show ((Op.shift .shl .u64 1 yk b).run P w).andThen _ = _
  rw [hs]; rfl
end
end Gx
namespace Gx
open Go Go.RowKit
set_option linter.unusedSimpArgs false
set_option linter.unusedVariables false
section
variable {P : Program} {w : World}
theorem run_build_array {T E : TypeId} {n m b' b2 : Nat} {gg g2 : Bool} {z : Option Value} {zv : Value} {pv : List (Nat × Value)} {cs : List Value} (hT : P.underlying T = some (.array n E)) (hE : zam P E = some (m, b', gg, z)) (ht : zam P T = some (n * m, b2, g2, some zv))
    (hf : Instr.fill (fun i => some (i * m, m)) zv.cells pv = some cs.toArray) : (Instr.build T pv.toArray).run P w = .ok (.agg cs.toArray) w := by
  obtain ⟨ii, d2, hii, hd2, hsz, _, hg, _⟩ := zaj hE
  simp only [Instr.build, Sem.run_bind, zero_cells ht, Result.andThen_ok, run_underlying hT, za5 hii, hsz, hf]
  rfl
end
theorem St.sub {base : Nat} {w0 w : World} {h : Ghost} {L : List Asrt} (S : St base w0 h w L) (is : List Nat) (hnd : is.Nodup) (hlt : (is.all fun i => Nat.blt i L.length) = true) (L' : List Asrt) (hL : L' = is.map fun i => L.getD i emp) : St base w0 h w L' :=
  S.pick is hnd (fun i hi => by have := List.all_eq_true.1 hlt i hi; simpa [Nat.blt_eq] using this) L' hL
section
variable {P : Program} {ρ : Env} {w w' : World} {d : Option Tmp} {ty : TypeId} {pos : String} {af : Array Edge} {g : Option (Nat × Bool)} {x y : Operand}
theorem zbd {fo : Operand} {f : FuncId} {al : Array Operand} {ts : Array TypeId} {cap : Array Value} {args : List Value} (hf : zbb P f)
    (ho : ev ρ fo = .func (.func f) #[] cap) (ha : al.toList.map (ev ρ) ++ cap.toList = args) : (execOp (ev ρ) ⟨d, .call ⟨.value fo, al, ts⟩, ty, pos, af, g⟩).run P w = .ok (.enter f args.toArray) w := by
  refine x_call hf ho ?_
  subst ha
  apply Array.ext'
  simp
theorem y_build_slice {T : TypeId} {len : Nat} {parts : Array (Nat × Operand)} {pv : List (Nat × Value)} {v : Value} (hp : parts.toList.map (fun p => (p.1, ev ρ p.2)) = pv) (hr : (Instr.buildSlice T len pv.toArray).run P w = .ok v w') : (execOp (ev ρ) ⟨d, .buildSlice T len parts, ty, pos, af, g⟩).run P w = .ok (.value v) w' := by
  refine x_build_slice ?_ hr
  subst hp; apply Array.ext'; simp
end
section
variable {P : Program} {f n : Nat} {k : List Item} {ρ : Env} {w : World} {R : Ending → World → Prop} {ops : Array Oper}
theorem da_start {id : Nat} (H : Held) (m : Nat) (hn : ops.size = m) (hm : P.follows .mixedOrders = true) (h : ∀ w', Chg w w' (fun _ => False) → w'.heap = w.heap → RA P f n ops H m (Array.replicate m false) k ρ w' R) : Run P f n (.code (.region id ops true) :: k) ρ w R := by
  subst hn
  exact ra_start H hm h
theorem daS {id : Nat} {H : Held} (_ : HA H w) (m : Nat) (hn : ops.size = m) (hm : P.follows .mixedOrders = true) (h : ∀ w', Chg w w' (fun _ => False) → w'.heap = w.heap → RA P f n ops H m (Array.replicate m false) k ρ w' R) : Run P f n (.code (.region id ops true) :: k) ρ w R := da_start H m hn hm h
end
structure Spot where
  set : BSet
  tag : Int
deriving DecidableEq
instance : Inhabited Spot := ⟨⟨0, 0⟩⟩
def encSpot (s : Spot) : List Value := [.int .u64 (wd s.set 0), .int .u64 (wd s.set 1), .int .u64 (wd s.set 2), .int .u64 (wd s.set 3), .int .u8 s.tag]
theorem encSpot_one (s : Spot) : ∀ u ∈ encSpot s, u.oneCell' = true := by simp [encSpot, Value.oneCell']
def okSpot (s : Spot) : Prop := inK .u8 s.tag
def kSpot : Kd Spot := .flat encSpot okSpot 5 (by omega) (fun _ _ => rfl) encSpot_one
structure Mach where
  spots : List Spot
  first : List Int
  follow : List (List Int)
  last : List Bool
  empty : Bool
instance : Inhabited Mach := ⟨⟨[], [], [], [], false⟩⟩
theorem ones_nil : ∀ v ∈ ([] : List Value), v.cells = #[v] := fun v hv => by cases hv
theorem ones_cons {v : Value} {vs : List Value} (h : v.cells = #[v]) (hs : ∀ v ∈ vs, v.cells = #[v]) : ∀ u ∈ v :: vs, u.cells = #[u] := fun u hu => by
  rcases List.mem_cons.1 hu with e | e
  · rw [e]; exact h
  · exact hs u e
def num : Nat → List Value → List (Nat × Value)
  | _, [] => []
  | k, v :: vs => (k, v) :: num (k + 1) vs
theorem fill_num : ∀ (vs : List Value) (k : Nat) (cs : List Value), (∀ v ∈ vs, v.cells = #[v]) → k + vs.length ≤ cs.length → Instr.fill (fun i => some (i * 1, 1)) cs.toArray (num k vs) = some (cs.take k ++ vs ++ cs.drop (k + vs.length)).toArray
  | [], k, cs, _, _ => by simp [num, Instr.fill]
  | v :: vs, k, cs, h1, h2 => by
    have hv := h1 v (by simp)
    simp only [List.length_cons] at h2
    have hns : ¬ (v.cells.size ≠ 1 ∨ k * 1 + v.cells.size > cs.length) := by rw [hv]; simp; omega
    simp only [num, Instr.fill]
    rw [if_neg (by simpa using hns)]
    have e : (v.cells.zipIdx.foldl (fun cs (c, j) => cs.setIfInBounds (k * 1 + j) c) cs.toArray) = (cs.set k v).toArray := by
      rw [hv]; simp
    rw [e, fill_num vs (k + 1) (cs.set k v) (fun u hu => h1 u (by simp [hu])) (by simp; omega)]
    congr 2
    rw [List.take_succ_eq_append_getElem (by simp; omega)]
    simp only [List.getElem_set_self, List.take_set_of_le (Nat.le_refl k), List.drop_set, List.length_cons, List.append_assoc, List.cons_append, List.nil_append]
    rw [if_pos (by omega), show k + 1 + vs.length = k + (vs.length + 1) by omega]
theorem fill_ones (vs : List Value) (z : Value) {zc : Array Value} (hz : zc = #[z]) (h1 : ∀ v ∈ vs, v.cells = #[v]) : Instr.fill (fun i => some (i * 1, 1)) ((Array.range (vs.length * 1)).map (zc[· % zc.size]!)) (num 0 vs) = some vs.toArray := by
  have e : ((Array.range (vs.length * 1)).map (zc[· % zc.size]!)) = (((Array.range (vs.length * 1)).map (zc[· % zc.size]!)).toList).toArray := rfl
  rw [e, fill_num vs 0 _ h1 (by simp)]
  simp
section
variable {P : Program} {w : World} {base : Nat} {w0 : World} {h : Ghost} {L : List Asrt} {α : Type} [Inhabited α] {kd : Kd α} {xs : List α}
theorem e_build_ones {T E : TypeId} {b' len : Nat} {gg : Bool} {zv : Value} (vs : List Value) (S : St base w0 h w L) (hT : P.underlying T = some (.slice E)) (ht : zam P E = some (1, b', gg, some zv)) (hm : kd.sz = 1) (hz : zv.cells = #[zv]) (hlen : xs.length = len) (hl2 : vs.length = len) (hsmall : Nat.ble (len * 1) 100000 = true)
    (h1 : ∀ v ∈ vs, v.cells = #[v]) (cs : List Value) (hel : za9 kd h xs cs) (hcs : cs = vs) :
    ∃ v w', (Instr.buildSlice T len (num 0 vs).toArray).run P w = .ok v w' ∧ Chg w w' (fun _ => False) ∧ St base w0 h w' (L ++ [row E kd v xs]) := by
  subst hl2
  subst hcs
  cases cs with
  | nil => exact e_build (cs := []) (zc := #[]) S hT ht hm hlen hsmall rfl (by simp [num, Instr.fill]) hel
  | cons v vs =>
    refine e_build S hT ht hm hlen hsmall (zc := #[zv]) ?_ (fill_ones (v :: vs) zv rfl h1) hel
    rw [if_neg (by simp), hz]
end
section
variable {P : Program} {ρ : Env} {w w' : World} {d : Option Tmp} {ty : TypeId} {pos : String} {af : Array Edge} {g : Option (Nat × Bool)} {x y : Operand}
theorem x_eql_nil {A : Option Addr} {l c : Nat} {t t2 e : TypeId} (hT : P.underlying t = some (.slice e)) (hx : ev ρ x = .slice A l c) (hy : ev ρ y = .slice none 0 0) : (execOp (ev ρ) ⟨d, .binOp .eql t x y t2, ty, pos, af, g⟩).run P w = .ok (.value (.bool A.isNone)) w := by
  have hg : (eqGuard .eql t x y (.slice A l c) (.slice none 0 0)).run P w = .ok () w := by unfold eqGuard; rfl
  have h1 := run_equalIn_slice_nil (P := P) (w := w) 9999 t e A l c hT
  simp only [execOp, hx, hy, Sem.run_bind, hg, Result.andThen_ok, binOp, Op.equal, Op.maxDepth]
  rw [show (10000 : Nat) = 9999 + 1 from rfl, h1]
  rfl
theorem x_neq_nil {A : Option Addr} {l c : Nat} {t t2 e : TypeId} (hT : P.underlying t = some (.slice e)) (hx : ev ρ x = .slice A l c) (hy : ev ρ y = .slice none 0 0) : (execOp (ev ρ) ⟨d, .binOp .neq t x y t2, ty, pos, af, g⟩).run P w = .ok (.value (.bool (!A.isNone))) w := by
  have hg : (eqGuard .neq t x y (.slice A l c) (.slice none 0 0)).run P w = .ok () w := by unfold eqGuard; rfl
  have h1 := run_equalIn_slice_nil (P := P) (w := w) 9999 t e A l c hT
  simp only [execOp, hx, hy, Sem.run_bind, hg, Result.andThen_ok, binOp, Op.equal, Op.maxDepth]
  rw [show (10000 : Nat) = 9999 + 1 from rfl, h1]
  rfl
end
theorem fold_lput (off : Nat) : ∀ (seg : List Value) (n : Nat) (cs : List Value), (seg.zipIdx n).foldl (fun (cs : Array Value) (p : Value × Nat) => cs.setIfInBounds (off + p.2) p.1) cs.toArray = (lput cs (off + n) seg).toArray
  | [], n, cs => rfl
  | v :: seg, n, cs => by
    simp only [List.zipIdx_cons, List.foldl_cons, lput]
    have e : cs.toArray.setIfInBounds (off + n) v = (cs.set (off + n) v).toArray := by simp
    rw [e, fold_lput off seg (n + 1)]
    rfl
section
variable {P : Program} {w : World} {base : Nat} {w0 : World} {h : Ghost} {L : List Asrt} {α : Type} [Inhabited α] {kd : Kd α} {xs : List α}
end
end Gx
namespace Go.Proofs.Ytgpkkkekmimoeaa
open Go Gx
theorem mixed : Try.prog.follows .mixedOrders = true := by kernel_rfl
theorem ty4 : zam Try.prog 4 = some (1, 1, false, some (.bool false)) := by kernel_rfl
theorem ty5 : zam Try.prog 5 = some (1, 1, false, some (.int .u8 0)) := by kernel_rfl
theorem ty35 : zam Try.prog 35 = some (1, 8, false, some (.int .u64 0)) := by kernel_rfl
theorem ty37 : zam Try.prog 37 = some (4, 32, true, some (.agg #[.int .u64 0, .int .u64 0, .int .u64 0, .int .u64 0])) := by kernel_rfl
theorem u2 : Try.prog.underlying 2 = some (.int .i64) := by kernel_rfl
theorem u3 : Try.prog.underlying 3 = some (.int .i64) := by kernel_rfl
theorem u5 : Try.prog.underlying 5 = some (.int .u8) := by kernel_rfl
theorem u9 : Try.prog.underlying 9 = some (.string) := by kernel_rfl
theorem u25 : Try.prog.underlying 25 = some (.slice 4) := by kernel_rfl
theorem u37 : Try.prog.underlying 37 = some (.array 4 35) := by kernel_rfl
theorem u45 : Try.prog.underlying 45 = some (.slice 5) := by kernel_rfl
theorem ca20 : zbb Try.prog 20 := ⟨Try.f20, Try.func20, rfl, by decide⟩
theorem ca21 : zbb Try.prog 21 := ⟨Try.f21, Try.func21, rfl, by decide⟩
theorem ca22 : zbb Try.prog 22 := ⟨Try.f22, Try.func22, rfl, by decide⟩
theorem ca33 : zbb Try.prog 33 := ⟨Try.f33, Try.func33, rfl, by decide⟩
theorem ca55 : zbb Try.prog 55 := ⟨Try.f55, Try.func55, rfl, by decide⟩
theorem ca80 : zbb Try.prog 80 := ⟨Try.f80, Try.func80, rfl, by decide⟩
theorem ca81 : zbb Try.prog 81 := ⟨Try.f81, Try.func81, rfl, by decide⟩
end Go.Proofs.Ytgpkkkekmimoeaa
namespace Gx
open Go Go.RowKit
set_option linter.unusedSimpArgs false
set_option linter.unusedVariables false
def bitAt (ws : List Int) (i : Nat) : Bool := (at_ ws ((i / 64 : Nat) : Int)).toNat.testBit (i % 64)
theorem at_words (s : BSet) {k : Nat} (hk : k < 4) : at_ (words s) (k : Int) = wd s k := by
  match k, hk with
  | 0, _ => rfl
  | 1, _ => rfl
  | 2, _ => rfl
  | 3, _ => rfl
theorem wd_bit (s : BSet) (k : Nat) {j : Nat} (hj : j < 64) : (wd s k).toNat.testBit j = s.getLsbD (64 * k + j) := by
  unfold wd
  rw [Int.toNat_natCast]
  have e : (18446744073709551616 : Nat) = 2 ^ 64 := by decide
  rw [e, Nat.testBit_mod_two_pow, Nat.testBit_div_two_pow]
  simp only [hj, decide_true, Bool.true_and]
  rw [BitVec.testBit_toNat]
  congr 1
  omega
theorem bit_words (s : BSet) {i : Nat} (hi : i < 256) : bitAt (words s) i = s.getLsbD i := by
  unfold bitAt
  rw [at_words s (by omega), wd_bit s _ (by omega)]
  congr 1; omega
theorem set_ext {a b : BSet} (h : ∀ i, i < 256 → a.getLsbD i = b.getLsbD i) : a = b := BitVec.eq_of_getLsbD_eq h
def has (s : BSet) (c : Int) : Bool := s.getLsbD c.toNat
theorem iand_pow_ne {a : Int} (ha : 0 ≤ a) (k : Nat) : decide (iand a (2 ^ k) ≠ 0) = a.toNat.testBit k := by
  have e : ((2 : Int) ^ k).toNat = 2 ^ k := by
    have : ((2 : Int) ^ k) = (((2 : Nat) ^ k : Nat) : Int) := by simp
    rw [this, Int.toNat_natCast]
  unfold iand
  rw [e]
  cases hb : a.toNat.testBit k
  · have : a.toNat &&& 2 ^ k = 0 := by
      apply Nat.eq_of_testBit_eq
      intro i
      rw [Nat.testBit_and, Nat.testBit_two_pow, Nat.zero_testBit]
      by_cases h : k = i
      · subst h; simp [hb]
      · simp [h]
    rw [this]; rfl
  · have : (a.toNat &&& 2 ^ k).testBit k = true := by rw [Nat.testBit_and, Nat.testBit_two_pow]; simp [hb]
    have h0 : a.toNat &&& 2 ^ k ≠ 0 := fun h => by rw [h, Nat.zero_testBit] at this; cases this
    exact decide_eq_true (by omega)
theorem has_eq (s : BSet) {c : Int} (h0 : 0 ≤ c) (h1 : c ≤ 255) : decide (iand (at_ (words s) (c / 64)) (2 ^ (c % 64).toNat) ≠ 0) = has s c := by
  obtain ⟨n, rfl⟩ := Int.eq_ofNat_of_zero_le h0
  have e1 : ((n : Int) / 64) = ((n / 64 : Nat) : Int) := by omega
  have e2 : ((n : Int) % 64).toNat = n % 64 := by omega
  rw [e1, e2, at_words s (by omega), iand_pow_ne (u64_lo (wd_in s _)), wd_bit s _ (by omega)]
  unfold has
  congr 1; omega
def ofPred (p : Nat → Bool) : BSet := (List.range 256).foldl (fun s i => if p i then s ||| BitVec.twoPow 256 i else s) 0
theorem fold_bit (p : Nat → Bool) (i : Nat) (hi : i < 256) : ∀ (l : List Nat) (s : BSet), (l.foldl (fun s i => if p i then s ||| BitVec.twoPow 256 i else s) s).getLsbD i = (s.getLsbD i || (decide (i ∈ l) && p i))
  | [], s => by simp
  | j :: l, s => by
    rw [List.foldl_cons, fold_bit p i hi l]
    by_cases hj : p j
    · rw [if_pos hj, BitVec.getLsbD_or, BitVec.getLsbD_twoPow]
      by_cases e : j = i
      · subst e; simp [hj, hi]
      · have e' : ¬ i = j := fun x => e x.symm
        simp [e, e']
    · rw [if_neg hj]
      by_cases e : i = j
      · subst e; simp [hj]
      · simp [e]
theorem pred_bit (p : Nat → Bool) {i : Nat} (hi : i < 256) : (ofPred p).getLsbD i = p i := by
  unfold ofPred
  rw [fold_bit p i hi]
  simp [hi]
def setOf (bs : List Int) : BSet := ofPred fun i => decide ((i : Int) ∈ bs)
theorem set_nil : words (setOf []) = words 0 := by
  have : setOf [] = 0 := set_ext fun i hi => by unfold setOf; rw [pred_bit _ hi]; simp
  rw [this]
end Gx
namespace Gx
open Go Go.RowKit
set_option linter.unusedSimpArgs false
set_option linter.unusedVariables false
def elemsTo (s : BSet) (n : Nat) : List Nat := (List.range n).filter fun i => s.getLsbD i
def elems (s : BSet) : List Nat := elemsTo s 256
def ints (l : List Nat) : List Int := l.map fun (i : Nat) => ((i : Nat) : Int)
def first (s : BSet) : Int := ((elems s).head?.getD 0 : Nat)
def cnt (s : BSet) (t : Int) : Int := ((elemsTo s (64 * t.toNat)).length : Nat)
theorem half_step (x : Int) (k : Int) (h : 0 ≤ k) : x / 2 ^ k.toNat / 2 = x / 2 ^ (k + 1).toNat := by
  rw [show (k + 1).toNat = k.toNat + 1 by omega, Int.pow_succ, Int.ediv_ediv_of_nonneg (Int.le_of_lt (Int.pow_pos (by omega)))]
end Gx
namespace Gx
open Go Go.RowKit
set_option linter.unusedSimpArgs false
set_option linter.unusedVariables false
def f1 (b : Nat) : Nat := ((b / 2) &&& 85) + (b &&& 85)
def f2 (b : Nat) : Nat := ((b / 4) &&& 51) + (b &&& 51)
def f3 (b : Nat) : Nat := (b + b / 16) &&& 15
end Gx
namespace Gx
open Go Go.RowKit
set_option linter.unusedSimpArgs false
set_option linter.unusedVariables false
theorem at_map_range {α : Type} [Inhabited α] (f : Nat → α) (n : Nat) {i : Int} (h0 : 0 ≤ i) (h1 : i < (n : Int)) : at_ ((List.range n).map f) i = f i.toNat := by
  unfold at_
  rw [List.getD_eq_getElem?_getD, List.getElem?_map, List.getElem?_range (by omega)]; rfl
theorem list_ext {α : Type} [Inhabited α] {a b : List α} {n : Nat} (ha : a.length = n) (hb : b.length = n) (h : ∀ k : Int, 0 ≤ k → k < (n : Int) → at_ a k = at_ b k) : a = b := by
  apply List.ext_getElem?
  intro j
  by_cases hj : j < n
  · have h1 := at_some (xs := a) (i := ((j : Nat) : Int)) (by omega) (by omega)
    have h2 := at_some (xs := b) (i := ((j : Nat) : Int)) (by omega) (by omega)
    rw [Int.toNat_natCast] at h1 h2
    rw [h1, h2, h _ (by omega) (by omega)]
  · rw [List.getElem?_eq_none (by omega), List.getElem?_eq_none (by omega)]
end Gx
namespace Gx
open Go Go.RowKit
set_option linter.unusedSimpArgs false
set_option linter.unusedSectionVars false
set_option linter.unusedVariables false
section
variable {α β : Type}
def pairs (ke : α → Value) (ve : β → Value) (kvs : List (α × β)) : List (Value × Value) := kvs.map fun p => (ke p.1, ve p.2)
variable [DecidableEq α]
variable {P : Program} {kt : TypeId} {ke : α → Value} {ve : β → Value} {w : World}
end
section
variable {α β : Type} [DecidableEq α] {P : Program} {kt : TypeId} {ke : α → Value} {ve : β → Value} {w w' : World} {base : Nat} {w0 : World} {h : Ghost} {L : List Asrt}
end
section
variable {α β : Type} [DecidableEq α] {P : Program} {kt : TypeId} {ke : α → Value} {ve : β → Value} {w : World} {base : Nat} {w0 : World} {h : Ghost} {L : List Asrt}
end
section
variable {P : Program} {ρ : Env} {w w' : World} {d : Option Tmp} {ty : TypeId} {pos : String} {af : Array Edge} {g : Option (Nat × Bool)} {x y z : Operand}
end
section
variable {P : Program} {ρ : Env} {w w' : World} {d : Option Tmp} {ty : TypeId} {pos : String} {af : Array Edge} {g : Option (Nat × Bool)} {x y : Operand}
end
end Gx
namespace Gx
open Go Go.RowKit
set_option linter.unusedSimpArgs false
set_option linter.unusedSectionVars false
set_option linter.unusedVariables false
structure PartM where
  of : List Int
  n : Int
deriving DecidableEq
instance : Inhabited PartM := ⟨⟨[], 0⟩⟩
end Gx
namespace Gx
open Go Go.RowKit
set_option linter.unusedSimpArgs false
set_option linter.unusedSectionVars false
set_option linter.unusedVariables false
section
variable {P : Program} {ρ : Env} {w w' : World} {d : Option Tmp} {ty : TypeId} {pos : String} {af : Array Edge} {g : Option (Nat × Bool)} {x y : Operand}
theorem x_bytes_string {src dst e : TypeId} {A : Option Addr} {c : Nat} {xs : List Int} (hs : P.underlying src = some (.slice e)) (he : P.underlying e = some (.int .u8)) (hd : P.underlying dst = some .string)
    (hx : ev ρ x = .slice A xs.length c) (hl : Leads (Kd.int .u8) (hp w) A xs) : (execOp (ev ρ) ⟨d, .convert src dst x, ty, pos, af, g⟩).run P w = .ok (.value (.string (strOfNums xs))) w := by
  have key : (convert src dst (.slice A xs.length c)).run P w = .ok (.string (strOfNums xs)) w := by
    cases xs with
    | nil =>
      rw [run_convert_bytes_string w src dst e A _ c hs he hd]
      cases A with
      | none => rfl
      | some a =>
        have hc := run_loadCells_list (P := P) w a [] (fun j v hj => by simp at hj)
        simp only [List.length_nil] at hc
        have := run_bytesToString (P := P) w a 0 c [] (by simpa using hc)
        exact this
    | cons z zs =>
      obtain ⟨a, rfl, hcells⟩ := hl (by simp)
      rw [run_convert_bytes_string w src dst e _ _ c hs he hd]
      have hl2 := run_loadCells_list (P := P) w a ((z :: zs).map (Value.int .u8)) (fun j v hj => by
        rw [List.getElem?_map] at hj
        cases hq : (z :: zs)[j]? with
        | none => rw [hq] at hj; cases hj
        | some n =>
          rw [hq] at hj
          obtain ⟨seg, ⟨rfl, _⟩, hs2⟩ := hcells j n hq
          have := hs2 0 _ rfl
          simp only [Option.map_some, Option.some.injEq] at hj
          subst hj
          have e1 : (Kd.int .u8).sz = 1 := rfl
          rw [e1, Nat.mul_one, Nat.add_zero] at this
          rw [← gcell_of_block (h := hp w) (by rfl)]
          exact this)
      simp only [List.length_map] at hl2
      rw [run_bytesToString (P := P) w a _ c _ hl2, foldl_push_bytes]
      simp [strOfNums, ByteArray.empty, ByteArray.emptyWithCapacity]
      rfl
  simp only [execOp, hx, Sem.run_bind, key, Result.andThen_ok]
  rfl
theorem str_small {xs : List Int} (h : xs.length ≤ maxLen) : (strOfNums xs).size ≤ maxLen := by rw [strOfNums_size]; exact h
end
section
variable {P : Program} {ρ : Env} {w w' : World} {d : Option Tmp} {ty : TypeId} {pos : String} {af : Array Edge} {g : Option (Nat × Bool)} {x y : Operand}
end
section
variable {P : Program}
def eqF (d : Nat) (xs ys : Array Value) : List (TypeId × Nat) → Sem Bool
  | [] => pure true
  | f :: fs => do
    let a ← part f.1 xs f.2
    let b ← part f.1 ys f.2
    let r ← Op.equalIn d f.1 a b
    if (!r) = true then pure false else eqF d xs ys fs
theorem eqF_of (d : Nat) (xs ys : Array Value) : ∀ (fs : List Field), (fs.all fun f => f.name != "_") = true → Op.eqFields d xs ys fs = eqF d xs ys (fs.map fun f => (f.type, f.offset))
  | [], _ => rfl
  | f :: fs, h => by
    simp only [List.all_cons, Bool.and_eq_true, bne_iff_ne, ne_eq] at h
    simp only [Op.eqFields, List.map_cons, eqF, h.1, ne_eq, not_false_eq_true, if_true]
    rw [eqF_of d xs ys fs h.2]
theorem eqF_cons {w : World} {d : Nat} {xs ys : Array Value} {t : TypeId} {o : Nat} {fs : List (TypeId × Nat)} {a b : Value} {r q : Bool} (ha : (part t xs o).run P w = .ok a w) (hb : (part t ys o).run P w = .ok b w) (hr : (Op.equalIn d t a b).run P w = .ok r w) (hq : (eqF d xs ys fs).run P w = .ok q w) :
    (eqF d xs ys ((t, o) :: fs)).run P w = .ok (r && q) w := by
  simp only [eqF, Sem.run_bind, ha, hb, hr, Result.andThen_ok]
  cases r
  · rfl
  · simpa using hq
theorem part_one {w : World} {t : TypeId} {n b : Nat} {z : Option Value} {cs : List Value} {o : Nat} {v : Value} (ht : zam P t = some (n, b, false, z)) (hv : cs[o]? = some v) : (part t cs.toArray o).run P w = .ok v w := by
  obtain ⟨ii, d5, hi5, hd5, hs5, _, hg5, _⟩ := zaj ht
  simp only [part, Sem.run_bind, run_isAgg hd5, hg5, Result.andThen_ok, Bool.false_eq_true, if_false, List.getElem?_toArray, hv]; rfl
theorem part_agg {w : World} {t : TypeId} {n b : Nat} {z : Option Value} {cs seg : List Value} {o : Nat} (ht : zam P t = some (n, b, true, z)) (hv : (cs.drop o).take n = seg) : (part t cs.toArray o).run P w = .ok (.agg seg.toArray) w := by
  obtain ⟨ii, d5, hi5, hd5, hs5, _, hg5, _⟩ := zaj ht
  have e : cs.toArray.extract o (o + n) = seg.toArray := by
    rw [← hv, List.extract_toArray, List.extract_eq_take_drop]; simp
  simp only [part, Sem.run_bind, run_isAgg hd5, hg5, Result.andThen_ok, if_true, run_sizeOf w hi5, show P.cellsOf t = n by simp [Program.cellsOf, hi5, hs5], e]; rfl
end
end Gx
namespace Gx
open Go Go.RowKit
set_option linter.unusedSimpArgs false
set_option linter.unusedSectionVars false
set_option linter.unusedVariables false
section
variable {P : Program} {ρ : Env} {w w' : World} {d : Option Tmp} {ty : TypeId} {pos : String} {af : Array Edge} {g : Option (Nat × Bool)} {x y : Operand}
end
section
variable {P : Program} {f n : Nat} {k : List Item} {ρ : Env} {w : World} {R : Ending → World → Prop} {ops : Array Oper} {H : Held} {fuel : Nat} {listed : Array Bool}
end
theorem fill_any {place : Nat → Option (Nat × Nat)} {cells : Array Value} {i off n : Nat} {v : Value} {vc : List Value} {rest : List (Nat × Value)} {r : Array Value} (hp : place i = some (off, n)) (hv : v.cells = vc.toArray) (hn : vc.length = n) (ho : Nat.ble (off + n) cells.size = true)
    (h : Instr.fill place (lput cells.toList off vc).toArray rest = some r) : Instr.fill place cells ((i, v) :: rest) = some r := by
  have ho' : off + n ≤ cells.size := by simpa [Nat.ble_eq] using ho
  simp only [Instr.fill, hp]
  have hs : v.cells.size = n := by rw [hv]; simpa using hn
  rw [if_neg (by simp [hs]; omega)]
  rw [← h]
  congr 1
  rw [hv]
  have := fold_lput off vc 0 cells.toList
  simp only [Array.toArray_toList, Nat.add_zero] at this
  rw [← this, ← Array.foldl_toList]
  simp
end Gx
namespace Go.Proofs.Ytgpkkkekmimoeaa
open Go Go.RowKit Gx
set_option maxHeartbeats 3000000
set_option linter.unusedVariables false
set_option linter.unusedSimpArgs false
set_option maxRecDepth 8000
attribute [local irreducible] first has setOf Lib.ctz
theorem bit_calls (w : World) (c : Int) (i0 : inK .u8 c) :
    Calls Try.prog 81 #[.int .u8 c] w fun e w' => ∃ v, e = .returned v ∧ ∃ (hn : Ghost), St w.heap.size w hn w' [] ∧ v = .tuple #[.int .i64 (c / 64), .int .u64 (2 ^ (c % 64).toNat)] ∧ inK .i64 (c / 64) ∧ inK .u64 (2 ^ (c % 64).toNat) := by
 refine za8 Try.func81 rfl Try.ntmps81 rfl ?_
 have S0 := St.init w
 have lo0 := u8_lo i0; have hi0 := u8_hi i0
 refine zad <| zag (l := [0, 1]) rfl <| p_v (v := .int .i64 0) rfl rfl rfl (zah rfl) <| p_v (v := .int .u64 0) rfl rfl rfl (zah rfl) <| zaa <| zad <| zag (l := [0, 1, 2, 3, 4, 5, 6, 7]) rfl <| p_v (v := .int .u8 c) rfl rfl rfl (zac rfl) <| p_v (v := .int .u8 (c / 64)) rfl rfl rfl (x_quo rfl rfl (by first|omega|(simp;omega)|assumption) (by first|omega|(simp;omega)|assumption) (in_u8 (by first|omega|(simp;omega)|assumption) (by first|omega|(simp;omega)|assumption))) <| p_v (v := .int .i64 (c / 64)) rfl rfl rfl (x_conv u5 u3 rfl (zan (by first|omega|(simp;omega)|assumption) (by first|omega|(simp;omega)|assumption))) <| p_v (v := .int .u8 c) rfl rfl rfl (zac rfl) <| p_v (v := .int .u8 (c % 64)) rfl rfl rfl (x_rem rfl rfl (by first|omega|(simp;omega)|assumption) (by first|omega|(simp;omega)|assumption)) ?_
 have in1 := pow_in (b := c % 64) (by first|omega|(simp;omega)|assumption) (by first|omega|(simp;omega)|assumption)
 have lo1 := u64_lo in1; have hi1 := u64_hi in1
 refine p_v (v := .int .u64 (2 ^ (c % 64).toNat)) rfl rfl rfl (x_shl_one rfl rfl (by first|omega|(simp;omega)|assumption) (by first|omega|(simp;omega)|assumption)) <| p_v (v := .int .i64 (c / 64)) rfl rfl rfl (zah rfl) <| p_v (v := .int .u64 (2 ^ (c % 64).toNat)) rfl rfl rfl (zah rfl) <| zaa <| run_ret Try.func81 (res2 rfl (zbc (v := .int .i64 (c / 64)) rfl) (zbc (v := .int .u64 (2 ^ (c % 64).toNat)) rfl)) ?_
 have q0 : (c / 64 : Int) = c / 64 := rfl
 have q1 : (2 ^ (c % 64).toNat : Int) = 2 ^ (c % 64).toNat := rfl
 refine ⟨_, rfl, (fun _ => none), ?_, ?_, ?_, ?_⟩
 · exact S0.sub [] (by decide) rfl _ rfl
 · rfl
 · exact (zan (by first|omega|(simp;omega)|assumption) (by first|omega|(simp;omega)|assumption))
 · exact (in_u64 (by first|omega|(simp;omega)|assumption) (by first|omega|(simp;omega)|assumption))
theorem has_calls (w : World) (s : BSet) (c : Int) (i1 : inK .u8 c) :
    Calls Try.prog 55 #[.agg (zab s).toArray, .int .u8 c] w fun e w' => ∃ v, e = .returned v ∧ ∃ (hn : Ghost), St w.heap.size w hn w' [] ∧ v = .bool (has s c) := by
 refine za8 Try.func55 rfl Try.ntmps55 rfl ?_
 have S0 := St.init w
 have lo1 := u8_lo i1; have hi1 := u8_hi i1
 refine zad <| zag (l := [0, 1]) rfl ?_
 obtain ⟨b1, w1, r1, g1, T1⟩ := e_box (P := Try.prog) S0 37 (v := .agg (zab s).toArray) (zab s) rfl
 have S2 := T1
 dsimp only [lAa, lAn, lA0, lAs] at S2
 refine p_v (v := .pointer (some ⟨b1, 0, none⟩)) rfl rfl rfl (x_box rfl r1) <| p_v (v := .bool false) rfl rfl rfl (zah rfl) <| zaa <| zad <| zag (l := [0, 1, 2, 3, 4, 5, 6]) rfl <| p_v (v := .int .u8 c) rfl rfl rfl (zac rfl) <| p_c rfl rfl rfl (zbd (args := [.int .u8 c]) ca81 rfl rfl) (bit_calls w1 c (in_u8 (by first|omega|(simp;omega)|assumption) (by first|omega|(simp;omega)|assumption))) ?_
 rintro _ w3 ⟨h3, T3, rfl, in3_0, in3_1⟩
 have S4 := S2.keep (Chg.of_below T3.below)
 have lo_in3_0 := i64_lo in3_0; have hi_in3_0 := i64_hi in3_0
 have lo_in3_1 := u64_lo in3_1; have hi_in3_1 := u64_hi in3_1
 refine p_v (v := .tuple #[.int .i64 (c / 64), .int .u64 (2 ^ (c % 64).toNat)]) rfl rfl rfl (zac rfl) <| p_v (v := .int .i64 (c / 64)) rfl rfl rfl (x_extract (vs := [.int .i64 (c / 64), .int .u64 (2 ^ (c % 64).toNat)]) rfl rfl) <| p_v (v := .int .u64 (2 ^ (c % 64).toNat)) rfl rfl rfl (x_extract (vs := [.int .i64 (c / 64), .int .u64 (2 ^ (c % 64).toNat)]) rfl rfl) <| p_v (v := .int .i64 (c / 64)) rfl rfl rfl (zah rfl) <| p_v (v := .int .u64 (2 ^ (c % 64).toNat)) rfl rfl rfl (zah rfl) <| zaa <| zad <| zag (l := [0, 1, 2, 3, 4, 5, 6]) rfl <| p_v (v := .int .i64 (c / 64)) rfl rfl rfl (zac rfl) <| p_v (v := .pointer (some ⟨b1, 0 + (c / 64).toNat * 1, none⟩)) rfl rfl rfl (x_indexAddr_arr u37 ty35 rfl rfl (by first|omega|(simp;omega)|assumption) (by first|omega|(simp;omega)|assumption)) ?_
 have S5 : St w.heap.size w (fun _ => none) w3 [box b1 37 (encInts .u64 (words s))] := S4
 have in6 := okInts_at (okWords s) (i := c / 64) (by first|omega|(simp;omega)|assumption) (by first|omega|(simp;omega)|assumption)
 have lo6 := u64_lo in6; have hi6 := u64_hi in6
 refine p_v (v := .int .u64 (at_ (words s) (c / 64))) rfl rfl rfl (za0 (seg := [.int .u64 (at_ (words s) (c / 64))]) ty35 rfl (by simp) rfl (CF.box (m := 1) (S5.box_at (j := 0) rfl) (cs := (encInts .u64 (words s))) (encInts_at (okWords s) (by first|omega|(simp;omega)|assumption) (by first|omega|(simp;omega)|assumption)))) <| p_v (v := .int .u64 (2 ^ (c % 64).toNat)) rfl rfl rfl (zac rfl) ?_
 have in7 : inK .u64 (iand (at_ (words s) (c / 64)) (2 ^ (c % 64).toNat)) := iand_in (2 ^ (c % 64).toNat) (in_u64 (by first|omega|(simp;omega)|assumption) (by first|omega|(simp;omega)|assumption))
 have lo7 := u64_lo in7; have hi7 := u64_hi in7
 refine p_v (v := .int .u64 (iand (at_ (words s) (c / 64)) (2 ^ (c % 64).toNat))) rfl rfl rfl (x_and_u64 rfl rfl (in_u64 (by first|omega|(simp;omega)|assumption) (by first|omega|(simp;omega)|assumption)) in3_1) <| p_v (v := .bool (decide ((iand (at_ (words s) (c / 64)) (2 ^ (c % 64).toNat)) ≠ 0))) rfl rfl rfl (x_neq rfl rfl) <| p_v (v := .bool (decide ((iand (at_ (words s) (c / 64)) (2 ^ (c % 64).toNat)) ≠ 0))) rfl rfl rfl (zah rfl) <| zaa <| run_ret Try.func55 (res1 rfl (zbc (v := .bool (decide ((iand (at_ (words s) (c / 64)) (2 ^ (c % 64).toNat)) ≠ 0))) rfl)) ?_
 have q0 : (has s c : Bool) = decide ((iand (at_ (words s) (c / 64)) (2 ^ (c % 64).toNat)) ≠ 0) := by
  exact (has_eq s lo1 hi1).symm
 refine ⟨_, rfl, (fun _ => none), ?_, ?_⟩
 · exact S5.sub [] (by decide) rfl _ rfl
 · first | rfl | (simp only [q0]; rfl) | (simp only [q0])
end Go.Proofs.Ytgpkkkekmimoeaa
namespace Gx
open Go Go.RowKit
set_option linter.unusedSimpArgs false
set_option linter.unusedSectionVars false
set_option linter.unusedVariables false
section
variable {κ : Type} [DecidableEq κ]
def fo (key : Nat → κ) (t c : Nat) : Option Nat := (List.range t).find? fun j => decide (key j = key c)
end
section
variable {κ μ : Type} [DecidableEq κ] [DecidableEq μ]
end
def placeFrom (f : BSet → Bool) : List BSet → Int → Int
  | [], _ => -1
  | x :: r, i => if f x then i else placeFrom f r (i + 1)
def place (f : BSet → Bool) (l : List BSet) : Int := placeFrom f l 0
section
variable {κ : Type} [DecidableEq κ]
end
section
variable {κ : Type} [DecidableEq κ]
end
end Gx
namespace Gx
open Go Go.RowKit
set_option linter.unusedSimpArgs false
set_option linter.unusedSectionVars false
set_option linter.unusedVariables false
def anyTo (p : Nat → Bool) (c : Int) : Bool := (List.range c.toNat).any p
theorem anyTo_iff (p : Nat → Bool) (c : Int) : anyTo p c = true ↔ ∃ d : Nat, ((d : Nat) : Int) < c ∧ p d = true := by
  unfold anyTo
  rw [List.any_eq_true]
  constructor
  · rintro ⟨d, h1, h2⟩; exact ⟨d, by have := List.mem_range.1 h1; omega, h2⟩
  · rintro ⟨d, h1, h2⟩; exact ⟨d, List.mem_range.2 (by omega), h2⟩
section
variable {κ : Type} [DecidableEq κ] (key : Nat → κ)
end
section
variable {κ : Type} [DecidableEq κ] (key : Nat → κ)
end
theorem at_mem {α : Type} [Inhabited α] {l : List α} {i : Int} (h0 : 0 ≤ i) (h1 : i < (l.length : Int)) : at_ l i ∈ l := List.mem_of_getElem? (at_some h0 h1)
end Gx
namespace Gx
open Go Go.RowKit
set_option linter.unusedSimpArgs false
set_option linter.unusedSectionVars false
set_option linter.unusedVariables false
deriving instance DecidableEq for Mach
theorem drop_cons {α : Type} [Inhabited α] (l : List α) {t : Int} (h0 : 0 ≤ t) (h1 : t < (l.length : Int)) : l.drop t.toNat = at_ l t :: l.drop (t + 1).toNat := by
  rw [show (t + 1).toNat = t.toNat + 1 by omega]
  have h2 := at_some h0 h1
  obtain ⟨hl, e⟩ := List.getElem?_eq_some_iff.1 h2
  rw [List.drop_eq_getElem_cons hl, e]
def rises (b last : Int) : List Int → Bool
  | [] => true
  | n :: r => decide (last < n) && decide (n < b) && rises b n r
theorem rises_lt {b : Int} : ∀ {last : Int} {l : List Int}, rises b last l = true → ∀ x ∈ l, last < x ∧ x < b
  | last, [], h, x, hx => by cases hx
  | last, n :: r, h, x, hx => by
    unfold rises at h
    simp only [Bool.and_eq_true, decide_eq_true_eq] at h
    rcases List.mem_cons.1 hx with e | e
    · subst e; exact h.1
    · have := rises_lt h.2 x e; omega
structure Right (m : Mach) : Prop where
  small : (m.spots.length : Int) ≤ 250
  follow : (m.follow.length : Int) = m.spots.length
  last : (m.last.length : Int) = m.spots.length
  first : rises m.spots.length (-1) m.first = true
  tag : ∀ i : Int, 0 ≤ i → i < (m.spots.length : Int) → (at_ m.spots i).tag ≤ 2
  row : ∀ i : Int, 0 ≤ i → i < (m.spots.length : Int) → rises m.spots.length (-1) (at_ m.follow i) = true
theorem Right.firsts {m : Mach} (h : Right m) : ∀ x ∈ m.first, 0 ≤ x ∧ x < (m.spots.length : Int) := fun x hx => by have := rises_lt h.first x hx; omega
theorem Right.rows {m : Mach} (h : Right m) {i : Int} (h0 : 0 ≤ i) (h1 : i < (m.spots.length : Int)) : ∀ x ∈ at_ m.follow i, 0 ≤ x ∧ x < (m.spots.length : Int) := fun x hx => by have := rises_lt (h.row i h0 h1) x hx; omega
def tab (n : Nat) (p : Nat → Bool) : List Bool := (List.range n).map p
theorem tab_len (n : Nat) (p : Nat → Bool) : (tab n p).length = n := by simp [tab]
theorem tab_at {n : Nat} {p : Nat → Bool} {i : Int} (h0 : 0 ≤ i) (h1 : i < (n : Int)) : at_ (tab n p) i = p i.toNat := at_map_range p n h0 h1
theorem tab_ext {n : Nat} {p q : Nat → Bool} (h : ∀ i, i < n → p i = q i) : tab n p = tab n q := List.map_congr_left fun i hi => h i (List.mem_range.1 hi)
theorem tab_false (n : Nat) : List.replicate n false = tab n fun _ => false := by
  refine (List.eq_replicate_iff.2 ⟨tab_len _ _, fun b hb => ?_⟩).symm
  obtain ⟨k, _, rfl⟩ := List.mem_map.1 hb; rfl
theorem tab_set {n : Nat} {p : Nat → Bool} {t : Int} (h0 : 0 ≤ t) (v : Bool) : (tab n p).set t.toNat v = tab n fun i => if i = t.toNat then v else p i := by
  refine list_ext (n := n) (by simp [tab_len]) (tab_len _ _) fun k hk0 hk1 => ?_
  rw [tab_at hk0 hk1]
  have e : at_ ((tab n p).set t.toNat v) k = if t.toNat = k.toNat then v else at_ (tab n p) k := by
    unfold at_
    rw [List.getD_eq_getElem?_getD, List.getElem?_set, List.getD_eq_getElem?_getD]
    by_cases h : t.toNat = k.toNat
    · rw [if_pos h, if_pos h, if_pos (by rw [tab_len]; omega)]; rfl
    · rw [if_neg h, if_neg h]
  rw [e, tab_at hk0 hk1]
  by_cases h : t.toNat = k.toNat
  · rw [if_pos h, if_pos h.symm]
  · rw [if_neg h, if_neg (fun e => h e.symm)]
def markP (n : Nat) (l : List Int) : List Bool := tab n fun i => decide (((i : Nat) : Int) ∈ l)
def intoP (m : Mach) (next : List Bool) (c : Int) : List Bool := tab m.spots.length fun i => at_ next ((i : Nat) : Int) && has (at_ m.spots ((i : Nat) : Int)).set c
def behindP (m : Mach) (at' : List Bool) : List Bool := tab m.spots.length fun k => anyTo (fun i => at_ at' ((i : Nat) : Int) && decide (((k : Nat) : Int) ∈ at_ m.follow ((i : Nat) : Int))) m.spots.length
def runTo (m : Mach) (w : ByteArray) : Nat → List Bool
  | 0 => intoP m (markP m.spots.length m.first) (byt w 0)
  | k + 1 => intoP m (behindP m (runTo m w k)) (byt w ((k + 1 : Nat) : Int))
theorem size_empty {w : ByteArray} (h : w = (⟨#[]⟩ : ByteArray)) : w.size = 0 := by rw [h]; rfl
theorem size_some {w : ByteArray} (h : ¬ w = (⟨#[]⟩ : ByteArray)) : 0 < (w.size : Int) := by
  have : w.size ≠ 0 := fun e => h (by
    have e2 : w.data = #[] := Array.eq_empty_of_size_eq_zero e
    cases w; simp at e2; rw [e2])
  omega
theorem bit_half (s : BSet) {c i : Int} (h0 : 0 ≤ c) (h1 : c < 256) (hi : i = c % 64) : decide ((at_ (words s) (c / 64) / 2 ^ i.toNat) % 2 = 1) = has s c := by
  subst hi
  have hb := bit_words s (i := c.toNat) (by omega)
  unfold has
  rw [← hb]
  unfold bitAt
  rw [show ((c.toNat / 64 : Nat) : Int) = c / 64 by omega, show c.toNat % 64 = (c % 64).toNat by omega]
  have hw : 0 ≤ at_ (words s) (c / 64) := u64_lo (okInts_at (okWords s) (by omega) (by omega))
  obtain ⟨x, hx⟩ := Int.eq_ofNat_of_zero_le hw
  rw [hx, Int.toNat_natCast, Nat.testBit_eq_decide_div_mod_eq]
  apply decide_eq_decide.2
  have e : ((x : Int) / 2 ^ (c % 64).toNat) = ((x / 2 ^ (c % 64).toNat : Nat) : Int) := by
    rw [Int.natCast_ediv, Int.natCast_pow]; rfl
  rw [e]; omega
end Gx
namespace Gx
open Go Go.RowKit
set_option linter.unusedSimpArgs false
set_option linter.unusedSectionVars false
set_option linter.unusedVariables false
theorem tab_at' {n : Nat} {p : Nat → Bool} {i : Nat} (h1 : i < n) : at_ (tab n p) ((i : Nat) : Int) = p i := by rw [tab_at (by omega) (by omega), Int.toNat_natCast]
def trues (n : Nat) (l : List Bool) : Nat := (List.range n).countP fun i => at_ l ((i : Nat) : Int)
theorem trues_le (n : Nat) (l : List Bool) : trues n l ≤ n := by
  have := List.countP_le_length (p := fun i : Nat => at_ l ((i : Nat) : Int)) (l := List.range n)
  simpa [trues] using this
def Sub (n : Nat) (a b : List Bool) : Prop := ∀ i : Nat, i < n → at_ a ((i : Nat) : Int) = true → at_ b ((i : Nat) : Int) = true
theorem Sub.refl (n : Nat) (a : List Bool) : Sub n a a := fun _ _ h => h
theorem Sub.trans {n : Nat} {a b c : List Bool} (h : Sub n a b) (h2 : Sub n b c) : Sub n a c := fun i hi hx => h2 i hi (h i hi hx)
theorem marks_ext {n : Nat} {a b : List Bool} (ha : a.length = n) (hb : b.length = n) (h : ∀ i : Nat, i < n → at_ a ((i : Nat) : Int) = at_ b ((i : Nat) : Int)) : a = b :=
  list_ext ha hb fun k h0 h1 => by have := h k.toNat (by omega); rwa [Int.toNat_of_nonneg h0] at this
theorem mark_set_at {l : List Bool} {t : Int} (h0 : 0 ≤ t) (h1 : t < (l.length : Int)) (v : Bool) (i : Nat) : at_ (l.set t.toNat v) ((i : Nat) : Int) = if ((i : Nat) : Int) = t then v else at_ l ((i : Nat) : Int) := by
  unfold at_
  rw [List.getD_eq_getElem?_getD, List.getElem?_set, List.getD_eq_getElem?_getD, Int.toNat_natCast]
  by_cases h : ((i : Nat) : Int) = t
  · rw [if_pos h, if_pos (by omega), if_pos (by omega)]; rfl
  · rw [if_neg h, if_neg (by omega)]
theorem sub_set {n : Nat} {l : List Bool} {t : Int} (h0 : 0 ≤ t) (h1 : t < (l.length : Int)) : Sub n l (l.set t.toNat true) := fun i hi h => by
  rw [mark_set_at h0 h1]; split
  · rfl
  · exact h
def lfpTo (n : Nat) (F : List Bool → Nat → Bool) : Nat → List Bool
  | 0 => tab n fun _ => false
  | k + 1 => tab n (F (lfpTo n F k))
def lfp (n : Nat) (F : List Bool → Nat → Bool) : List Bool := lfpTo n F n
theorem sub_antisymm {n : Nat} {a b : List Bool} (ha : a.length = n) (hb : b.length = n) (h : Sub n a b) (h2 : Sub n b a) : a = b :=
  marks_ext ha hb fun i hi => by
    rw [Bool.eq_iff_iff]; exact ⟨h i hi, h2 i hi⟩
end Gx
namespace Gx
open Go Go.RowKit
set_option linter.unusedSimpArgs false
set_option linter.unusedSectionVars false
set_option linter.unusedVariables false
structure Grow (n : Nat) (c0 c : List Bool) (Q : Prop) : Prop where
  len0 : (c0.length : Int) = n
  len : (c.length : Int) = n
  sub : Sub n c0 c
  told : c = c0 → Q
theorem Grow.keep {n : Nat} {c0 c : List Bool} {Q Q' : Prop} (g : Grow n c0 c Q) (h : c = c0 → Q → Q') : Grow n c0 c Q' := ⟨g.len0, g.len, g.sub, fun e => h e (g.told e)⟩
theorem Grow.set {n : Nat} {c0 c : List Bool} {Q Q' : Prop} (g : Grow n c0 c Q) {t : Int} (h0 : 0 ≤ t) (h1 : t < (n : Int)) (h : at_ c0 t = true → Q → Q') : Grow n c0 (c.set t.toNat true) Q' where
  len0 := g.len0
  len := by rw [List.length_set]; exact g.len
  sub := g.sub.trans (sub_set h0 (by rw [g.len]; exact h1))
  told := fun e => by
    have hs : Sub n c (c.set t.toNat true) := sub_set h0 (by rw [g.len]; exact h1)
    have e2 : c = c0 := sub_antisymm (n := n) (by have := g.len; omega) (by have := g.len0; omega) (by rw [← e]; exact hs) g.sub
    have h3 := mark_set_at (l := c) h0 (by rw [g.len]; exact h1) true t.toNat
    rw [e, Int.toNat_of_nonneg h0, if_pos rfl] at h3
    exact h h3 (g.told e2)
section
variable {m : Mach} {c0 g0 come goes : List Bool} {QC QG QC' QG' : Prop}
end
section
variable {m : Mach} {c0 g0 come goes : List Bool} {QC QG : Prop} {i k : Int}
end
end Gx
namespace Gx
open Go Go.RowKit
set_option linter.unusedSimpArgs false
set_option linter.unusedSectionVars false
set_option linter.unusedVariables false
def zaf (w : ByteArray) : List Int := w.data.toList.map fun b => ((b.toNat : Nat) : Int)
theorem zax (w : ByteArray) : (zaf w).length = w.size := by unfold zaf; rw [List.length_map, Array.length_toList]; rfl
theorem bytesL_at (w : ByteArray) {j : Int} (h0 : 0 ≤ j) (h1 : j < (w.size : Int)) : at_ (zaf w) j = byt w j := by
  unfold at_ byt zaf
  have : j.toNat < w.data.toList.length := by have h2 : (j.toNat : Int) < ((w.data.size : Nat) : Int) := by rw [Int.toNat_of_nonneg h0]; exact h1
                                              rw [Array.length_toList]; omega
  rw [List.getD_eq_getElem?_getD, List.getElem?_map, List.getD_eq_getElem?_getD, List.getElem?_eq_getElem this]; rfl
end Gx
namespace Gx
open Go Go.RowKit
set_option linter.unusedSimpArgs false
set_option linter.unusedSectionVars false
set_option linter.unusedVariables false
section
variable {P : Program} {f n : Nat} {k : List Item} {ρ : Env} {w : World} {R : Ending → World → Prop} {ops : Array Oper} {rest : List Nat} {i : Nat}
variable {d : Tmp} {ty : TypeId} {pos : String} {af : Array Edge} {x y : Operand} {op : Op} {gd : Option (Nat × Bool)}
end
section
variable {P : Program} {f n : Nat} {k : List Item} {ρ : Env} {w : World} {R : Ending → World → Prop} {ops : Array Oper} {H : Held} {fuel : Nat} {listed : Array Bool} {i : Nat}
variable {d : Tmp} {ty : TypeId} {pos : String} {af : Array Edge} {op : Op} {gd : Option (Nat × Bool)}
end
section
variable {P : Program} {w : World} {ρ : Env} {d : Option Tmp} {x y : Operand} {ty : TypeId} {pos : String} {af : Array Edge} {g : Option (Nat × Bool)}
theorem x_nilCheck {ad : Addr} (hx : ev ρ x = .pointer (some ad)) : (execOp (ev ρ) ⟨d, .nilCheck x, ty, pos, af, g⟩).run P w = .ok (.value (.pointer (some ad))) w := by
  simp only [execOp, hx]
  rfl
theorem x_eql_ptr {p : Option Addr} {t t2 e : TypeId} (hT : P.underlying t = some (.pointer e)) (hx : ev ρ x = .pointer p) (hy : ev ρ y = .pointer none) : (execOp (ev ρ) ⟨d, .binOp .eql t x y t2, ty, pos, af, g⟩).run P w = .ok (.value (.bool p.isNone)) w := by
  have hg : (eqGuard .eql t x y (.pointer p) (.pointer none)).run P w = .ok () w := by unfold eqGuard; rfl
  have h1 := run_equalIn_pointer_nil (P := P) (w := w) 9999 t p (by rw [show P.pointee t = e by simp [Program.pointee, hT]]; exact hT)
  simp only [execOp, hx, hy, Sem.run_bind, hg, Result.andThen_ok, binOp, Op.equal, Op.maxDepth]
  rw [show (10000 : Nat) = 9999 + 1 from rfl, h1]
  rfl
theorem x_neq_ptr {p : Option Addr} {t t2 e : TypeId} (hT : P.underlying t = some (.pointer e)) (hx : ev ρ x = .pointer p) (hy : ev ρ y = .pointer none) : (execOp (ev ρ) ⟨d, .binOp .neq t x y t2, ty, pos, af, g⟩).run P w = .ok (.value (.bool (!p.isNone))) w := by
  have hg : (eqGuard .neq t x y (.pointer p) (.pointer none)).run P w = .ok () w := by unfold eqGuard; rfl
  have h1 := run_equalIn_pointer_nil (P := P) (w := w) 9999 t p (by rw [show P.pointee t = e by simp [Program.pointee, hT]]; exact hT)
  simp only [execOp, hx, hy, Sem.run_bind, hg, Result.andThen_ok, binOp, Op.equal, Op.maxDepth]
  rw [show (10000 : Nat) = 9999 + 1 from rfl, h1]
  rfl
end
section
variable {α β : Type} [DecidableEq α] {P : Program} {kt : TypeId} {ke : α → Value} {ve : β → Value} {w w' : World}
def MapH (ke : α → Value) (ve : β → Value) (b : Nat) (kvs : List (α × β)) (w : World) : Prop := ∃ es clock, w.heap[b]? = some (.map es clock) ∧ es.toList.map (fun e => (e.key, e.val)) = pairs ke ve kvs
theorem MapH.gr {b : Nat} {kvs : List (α × β)} (g : Gr w w') (h : MapH ke ve b kvs w) : MapH ke ve b kvs w' := by
  obtain ⟨es, clock, hb, hes⟩ := h
  have hlt : b < w.heap.size := (Array.getElem?_eq_some_iff.1 hb).1
  exact ⟨es, clock, by rw [← hb]; exact Chg.block g b hlt (fun x => x), hes⟩
end
section
variable {P : Program} {w w0 : World} {base : Nat} {h : Ghost} {L : List Asrt}
end
end Gx
namespace Gx
open Go Go.RowKit
set_option linter.unusedSimpArgs false
set_option linter.unusedVariables false
inductive Tr (α : Type) where
  | nil
  | node (l : Tr α) (v : Option α) (r : Tr α)
def Tr.getD {α : Type} (d : Nat) : Tr α → Nat → Option α :=
  Nat.rec (motive := fun _ => Tr α → Nat → Option α) (fun _ _ => none)
    (fun _ s t k => Tr.casesOn (motive := fun _ => Option α) t none
      (fun l v r => Nat.casesOn (motive := fun _ => Option α) k v (fun p => Bool.casesOn (motive := fun _ => Option α) (Nat.beq (Nat.mod p 2) 0) (s r (Nat.div p 2)) (s l (Nat.div p 2))))) d
def Tr.set {α : Type} (v : Option α) (d : Nat) : Tr α → Nat → Tr α :=
  Nat.rec (motive := fun _ => Tr α → Nat → Tr α) (fun t _ => t)
    (fun _ s t k => Tr.casesOn (motive := fun _ => Tr α) t
      (Nat.casesOn (motive := fun _ => Tr α) k (.node .nil v .nil) (fun p => Bool.casesOn (motive := fun _ => Tr α) (Nat.beq (Nat.mod p 2) 0) (.node .nil none (s .nil (Nat.div p 2))) (.node (s .nil (Nat.div p 2)) none .nil)))
      (fun l u r => Nat.casesOn (motive := fun _ => Tr α) k (.node l v r) (fun p => Bool.casesOn (motive := fun _ => Tr α) (Nat.beq (Nat.mod p 2) 0) (.node l u (s r (Nat.div p 2))) (.node (s l (Nat.div p 2)) u r)))) d
theorem Tr.getD_nil {α : Type} (d k : Nat) : Tr.getD d (Tr.nil : Tr α) k = none := by cases d <;> rfl
theorem Tr.getD_zero {α : Type} {d : Nat} {l r : Tr α} {v : Option α} : Tr.getD (d + 1) (Tr.node l v r) 0 = v := rfl
theorem Tr.getD_succ {α : Type} {d : Nat} {l r : Tr α} {v : Option α} {p : Nat} : Tr.getD (d + 1) (Tr.node l v r) (p + 1) = cond (Nat.beq (p % 2) 0) (Tr.getD d l (p / 2)) (Tr.getD d r (p / 2)) := by
  show Bool.casesOn (motive := fun _ => Option α) (Nat.beq (p % 2) 0) (Tr.getD d r (p / 2)) (Tr.getD d l (p / 2)) = _
  cases Nat.beq (p % 2) 0 <;> rfl
theorem Tr.set_zero {α : Type} {d : Nat} {l r : Tr α} {u v : Option α} : Tr.set v (d + 1) (.node l u r) 0 = .node l v r := rfl
theorem Tr.set_succ {α : Type} {d : Nat} {l r : Tr α} {u v : Option α} {p : Nat} : Tr.set v (d + 1) (.node l u r) (p + 1) = cond (Nat.beq (p % 2) 0) (.node (Tr.set v d l (p / 2)) u r) (.node l u (Tr.set v d r (p / 2))) := by
  show Bool.casesOn (motive := fun _ => Tr α) (Nat.beq (p % 2) 0) (.node l u (Tr.set v d r (p / 2))) (.node (Tr.set v d l (p / 2)) u r) = _
  cases Nat.beq (p % 2) 0 <;> rfl
theorem Tr.set_nil {α : Type} {d : Nat} {v : Option α} {k : Nat} : Tr.set v (d + 1) .nil k = Tr.set v (d + 1) (.node .nil none .nil) k := by
  cases k with
  | zero => rfl
  | succ p =>
    rw [Tr.set_succ]
    show Bool.casesOn (motive := fun _ => Tr α) (Nat.beq (p % 2) 0) (.node .nil none (Tr.set v d .nil (p / 2))) (.node (Tr.set v d .nil (p / 2)) none .nil) = _
    cases Nat.beq (p % 2) 0 <;> rfl
theorem Tr.get_set {α : Type} (v : Option α) : ∀ (d : Nat) (t : Tr α) (k j : Nat), k + 1 < 2 ^ d → Tr.getD d (Tr.set v d t k) j = if j = k then v else Tr.getD d t j := by
  intro d
  induction d with
  | zero => intro t k j hk; simp at hk
  | succ d ih =>
    have key : ∀ (l r : Tr α) (u : Option α) (k j : Nat), k + 1 < 2 ^ (d + 1) → Tr.getD (d + 1) (Tr.set v (d + 1) (.node l u r) k) j = if j = k then v else Tr.getD (d + 1) (Tr.node l u r) j := by
      intro l r u k j hk
      cases k with
      | zero =>
        rw [Tr.set_zero]
        cases j with
        | zero => simp [Tr.getD_zero]
        | succ q => simp [Tr.getD_succ]
      | succ p =>
        have hp : p / 2 + 1 < 2 ^ d := by
          rw [Nat.pow_succ] at hk; omega
        rw [Tr.set_succ]
        cases hb : Nat.beq (p % 2) 0 with
        | true =>
          simp only [cond_true]
          have h0 : p % 2 = 0 := Nat.eq_of_beq_eq_true hb
          cases j with
          | zero => simp [Tr.getD_zero]
          | succ q =>
            simp only [Tr.getD_succ]
            cases hq : Nat.beq (q % 2) 0 with
            | true =>
              have h1 : q % 2 = 0 := Nat.eq_of_beq_eq_true hq
              simp only [cond_true]
              rw [ih _ _ _ hp]
              by_cases e : q / 2 = p / 2
              · rw [if_pos e, if_pos (by omega)]
              · rw [if_neg e, if_neg (by omega)]
            | false =>
              have h1 : ¬ q % 2 = 0 := fun e => by rw [e] at hq; cases hq
              simp only [cond_false]
              rw [if_neg (by omega)]
        | false =>
          simp only [cond_false]
          have h0 : ¬ p % 2 = 0 := fun e => by rw [e] at hb; cases hb
          cases j with
          | zero => simp [Tr.getD_zero]
          | succ q =>
            simp only [Tr.getD_succ]
            cases hq : Nat.beq (q % 2) 0 with
            | true =>
              have h1 : q % 2 = 0 := Nat.eq_of_beq_eq_true hq
              simp only [cond_true]
              rw [if_neg (by omega)]
            | false =>
              have h1 : ¬ q % 2 = 0 := fun e => by rw [e] at hq; cases hq
              simp only [cond_false]
              rw [ih _ _ _ hp]
              by_cases e : q / 2 = p / 2
              · rw [if_pos e, if_pos (by omega)]
              · rw [if_neg e, if_neg (by omega)]
    intro t k j hk
    cases t with
    | nil =>
      rw [Tr.set_nil, key _ _ _ _ _ hk]
      split
      · rfl
      · rw [Tr.getD_nil]
        cases j with
        | zero => rfl
        | succ q => rw [Tr.getD_succ, Tr.getD_nil]; cases Nat.beq (q % 2) 0 <;> rfl
    | node l u r => exact key l r u k j hk
def Tr.get {α : Type} (t : Tr α) (k : Nat) : Option α := Tr.getD 40 t k
theorem Tr.get_nil {α : Type} (k : Nat) : (Tr.nil : Tr α).get k = none := rfl
def smallK (k : Nat) : Bool := Nat.blt (k + 1) 1099511627776
def Tr.put {α : Type} (t : Tr α) (k : Nat) (v : Option α) : Tr α := Tr.set v 40 t k
theorem Tr.get_put {α : Type} {t : Tr α} {k : Nat} (v : Option α) (j : Nat) (h : smallK k = true) : (t.put k v).get j = if j = k then v else t.get j :=
  Tr.get_set v 40 t k j (by have : k + 1 < 1099511627776 := by simpa [smallK, Nat.blt_eq] using h
                            simpa using this)
inductive AV where
  | v (x : Value)
  | ptr (b off : Nat)
  | sl (b oc oe len : Nat)
  | slx (b oc len cap : Nat)
  | agg (l : List AV)
  | tup (l : List AV)
  | fn (f : Nat) (l : List AV)
  | ifc (t : Nat) (x : AV)
abbrev Ph := Nat → Option (Nat × Nat)
mutual
def AV.c (φ : Ph) : AV → Option Value
  | .v x => some x
  | .ptr b o => (φ b).map fun p => .pointer (some ⟨p.1, o, none⟩)
  | .sl b oc oe len => (φ b).map fun p => .slice (some ⟨p.1, oc, none⟩) len (p.2 - oe)
  | .slx b oc len cap => (φ b).map fun p => .slice (some ⟨p.1, oc, none⟩) len cap
  | .agg l => (AV.cl φ l).map fun vs => .agg vs.toArray
  | .tup l => (AV.cl φ l).map fun vs => .tuple vs.toArray
  | .fn f l => (AV.cl φ l).map fun vs => .func (.func f) #[] vs.toArray
  | .ifc t x => (AV.c φ x).map fun u => .iface t u
def AV.cl (φ : Ph) : List AV → Option (List Value)
  | [] => some []
  | a :: l => match AV.c φ a, AV.cl φ l with
    | some x, some xs => some (x :: xs)
    | _, _ => none
end
def PLe (φ φ' : Ph) : Prop := ∀ b p, φ b = some p → φ' b = some p
theorem PLe.refl (φ : Ph) : PLe φ φ := fun _ _ h => h
theorem PLe.trans {φ φ' φ'' : Ph} (h : PLe φ φ') (h' : PLe φ' φ'') : PLe φ φ'' := fun b p e => h' b p (h b p e)
theorem map_le {α β : Type} {f : α → β} {x y : Option α} {z : β} (h : ∀ p, x = some p → y = some p) (e : x.map f = some z) : y.map f = some z := by
  cases x with
  | none => cases e
  | some p => rw [h p rfl]; exact e
mutual
theorem AV.c_mono {φ φ' : Ph} (hl : PLe φ φ') : ∀ (a : AV) (x : Value), a.c φ = some x → a.c φ' = some x
  | .v _, _, h => h
  | .ptr b _, _, h => map_le (hl b) h
  | .sl b _ _ _, _, h => map_le (hl b) h
  | .slx b _ _ _, _, h => map_le (hl b) h
  | .agg l, _, h => map_le (AV.cl_mono hl l) h
  | .tup l, _, h => map_le (AV.cl_mono hl l) h
  | .fn _ l, _, h => map_le (AV.cl_mono hl l) h
  | .ifc _ a, _, h => map_le (AV.c_mono hl a) h
theorem AV.cl_mono {φ φ' : Ph} (hl : PLe φ φ') : ∀ (l : List AV) (xs : List Value), AV.cl φ l = some xs → AV.cl φ' l = some xs
  | [], _, h => h
  | a :: l, xs, h => by
    unfold AV.cl at h ⊢
    split at h
    · rename_i x ys h1 h2
      rw [AV.c_mono hl a x h1, AV.cl_mono hl l ys h2]
      exact h
    · cases h
end
theorem AV.cl_cons {φ : Ph} {a : AV} {l : List AV} {xs : List Value} (h : AV.cl φ (a :: l) = some xs) : ∃ x ys, xs = x :: ys ∧ a.c φ = some x ∧ AV.cl φ l = some ys := by
  unfold AV.cl at h
  split at h
  · rename_i x ys h1 h2
    injection h with h
    exact ⟨x, ys, h.symm, h1, h2⟩
  · cases h
theorem AV.cl_mk {φ : Ph} {a : AV} {l : List AV} {x : Value} {ys : List Value} (h1 : a.c φ = some x) (h2 : AV.cl φ l = some ys) : AV.cl φ (a :: l) = some (x :: ys) := by
  unfold AV.cl; rw [h1, h2]
theorem AV.cl_len {φ : Ph} : ∀ {l : List AV} {xs : List Value}, AV.cl φ l = some xs → xs.length = l.length
  | [], xs, h => by unfold AV.cl at h; injection h with h; subst h; rfl
  | a :: l, xs, h => by
    obtain ⟨x, ys, rfl, _, h2⟩ := AV.cl_cons h
    simp [AV.cl_len h2]
theorem AV.cl_get {φ : Ph} : ∀ {l : List AV} {xs : List Value} {i : Nat} {a : AV}, AV.cl φ l = some xs → l[i]? = some a → ∃ x, xs[i]? = some x ∧ a.c φ = some x
  | [], _, i, a, _, hi => by simp at hi
  | b :: l, xs, i, a, h, hi => by
    obtain ⟨x, ys, rfl, h1, h2⟩ := AV.cl_cons h
    cases i with
    | zero => simp only [List.getElem?_cons_zero, Option.some.injEq] at hi; subst hi; exact ⟨x, rfl, h1⟩
    | succ i => exact AV.cl_get (i := i) h2 (by simpa using hi)
theorem AV.cl_app {φ : Ph} : ∀ {l m : List AV} {xs ys : List Value}, AV.cl φ l = some xs → AV.cl φ m = some ys → AV.cl φ (l ++ m) = some (xs ++ ys)
  | [], m, xs, ys, h, h2 => by unfold AV.cl at h; injection h with h; subst h; exact h2
  | a :: l, m, xs, ys, h, h2 => by
    obtain ⟨x, zs, rfl, h1, h3⟩ := AV.cl_cons h
    exact AV.cl_mk h1 (AV.cl_app h3 h2)
theorem AV.cl_drop {φ : Ph} : ∀ {l : List AV} {xs : List Value} (n : Nat), AV.cl φ l = some xs → AV.cl φ (l.drop n) = some (xs.drop n)
  | l, xs, 0, h => h
  | [], xs, n + 1, h => by unfold AV.cl at h; injection h with h; subst h; rfl
  | a :: l, xs, n + 1, h => by
    obtain ⟨x, zs, rfl, h1, h3⟩ := AV.cl_cons h
    exact AV.cl_drop n h3
theorem AV.cl_take {φ : Ph} : ∀ {l : List AV} {xs : List Value} (n : Nat), AV.cl φ l = some xs → AV.cl φ (l.take n) = some (xs.take n)
  | l, xs, 0, h => by unfold AV.cl; simp
  | [], xs, n + 1, h => by unfold AV.cl at h; injection h with h; subst h; rfl
  | a :: l, xs, n + 1, h => by
    obtain ⟨x, zs, rfl, h1, h3⟩ := AV.cl_cons h
    exact AV.cl_mk h1 (AV.cl_take n h3)
theorem AV.cl_v (φ : Ph) : ∀ (l : List Value), AV.cl φ (l.map AV.v) = some l
  | [] => by unfold AV.cl; rfl
  | x :: l => AV.cl_mk (by unfold AV.c; rfl) (AV.cl_v φ l)
def ofV : Value → AV
  | .agg cs => .agg (cs.toList.map .v)
  | .tuple cs => .tup (cs.toList.map fun x => match x with | .agg ds => .agg (ds.toList.map .v) | y => .v y)
  | x => .v x
theorem cl_ofV (φ : Ph) : ∀ (l : List Value), AV.cl φ (l.map fun x => match x with | .agg ds => AV.agg (ds.toList.map .v) | y => .v y) = some l
  | [] => by unfold AV.cl; rfl
  | x :: l => AV.cl_mk (by
      cases x <;> first | (unfold AV.c; rfl) | (simp only; unfold AV.c; rw [AV.cl_v]; simp)) (cl_ofV φ l)
theorem ofV_c (φ : Ph) (x : Value) : (ofV x).c φ = some x := by
  cases x <;> first
    | (unfold ofV AV.c; rfl)
    | (unfold ofV; simp only; unfold AV.c; rw [AV.cl_v]; simp)
    | (unfold ofV; simp only; unfold AV.c; rw [cl_ofV]; simp)
def AV.cells : AV → List AV
  | .agg l => l
  | a => [a]
def AV.one : AV → Bool
  | .agg _ | .tup _ => false
  | .v (.agg _) | .v (.tuple _) => false
  | _ => true
theorem AV.one_c {φ : Ph} {a : AV} {x : Value} (h : a.one = true) (hc : a.c φ = some x) : x.oneCell' = true := by
  cases a <;> simp only [AV.one, Bool.false_eq_true] at h <;> unfold AV.c at hc
  case v y => injection hc with hc; subst hc; cases y <;> simp_all [Value.oneCell']
  all_goals
    simp only [Option.map_eq_some_iff] at hc
    obtain ⟨p, _, rfl⟩ := hc
    rfl
theorem AV.one_l {φ : Ph} {l : List AV} {xs : List Value} (h : l.all AV.one = true) (hc : AV.cl φ l = some xs) : ∀ u ∈ xs, u.oneCell' = true := by
  intro u hu
  obtain ⟨i, hi, rfl⟩ := List.mem_iff_getElem.1 hu
  have hlen := AV.cl_len hc
  obtain ⟨x, h1, h2⟩ := AV.cl_get hc (List.getElem?_eq_getElem (show i < l.length by omega))
  rw [List.getElem?_eq_getElem hi] at h1
  injection h1 with h1
  subst h1
  exact AV.one_c (List.all_eq_true.1 h _ (List.getElem_mem _)) h2
theorem AV.cells_c {φ : Ph} {a : AV} {x : Value} (ht : ∀ cs, a ≠ .v (.agg cs)) (hc : a.c φ = some x) : ∃ xs, AV.cl φ a.cells = some xs ∧ x.cells = xs.toArray := by
  have gen : ∀ (z : AV), z.cells = [z] → (∀ ds, x ≠ .agg ds) → z.c φ = some x → ∃ xs, AV.cl φ z.cells = some xs ∧ x.cells = xs.toArray := fun z h1 h2 h3 => by
    refine ⟨[x], by rw [h1]; exact AV.cl_mk h3 (by unfold AV.cl; rfl), ?_⟩
    cases x <;> first | rfl | exact (h2 _ rfl).elim
  cases a with
  | agg l =>
    unfold AV.c at hc
    simp only [Option.map_eq_some_iff] at hc
    obtain ⟨xs, h1, rfl⟩ := hc
    exact ⟨xs, h1, rfl⟩
  | v y =>
    refine gen _ rfl (fun ds e => ?_) hc
    unfold AV.c at hc; injection hc with hc; subst hc; exact ht _ (by rw [e])
  | _ =>
    refine gen _ rfl (fun ds e => ?_) hc
    subst e
    unfold AV.c at hc
    simp only [Option.map_eq_some_iff] at hc
    obtain ⟨p, _, h2⟩ := hc
    cases h2
end Gx
namespace Gx
open Go Go.RowKit
set_option linter.unusedSimpArgs false
set_option linter.unusedVariables false
inductive BO where
  | cells (T m : Nat) (l : List AV)
abbrev HF := Nat → Option BO
def ObjAt (φ : Ph) (o : BO) (cap : Nat) (ob : Option Obj) : Prop :=
  match o with
  | .cells T m l => cap ≤ maxLen ∧ ∃ arr vs, ob = some (.cells arr T (0, 0)) ∧ arr.size = cap * m ∧ AV.cl φ l = some vs ∧ vs.length ≤ arr.size ∧ arr.toList.take vs.length = vs
theorem ObjAt.mono {φ φ' : Ph} (hl : PLe φ φ') {o : BO} {cap : Nat} {ob : Option Obj} (h : ObjAt φ o cap ob) : ObjAt φ' o cap ob := by
  cases o with
  | cells T m l =>
    obtain ⟨h0, arr, vs, h1, h2, h3, h4⟩ := h
    exact ⟨h0, arr, vs, h1, h2, AV.cl_mono hl l vs h3, h4⟩
theorem ObjAt.some {φ : Ph} {o : BO} {cap : Nat} {ob : Option Obj} (h : ObjAt φ o cap ob) : ob ≠ none := by
  cases o with
  | cells T m l => obtain ⟨h0, arr, vs, h1, _⟩ := h; rw [h1]; simp
structure Rel (base : Nat) (w0 : World) (φ : Ph) (g : HF) (w : World) : Prop where
  obj : ∀ b o, g b = some o → ∃ x cap, φ b = some (x, cap) ∧ ObjAt φ o cap w.heap[x]?
  inj : ∀ b b' x y y', g b ≠ none → g b' ≠ none → φ b = some (x, y) → φ b' = some (x, y') → b = b'
  low : ∀ b x y, g b ≠ none → φ b = some (x, y) → base ≤ x
  below : Below base w0 w
  bsz : base ≤ w.heap.size
def Own (φ : Ph) (g : HF) (x : Nat) : Prop := ∃ b cap, g b ≠ none ∧ φ b = some (x, cap)
def Fre (φ : Ph) (c c' : Nat) : Prop := ∀ b, c ≤ b → b < c' → φ b = none
theorem Fre.sub {φ : Ph} {c c' d d' : Nat} (h : Fre φ c c') (h1 : c ≤ d) (h2 : d' ≤ c') : Fre φ d d' := fun b hb hb' => h b (by omega) (by omega)
structure Tran (base : Nat) (w0 : World) (φ : Ph) (g : HF) (c : Nat) (w : World) (φ' : Ph) (g' : HF) (c' : Nat) (w' : World) : Prop where
  same : ∀ b, ¬ (c ≤ b ∧ b < c') → φ' b = φ b
  rel : Rel base w0 φ' g' w'
  chg : Chg w w' (Own φ g)
  new : ∀ x, Own φ' g' x → w.heap.size ≤ x ∨ Own φ g x
  cle : c ≤ c'
  keys : ∀ b, g' b ≠ none → g b ≠ none ∨ (c ≤ b ∧ b < c')
section
variable {base : Nat} {w0 : World} {φ φ' φ'' : Ph} {g g' g'' : HF} {c c' c'' : Nat} {w w' w'' : World}
theorem Rel.lt (R : Rel base w0 φ g w) {b x cap : Nat} (hb : g b ≠ none) (hx : φ b = some (x, cap)) : x < w.heap.size := by
  cases hg : g b with
  | none => exact absurd hg hb
  | some o =>
    obtain ⟨y, cp, h1, h2⟩ := R.obj b o hg
    rw [hx] at h1; injection h1 with h1; injection h1 with h1 _; subst h1
    have := h2.some
    rcases Nat.lt_or_ge x w.heap.size with h | h
    · exact h
    · rw [Array.getElem?_eq_none h] at this; exact absurd rfl this
theorem Rel.grow (R : Rel base w0 φ g w) (hc : Chg w w' (fun _ => False)) : Rel base w0 φ g w' := ⟨fun b o h => by
  obtain ⟨x, cap, h1, h2⟩ := R.obj b o h
  refine ⟨x, cap, h1, ?_⟩
  rw [hc.block x (R.lt (by rw [h]; simp) h1) (fun h => h)]; exact h2, R.inj, R.low, R.below.trans ⟨hc.os, hc.tape, hc.output, hc.size, fun k hk => hc.block k (Nat.lt_of_lt_of_le hk R.bsz) (fun h => h)⟩, Nat.le_trans R.bsz hc.size⟩
theorem Fre.le (hf : Fre φ c c') (h : ∀ b, ¬ (c ≤ b ∧ b < c') → φ' b = φ b) : PLe φ φ' := fun b p e => by
  rw [h b (fun hb => by rw [hf b hb.1 hb.2] at e; cases e)]; exact e
theorem Tran.le (T : Tran base w0 φ g c w φ' g' c' w') (hf : Fre φ c c') : PLe φ φ' := hf.le T.same
theorem Tran.refl (R : Rel base w0 φ g w) (c : Nat) : Tran base w0 φ g c w φ g c w := ⟨fun _ _ => rfl, R, Chg.refl w _, fun x h => .inr h, Nat.le_refl _, fun b h => .inl h⟩
theorem Tran.grow (R : Rel base w0 φ g w) (c : Nat) (hc : Chg w w' (fun _ => False)) : Tran base w0 φ g c w φ g c w' := ⟨fun _ _ => rfl, R.grow hc, hc.mono (fun _ h => h.elim), fun x h => .inr h, Nat.le_refl _, fun b h => .inl h⟩
theorem Tran.trans (T : Tran base w0 φ g c w φ' g' c' w') (T' : Tran base w0 φ' g' c' w' φ'' g'' c'' w'') : Tran base w0 φ g c w φ'' g'' c'' w'' := by
  have h1 := T.cle; have h2 := T'.cle
  refine ⟨fun b hb => (T'.same b (by omega)).trans (T.same b (by omega)), T'.rel, ⟨T'.chg.os.trans T.chg.os, T'.chg.tape.trans T.chg.tape, T'.chg.output.trans T.chg.output, Nat.le_trans T.chg.size T'.chg.size, fun x hx hn => ?_⟩, fun x hx => ?_, Nat.le_trans h1 h2, fun b hb => ?_⟩
  · refine (T'.chg.block x (Nat.lt_of_lt_of_le hx T.chg.size) (fun ho => ?_)).trans (T.chg.block x hx hn)
    rcases T.new x ho with h | h
    · omega
    · exact hn h
  · rcases T'.new x hx with h | h
    · exact .inl (Nat.le_trans T.chg.size h)
    · exact T.new x h
  · rcases T'.keys b hb with h | h
    · rcases T.keys b h with h | h
      · exact .inl h
      · exact .inr (by omega)
    · exact .inr (by omega)
theorem Fre.step (hf : Fre φ c c'') (T : Tran base w0 φ g c w φ' g' c' w') : Fre φ' c' c'' := fun b h1 h2 => by
  rw [T.same b (by omega)]; exact hf b (by have := T.cle; omega) h2
def mrg (g g1' : HF) (X : Nat → Prop) [DecidablePred X] : HF := fun b => if X b then g1' b else g b
theorem Tran.frame {g1 g1' : HF} {X : Nat → Prop} [DecidablePred X] (R : Rel base w0 φ g w) (hsub : ∀ b, g1 b ≠ none → g b = g1 b) (T : Tran base w0 φ g1 c w φ' g1' c' w') (hf : Fre φ c c')
    (hX : ∀ b, g1' b ≠ none → ¬ X b → g1' b = g b) (hX2 : ∀ b, g b ≠ none → g1 b = none → ¬ X b) (hX3 : ∀ b, g1 b ≠ none → ¬ X b → g1' b ≠ none) (hXr : ∀ b, c ≤ b → b < c' → X b) : Tran base w0 φ g c w φ' (mrg g g1' X) c' w' := by
  have hle := T.le hf
  have hgk : ∀ b, g b ≠ none → ¬ (c ≤ b ∧ b < c') := fun b hb hr => by
    cases hg : g b with
    | none => exact hb hg
    | some o => obtain ⟨x, cap, h1, _⟩ := R.obj b o hg; rw [hf b hr.1 hr.2] at h1; cases h1
  -- which are from where
  have hcase : ∀ b o, mrg g g1' X b = some o → (g1' b = some o) ∨ (g b = some o ∧ g1 b = none ∧ ¬ X b) := fun b o h => by
    unfold mrg at h
    split at h
    · exact .inl h
    · rename_i hx
      cases hg : g1 b with
      | none => exact .inr ⟨h, rfl, hx⟩
      | some o1 =>
        have h1 := hX3 b (by rw [hg]; simp) hx
        exact .inl ((hX b h1 hx).trans h)
  have hfar : ∀ b x cap, g b ≠ none → g1 b = none → φ b = some (x, cap) → ¬ Own φ g1 x := fun b x cap hb h1 hx ho => by
    obtain ⟨b0, cap0, h2, h3⟩ := ho
    have := R.inj b b0 x cap cap0 hb (by rw [hsub b0 h2]; exact h2) hx h3
    subst this; exact h2 h1
  refine ⟨T.same, ⟨fun b o h => ?_, fun b b' x y y' h h' hx hx' => ?_, fun b x y h hx => ?_, T.rel.below, T.rel.bsz⟩, T.chg.mono (fun x ho => ?_), fun x ho => ?_, T.cle, fun b h => ?_⟩
  · rcases hcase b o h with h1 | ⟨h1, h2, h3⟩
    · exact T.rel.obj b o h1
    · obtain ⟨x, cap, hx, ho⟩ := R.obj b o h1
      refine ⟨x, cap, hle b _ hx, ?_⟩
      rw [T.chg.block x (R.lt (by rw [h1]; simp) hx) (hfar b x cap (by rw [h1]; simp) h2 hx)]
      exact ho.mono hle
  · have side : ∀ b b' x y y', g1' b ≠ none → g b' ≠ none → g1 b' = none → φ' b = some (x, y) → φ' b' = some (x, y') → False := fun b b' x y y' h1 h2 h3 hx hx' => by
      have e' : φ b' = some (x, y') := by rw [← T.same b' (hgk b' h2)]; exact hx'
      rcases T.new x ⟨b, y, h1, hx⟩ with h | h
      · have := R.lt h2 e'; omega
      · exact hfar b' x y' h2 h3 e' h
    cases hb : mrg g g1' X b with
    | none => exact absurd hb h
    | some o =>
      cases hb' : mrg g g1' X b' with
      | none => exact absurd hb' h'
      | some o' =>
        rcases hcase b o hb with h1 | ⟨h1, h2, _⟩ <;> rcases hcase b' o' hb' with h3 | ⟨h3, h4, _⟩
        · exact T.rel.inj b b' x y y' (by rw [h1]; simp) (by rw [h3]; simp) hx hx'
        · exact (side b b' x y y' (by rw [h1]; simp) (by rw [h3]; simp) h4 hx hx').elim
        · exact (side b' b x y' y (by rw [h3]; simp) (by rw [h1]; simp) h2 hx' hx).elim
        · have e1 := (T.same b (hgk b (by rw [h1]; simp))).symm.trans hx
          have e2 := (T.same b' (hgk b' (by rw [h3]; simp))).symm.trans hx'
          exact R.inj b b' x y y' (by rw [h1]; simp) (by rw [h3]; simp) e1 e2
  · cases hb : mrg g g1' X b with
    | none => exact absurd hb h
    | some o =>
      rcases hcase b o hb with h1 | ⟨h1, h2, _⟩
      · exact T.rel.low b x y (by rw [h1]; simp) hx
      · exact R.low b x y (by rw [h1]; simp) ((T.same b (hgk b (by rw [h1]; simp))).symm.trans hx)
  · obtain ⟨b, cap, h1, h2⟩ := ho
    exact ⟨b, cap, by rw [hsub b h1]; exact h1, h2⟩
  · obtain ⟨b, cap, h1, h2⟩ := ho
    cases hb : mrg g g1' X b with
    | none => exact absurd hb h1
    | some o =>
      rcases hcase b o hb with h3 | ⟨h3, h4, _⟩
      · rcases T.new x ⟨b, cap, by rw [h3]; simp, h2⟩ with h | ⟨b0, cap0, h5, h6⟩
        · exact .inl h
        · exact .inr ⟨b0, cap0, by rw [hsub b0 h5]; exact h5, h6⟩
      · exact .inr ⟨b, cap, by rw [h3]; simp, by rw [← T.same b (hgk b (by rw [h3]; simp))]; exact h2⟩
  · cases hb : mrg g g1' X b with
    | none => exact absurd hb h
    | some o =>
      rcases hcase b o hb with h3 | ⟨h3, h4, _⟩
      · rcases T.keys b (by rw [h3]; simp) with h | h
        · exact .inl (by rw [hsub b h]; exact h)
        · exact .inr h
      · exact .inl (by rw [h3]; simp)
def pup (φ : Ph) (c : Nat) (p : Nat × Nat) : Ph := fun b => if b = c then some p else φ b
def gup (g : HF) (c : Nat) (o : Option BO) : HF := fun b => if b = c then o else g b
theorem tran_alloc (R : Rel base w0 φ g w) (hf : Fre φ c (c + 1)) {T m cap : Nat} {l : List AV} {vs arr : List Value} (hl : AV.cl φ l = some vs) (hs : arr.length = cap * m) (hpv : arr.take vs.length = vs) (hpl : vs.length ≤ arr.length) (hcap : cap ≤ maxLen) :
    Tran base w0 φ g c w (pup φ c (w.heap.size, cap)) (gup g c (some (.cells T m l))) (c + 1) (w.alloc (.cells arr.toArray T)) ∧ pup φ c (w.heap.size, cap) c = some (w.heap.size, cap) := by
  have hsame : ∀ b, ¬ (c ≤ b ∧ b < c + 1) → pup φ c (w.heap.size, cap) b = φ b := fun b hb => by unfold pup; rw [if_neg (by omega)]
  have hle : PLe φ (pup φ c (w.heap.size, cap)) := hf.le hsame
  have hgc : g c = none := by
    cases hg : g c with
    | none => rfl
    | some o => obtain ⟨x, y, h1, _⟩ := R.obj c o hg; rw [hf c (by omega) (by omega)] at h1; cases h1
  have hat : (w.alloc (.cells arr.toArray T)).heap[w.heap.size]? = some (.cells arr.toArray T) := by
    show (w.heap.push _)[w.heap.size]? = _
    simp
  have hold : ∀ x, x < w.heap.size → (w.alloc (.cells arr.toArray T)).heap[x]? = w.heap[x]? := fun x hx => (Chg.alloc w _).block x hx (fun h => h)
  refine ⟨⟨hsame, ⟨fun b o h => ?_, fun b b' x y y' h h' hx hx' => ?_, fun b x y h hx => ?_, R.below.trans ⟨rfl, rfl, rfl, (Chg.alloc w _).size, fun k hk => hold k (Nat.lt_of_lt_of_le hk R.bsz)⟩, Nat.le_trans R.bsz (Chg.alloc w _).size⟩, (Chg.alloc w _).mono (fun _ h => h.elim), fun x ho => ?_, by omega, fun b h => ?_⟩, by unfold pup; simp⟩
  · unfold gup at h
    by_cases hb : b = c
    · rw [if_pos hb] at h
      injection h with h
      subst h; subst hb
      refine ⟨w.heap.size, cap, by unfold pup; simp, hcap, arr.toArray, vs, hat, by simpa using hs, AV.cl_mono hle l vs hl, by simpa using hpl, hpv⟩
    · rw [if_neg hb] at h
      obtain ⟨x, y, h1, h2⟩ := R.obj b o h
      refine ⟨x, y, hle b _ h1, ?_⟩
      rw [hold x (R.lt (by rw [h]; simp) h1)]
      exact h2.mono hle
  · unfold gup at h h'; unfold pup at hx hx'
    by_cases hb : b = c <;> by_cases hb' : b' = c
    · omega
    · rw [if_pos hb] at hx; rw [if_neg hb'] at hx' h'
      injection hx with hx; injection hx with hx _
      have := R.lt h' hx'; omega
    · rw [if_neg hb] at hx h; rw [if_pos hb'] at hx'
      injection hx' with hx'; injection hx' with hx' _
      have := R.lt h hx; omega
    · rw [if_neg hb] at hx h; rw [if_neg hb'] at hx' h'
      exact R.inj b b' x y y' h h' hx hx'
  · unfold gup at h; unfold pup at hx
    by_cases hb : b = c
    · rw [if_pos hb] at hx; injection hx with hx; injection hx with hx _; have := R.bsz; omega
    · rw [if_neg hb] at h hx; exact R.low b x y h hx
  · obtain ⟨b, cp, h1, h2⟩ := ho
    unfold gup at h1; unfold pup at h2
    by_cases hb : b = c
    · rw [if_pos hb] at h2; injection h2 with h2; injection h2 with h2 _; exact .inl (by omega)
    · rw [if_neg hb] at h1 h2; exact .inr ⟨b, cp, h1, h2⟩
  · unfold gup at h
    by_cases hb : b = c
    · exact .inr (by omega)
    · rw [if_neg hb] at h; exact .inl h
theorem Rel.cell (R : Rel base w0 φ g w) {b T m x cap : Nat} {l : List AV} (hb : g b = some (.cells T m l)) (hx : φ b = some (x, cap)) : ∃ vs, AV.cl φ l = some vs ∧ ∀ j u, vs[j]? = some u → w.cell? ⟨x, j, none⟩ = some u := by
  obtain ⟨y, cp, h1, hc, arr, vs, h2, h3, h4, h5, h6⟩ := R.obj b _ hb
  rw [hx] at h1; injection h1 with h1; injection h1 with h1 _; subst h1
  refine ⟨vs, h4, fun j u hj => ?_⟩
  rw [← h6, List.getElem?_take] at hj
  split at hj
  · simp only [World.cell?, h2]; simpa using hj
  · cases hj
theorem Rel.seg (R : Rel base w0 φ g w) {b T m x cap off n : Nat} {l : List AV} {vs : List Value} (hb : g b = some (.cells T m l)) (hx : φ b = some (x, cap)) (hv : AV.cl φ ((l.drop off).take n) = some vs) : CF ⟨x, off, none⟩ vs w := fun j u hj => by
  obtain ⟨ws, h1, h2⟩ := R.cell hb hx
  have h3 := AV.cl_take n (AV.cl_drop off h1)
  rw [hv] at h3; injection h3 with h3; subst h3
  have hadd : (⟨x, off, none⟩ : Addr).add j = ⟨x, off + j, none⟩ := by unfold Addr.add; split <;> simp_all
  rw [hadd]
  rw [List.getElem?_take] at hj
  split at hj
  · rw [List.getElem?_drop] at hj; exact h2 _ _ hj
  · cases hj
def putL (l : List AV) (off : Nat) (new : List AV) : List AV := l.take off ++ (new ++ l.drop (off + new.length))
theorem tran_store {P : Program} (R : Rel base w0 φ g w) {b T E m x cap off n b' : Nat} {gg : Bool} {z : Option Value} {l new : List AV} {v : Value} {nv : List Value} (hb : g b = some (.cells E m l)) (hx : φ b = some (x, cap)) (ht : zam P T = some (n, b', gg, z))
    (hn : AV.cl φ new = some nv) (hvc : v.cells = nv.toArray) (hln : new.length = n) (hfit : off + n ≤ l.length) (h1 : ∀ u ∈ nv, u.oneCell' = true) (c : Nat) :
    ∃ w', (storeVar T ⟨x, off, none⟩ v).run P w = .ok () w' ∧ Tran base w0 φ g c w φ (gup g b (some (.cells E m (putL l off new)))) c w' := by
  obtain ⟨y, cp, h2, hc, arr, vs, h3, h4, h5, h6, h7⟩ := R.obj b _ hb
  rw [hx] at h2; injection h2 with h2; injection h2 with h2 h2c; subst h2; subst h2c
  have hlt := R.lt (by rw [hb]; simp) hx
  have hvl := AV.cl_len h5
  have hnl := AV.cl_len hn
  have hh : w.heap[x]? = some (.cells arr.toList.toArray E (0, 0)) := by rw [h3]
  have hal : arr.toList.length = arr.size := Array.length_toList
  have hrun := run_storeVar_box (P := P) (v := v) (off := off) ht hh (by rw [hvc]; simp; omega) (by omega) (by rw [hvc]; simpa using h1)
  rw [hvc] at hrun
  have hk : ∀ q, gup g b (some (.cells E m (putL l off new))) q ≠ none → g q ≠ none := fun q hq => by
    unfold gup at hq
    by_cases e : q = b
    · rw [e, hb]; simp
    · rw [if_neg e] at hq; exact hq
  have hxb := R.low b x cap (by rw [hb]; simp) hx
  refine ⟨_, hrun, fun _ _ => rfl, ⟨fun b2 o h => ?_, fun p q y1 y2 y3 hp hq e1 e2 => ?_, fun q y1 y2 hq e1 => R.low q y1 y2 (hk q hq) e1, R.below.trans ⟨rfl, rfl, rfl, by rw [putBlock_size]; exact Nat.le_refl _, fun k hk2 => (putBlock_chg w x E _).block k (Nat.lt_of_lt_of_le hk2 R.bsz) (by omega)⟩, by rw [putBlock_size]; exact R.bsz⟩, (putBlock_chg w x E _).mono (fun q hq => by subst hq; exact ⟨b, cap, by rw [hb]; simp, hx⟩), fun y ho => .inr ?_, Nat.le_refl _, fun b2 h => .inl ?_⟩
  · unfold gup at h
    by_cases hb2 : b2 = b
    · rw [if_pos hb2] at h
      injection h with h
      subst h; subst hb2
      refine ⟨x, cap, hx, hc, (lput arr.toList off nv).toArray, vs.take off ++ (nv ++ vs.drop (off + new.length)), ?_, ?_, ?_, ?_, ?_⟩
      · have := putBlock_at hlt E (lput arr.toList off nv)
        simpa using this
      · simp [lput_length, h4]
      · exact AV.cl_app (AV.cl_take off h5) (AV.cl_app hn (AV.cl_drop _ h5))
      · simp only [List.length_append, List.length_take, List.length_drop, List.size_toArray, lput_length]; omega
      · apply List.ext_getElem?
        intro j
        rw [List.getElem?_take]
        simp only [List.length_append, List.length_take, List.length_drop]
        split
        · show (lput arr.toList off nv)[j]? = _
          rw [lput_get nv arr.toList off j (by omega)]
          by_cases hj1 : j < off
          · rw [if_neg (by omega), List.getElem?_append_left (by simp; omega), List.getElem?_take, if_pos hj1, ← h7, List.getElem?_take, if_pos (by omega)]
          · by_cases hj2 : j < off + nv.length
            · rw [if_pos (by omega), List.getElem?_append_right (by simp; omega), List.getElem?_append_left (by simp; omega)]
              congr 1
              simp; omega
            · rw [if_neg (by omega), List.getElem?_append_right (by simp; omega), List.getElem?_append_right (by simp; omega), List.getElem?_drop]
              have : off + new.length + (j - (List.take off vs).length - nv.length) = j := by simp; omega
              rw [this, ← h7, List.getElem?_take, if_pos (by omega)]
        · rw [List.getElem?_eq_none (by simp; omega)]
    · rw [if_neg hb2] at h
      obtain ⟨y, cp, e1, e2⟩ := R.obj b2 o h
      refine ⟨y, cp, e1, ?_⟩
      rw [(putBlock_chg w x E _).block y (R.lt (by rw [h]; simp) e1) (fun hy => ?_)]
      · exact e2
      · subst hy; exact hb2 (R.inj b2 b _ cp cap (by rw [h]; simp) (by rw [hb]; simp) e1 hx)
  · have k : ∀ q, gup g b (some (.cells E m (putL l off new))) q ≠ none → g q ≠ none := fun q hq => by
      unfold gup at hq
      by_cases e : q = b
      · rw [e, hb]; simp
      · rw [if_neg e] at hq; exact hq
    exact R.inj p q y1 y2 y3 (k p hp) (k q hq) e1 e2
  · obtain ⟨q, cp, e1, e2⟩ := ho
    refine ⟨q, cp, ?_, e2⟩
    unfold gup at e1
    by_cases e : q = b
    · rw [e, hb]; simp
    · rw [if_neg e] at e1; exact e1
  · unfold gup at h
    by_cases e : b2 = b
    · rw [e, hb]; simp
    · rw [if_neg e] at h; exact h
end
end Gx
namespace Gx
open Go Go.RowKit
set_option linter.unusedSimpArgs false
set_option linter.unusedVariables false
structure En where
  mask : Nat
  loc : List (Nat × AV)
  tr : Tr AV
def lookA (j : Nat) : List (Nat × AV) → Option (Option AV)
  | [] => none
  | (d, v) :: l => Bool.casesOn (motive := fun _ => Option (Option AV)) (Nat.beq d j) (lookA j l) (some (some v))
def bitA (m j : Nat) : Bool := Nat.beq (Nat.land (Nat.shiftRight m j) 1) 1
def En.get (ρ : En) (j : Nat) : Option AV := match ρ with
  | ⟨m, l, t⟩ => match lookA j l with
    | some r => r
    | none => Bool.casesOn (motive := fun _ => Option AV) (bitA m j) none (t.get j)
def En.put (ρ : En) (d : Nat) (v : AV) : En := match ρ with
  | ⟨m, l, t⟩ => ⟨m, (d, v) :: l, t⟩
theorem En.get_put {ρ : En} {d : Nat} {v : AV} (j : Nat) : (ρ.put d v).get j = if j = d then some v else ρ.get j := by
  obtain ⟨m, l, t⟩ := ρ
  unfold En.get En.put
  simp only [lookA]
  cases hb : Nat.beq d j with
  | true =>
    have := Nat.eq_of_beq_eq_true hb; subst this
    simp
  | false =>
    have : ¬ j = d := fun e => by subst e; simp at hb
    simp only [if_neg this]
def flushA (m : Nat) : List (Nat × AV) → Tr AV → Tr AV
  | [], t => t
  | (d, v) :: l, t => Bool.casesOn (motive := fun _ => Tr AV) (bitA m d) (flushA m l t) (Bool.casesOn (motive := fun _ => Tr AV) (smallK d) .nil ((flushA m l t).put d (some v)))
def En.flush (ρ : En) : En := match ρ with
  | ⟨m, l, t⟩ => ⟨m, [], flushA m l t⟩
theorem flushA_get {m : Nat} {t : Tr AV} {j : Nat} {v : AV} (hm : bitA m j = true) : ∀ {l : List (Nat × AV)}, (flushA m l t).get j = some v → (match lookA j l with
    | some r => r
    | none => t.get j) = some v
  | [], h => h
  | (d, u) :: l, h => by
    unfold flushA at h
    cases hb : bitA m d with
    | false =>
      rw [hb] at h; simp only at h
      have hne : Nat.beq d j = false := by
        cases hd : Nat.beq d j with
        | false => rfl
        | true => have := Nat.eq_of_beq_eq_true hd; subst this; rw [hm] at hb; cases hb
      simp only [lookA, hne]
      exact flushA_get hm h
    | true =>
      rw [hb] at h; simp only at h
      cases hs : smallK d with
      | false => rw [hs] at h; simp only [Tr.get_nil] at h; cases h
      | true =>
        rw [hs] at h; simp only at h
        rw [Tr.get_put _ j hs] at h
        cases hd : Nat.beq d j with
        | true =>
          have := Nat.eq_of_beq_eq_true hd; subst this
          rw [if_pos rfl] at h
          simp only [lookA, hd]; exact h
        | false =>
          have hne : ¬ j = d := fun e => by subst e; simp at hd
          rw [if_neg hne] at h
          simp only [lookA, hd]
          exact flushA_get hm h
theorem En.flush_get {ρ : En} {j : Nat} {v : AV} (h : ρ.flush.get j = some v) : ρ.get j = some v := by
  obtain ⟨m, l, t⟩ := ρ
  unfold En.get En.flush at h
  simp only [lookA] at h
  cases hm : bitA m j with
  | false => rw [hm] at h; cases h
  | true =>
    rw [hm] at h; simp only at h
    have := flushA_get hm h
    unfold En.get
    simp only [hm]; exact this
def Sem.pr {α : Type} (P : Program) : Sem α → Option α
  | .pure a => some a
  | .program k => Sem.pr P (k P)
  | .mark _ k => Sem.pr P k
  | _ => none
theorem pr_run {α : Type} {P : Program} : ∀ (s : Sem α) (a : α), Sem.pr P s = some a → ∀ w, s.run P w = .ok a w
  | .pure x, a, h, w => by unfold Sem.pr at h; injection h with h; subst h; rfl
  | .program k, a, h, w => by unfold Sem.pr at h; exact pr_run (k P) a h w
  | .mark m k, a, h, w => by unfold Sem.pr at h; exact pr_run k a h w
def en (a : Act) : Env := fun t => a.tmps.getD t undef
theorem act_eval (a : Act) : a.eval = ev (en a) := by funext x; cases x <;> rfl
def za3 (ρ : En) : Operand → Option AV
  | .tmp t => ρ.get t
  | .const v => some (ofV v)
  | .func f => some (.fn f [])
  | .global _ => none
def ERel (φ : Ph) (ρ : Nat → Option AV) (e : Env) (S : Nat → Prop) : Prop := ∀ t v, S t → ρ t = some v → v.c φ = some (e t)
def opS (S : Nat → Prop) : Operand → Prop
  | .tmp t => S t
  | _ => True
section
variable {P : Program} {base : Nat} {w0 : World} {φ : Ph} {ρ : En} {e : Env} {S : Nat → Prop} {w : World}
theorem zal (hρ : ERel φ ρ.get e S) {x : Operand} {v : AV} (hS : opS S x) (h : za3 ρ x = some v) : v.c φ = some (ev e x) := by
  cases x with
  | tmp t => exact hρ t v hS h
  | const y => unfold za3 at h; injection h with h; subst h; exact ofV_c φ y
  | func f => unfold za3 at h; injection h with h; subst h; unfold AV.c AV.cl; rfl
  | global _ => cases h
def evalL (ρ : En) : List Operand → Option (List AV)
  | [] => some []
  | x :: l => match za3 ρ x, evalL ρ l with
    | some a, some avs => some (a :: avs)
    | _, _ => none
theorem evalL_ok (hρ : ERel φ ρ.get e S) : ∀ {l : List Operand} {avs : List AV}, (∀ x ∈ l, opS S x) → evalL ρ l = some avs → AV.cl φ avs = some (l.map (ev e))
  | [], avs, _, h => by unfold evalL at h; injection h with h; subst h; unfold AV.cl; rfl
  | x :: l, avs, hS, h => by
    unfold evalL at h
    split at h
    · rename_i a bs h1 h2
      injection h with h; subst h
      exact AV.cl_mk (zal hρ (hS x (by simp)) h1) (evalL_ok hρ (fun y hy => hS y (by simp [hy])) h2)
    · cases h
def fll : List AV → Option (List Value)
  | [] => some []
  | .v x :: l => (fll l).map fun r => x :: r
  | _ :: _ => none
def AV.fl : AV → Option Value
  | .v x => some x
  | .agg l => (fll l).map fun vs => .agg vs.toArray
  | .tup l => (fll l).map fun vs => .tuple vs.toArray
  | _ => none
theorem fll_c : ∀ {l : List AV} {xs : List Value}, fll l = some xs → AV.cl φ l = some xs
  | [], xs, h => by unfold fll at h; injection h with h; subst h; unfold AV.cl; rfl
  | a :: l, xs, h => by
    cases a <;> unfold fll at h <;> try cases h
    simp only [Option.map_eq_some_iff] at h
    obtain ⟨r, h1, rfl⟩ := h
    exact AV.cl_mk (by unfold AV.c; rfl) (fll_c h1)
theorem fl_c {a : AV} {x : Value} (h : a.fl = some x) : a.c φ = some x := by
  cases a <;> unfold AV.fl at h <;> try cases h
  · unfold AV.c; rfl
  · simp only [Option.map_eq_some_iff] at h
    obtain ⟨vs, h1, rfl⟩ := h
    unfold AV.c; rw [fll_c h1]; rfl
  · simp only [Option.map_eq_some_iff] at h
    obtain ⟨vs, h1, rfl⟩ := h
    unfold AV.c; rw [fll_c h1]; rfl
def peA (ρ : En) (x : Operand) : Value := match za3 ρ x with
  | some a => match a.fl with
    | some v => v
    | none => undef
  | none => undef
def flatB (ρ : En) (x : Operand) : Bool := match za3 ρ x with
  | some a => match a.fl with
    | some _ => true
    | none => false
  | none => false
def noSel : Op → Bool
  | .select _ _ => false
  | _ => true
def pureA (P : Program) (ρ : En) (o : Oper) : Option AV :=
  if noSel o.op && o.op.operands.toList.all (flatB ρ) then match Sem.pr P (execOp (peA ρ) o) with
    | some (.value V) => some (ofV V)
    | _ => none
  else none
theorem pureA_ok (hρ : ERel φ ρ.get e S) {o : Oper} {v : AV} (hS : ∀ x ∈ o.op.operands, opS S x) (h : pureA P ρ o = some v) : ∃ V, (execOp (ev e) o).run P w = .ok (.value V) w ∧ v.c φ = some V := by
  unfold pureA at h
  split at h
  · rename_i hc
    rw [Bool.and_eq_true] at hc
    have hcong : execOp (peA ρ) o = execOp (ev e) o := by
      refine execOp_congr o (fun cs b h => by rw [h] at hc; exact absurd hc.1 (by simp [noSel])) (fun x hx => ?_)
      have h1 := List.all_eq_true.1 hc.2 x (by simpa using hx)
      unfold flatB at h1; unfold peA
      split at h1
      · rename_i a ha
        have h2 := zal hρ (hS x hx) ha
        split at h1
        · rename_i y hy
          have h3 := fl_c (φ := φ) hy
          rw [h2] at h3; injection h3 with h3; exact h3.symm
        · cases h1
      · cases h1
    split at h
    · rename_i V hV
      injection h with h; subst h
      rw [hcong] at hV
      exact ⟨V, pr_run _ _ hV w, ofV_c φ V⟩
    · cases h
  · cases h
def ldA (P : Program) (H : Tr BO) (T : Nat) (a : AV) : Option AV :=
  match a with
  | .ptr b off => match zam P T, H.get b with
    | some (n, _, g, _), some (.cells _ _ l) =>
      if Nat.beq ((l.drop off).take n).length n then (cond g (some (.agg ((l.drop off).take n))) (match (l.drop off).take n with
        | [x] => some x
        | _ => none))
      else none
    | _, _ => none
  | _ => none
theorem c_ptr {b off : Nat} {A : Value} (h : (AV.ptr b off).c φ = some A) : ∃ x cap, φ b = some (x, cap) ∧ A = .pointer (some ⟨x, off, none⟩) := by
  unfold AV.c at h
  simp only [Option.map_eq_some_iff] at h
  obtain ⟨⟨x, cap⟩, h1, rfl⟩ := h
  exact ⟨x, cap, h1, rfl⟩
theorem ldA_ok {H : Tr BO} {T : Nat} {a v : AV} {A : Value} (R : Rel base w0 φ H.get w) (ha : a.c φ = some A) (h : ldA P H T a = some v) :
    ∃ n b' gg z ad seg, zam P T = some (n, b', gg, z) ∧ A = .pointer (some ad) ∧ seg.length = n ∧ (gg = false → n = 1) ∧ CF ad seg w ∧ v.c φ = some (packV gg seg) := by
  unfold ldA at h
  split at h
  · rename_i b off
    split at h
    · rename_i n b' gg z E m l ht hg
      split at h
      · rename_i hn
        have hn' : ((l.drop off).take n).length = n := Nat.eq_of_beq_eq_true hn
        obtain ⟨x, cap, hx, rfl⟩ := c_ptr ha
        obtain ⟨vs, hv, _⟩ := R.cell hg hx
        have hs := AV.cl_take n (AV.cl_drop off hv)
        have hlen := AV.cl_len hs
        refine ⟨n, b', gg, z, _, _, ht, rfl, by rw [hlen, hn'], fun hgg => ?_, R.seg hg hx hs, ?_⟩
        · subst hgg
          simp only [cond_false] at h
          split at h
          · rename_i y hy; rw [hy] at hn'; simpa using hn'.symm
          · cases h
        · cases gg with
          | true =>
            simp only [cond_true, Option.some.injEq] at h
            subst h
            unfold AV.c; rw [hs]; rfl
          | false =>
            simp only [cond_false] at h
            split at h
            · rename_i y hy
              injection h with h; subst h
              rw [hy] at hs
              obtain ⟨u, us, e1, e2, e3⟩ := AV.cl_cons hs
              rw [e1]; exact e2
            · cases h
      · cases h
    · cases h
  · cases h
def noAgg : AV → Bool
  | .v (.agg _) => false
  | _ => true
theorem noAgg_ne {a : AV} (h : noAgg a = true) : ∀ cs, a ≠ .v (.agg cs) := fun cs e => by subst e; cases h
def stA (P : Program) (H : Tr BO) (T : Nat) (a v : AV) : Option (Tr BO) :=
  match a with
  | .ptr b off => match zam P T, H.get b with
    | some (n, _, _, _), some (.cells E m l) =>
      if Nat.beq v.cells.length n && (Nat.ble (off + n) l.length && (v.cells.all AV.one && (noAgg v && smallK b))) then some (H.put b (some (.cells E m (putL l off v.cells)))) else none
    | _, _ => none
  | _ => none
theorem get_put_fun {H : Tr BO} {b : Nat} {o : Option BO} (h : smallK b = true) : (H.put b o).get = gup H.get b o := by
  funext j; rw [Tr.get_put o j h]; rfl
theorem stA_ok {H H' : Tr BO} {T : Nat} {a v : AV} {A V : Value} (R : Rel base w0 φ H.get w) (ha : a.c φ = some A) (hv : v.c φ = some V) (h : stA P H T a v = some H') (c : Nat) :
    ∃ ad w', A = .pointer (some ad) ∧ (storeVar T ad V).run P w = .ok () w' ∧ Tran base w0 φ H.get c w φ H'.get c w' := by
  unfold stA at h
  split at h
  · rename_i b off
    split at h
    · rename_i n b' gg z E m l ht hg
      split at h
      · rename_i hc
        simp only [Bool.and_eq_true] at hc
        obtain ⟨h1, h2, h3, h4, h5⟩ := hc
        obtain ⟨x, cap, hx, rfl⟩ := c_ptr ha
        obtain ⟨xs, e1, e2⟩ := AV.cells_c (noAgg_ne h4) hv
        injection h with h; subst h
        obtain ⟨w', hr, hT⟩ := tran_store R hg hx ht e1 e2 (Nat.eq_of_beq_eq_true h1) (Nat.le_of_ble_eq_true h2) (AV.one_l h3 e1) c
        exact ⟨_, w', rfl, hr, by rw [get_put_fun h5]; exact hT⟩
      · cases h
    · cases h
  · cases h
def nwA (H : Tr BO) (c T : Nat) (v : AV) : Option (Tr BO) :=
  if v.cells.all AV.one && (noAgg v && smallK c) then some (H.put c (some (.cells T v.cells.length v.cells))) else none
theorem nwA_ok {H H' : Tr BO} {c T : Nat} {v : AV} {V : Value} (R : Rel base w0 φ H.get w) (hf : Fre φ c (c + 1)) (hv : v.c φ = some V) (h : nwA H c T v = some H') :
    ∃ φ', (newVar T V).run P w = .ok (⟨w.heap.size, 0, none⟩ : Addr) (w.alloc (.cells V.cells T)) ∧ Tran base w0 φ H.get c w φ' H'.get (c + 1) (w.alloc (.cells V.cells T)) ∧ (AV.ptr c 0).c φ' = some (.pointer (some ⟨w.heap.size, 0, none⟩)) := by
  unfold nwA at h
  split at h
  · rename_i hc
    simp only [Bool.and_eq_true] at hc
    obtain ⟨h3, h4, h5⟩ := hc
    obtain ⟨xs, e1, e2⟩ := AV.cells_c (noAgg_ne h4) hv
    injection h with h; subst h
    have ht := tran_alloc R hf (T := T) (m := v.cells.length) (cap := 1) (arr := xs) e1 (by rw [AV.cl_len e1]; omega) (List.take_of_length_le (Nat.le_refl _)) (Nat.le_refl _) (by simp [maxLen])
    refine ⟨_, ?_, by rw [get_put_fun h5, e2]; exact ht.1, ?_⟩
    · simp only [newVar, newRow, newObj, Sem.run_bind]
      rfl
    · unfold AV.c; rw [ht.2]; rfl
  · cases h
end
end Gx
namespace Gx
open Go Go.RowKit
set_option linter.unusedSimpArgs false
set_option linter.unusedVariables false
section
variable {P : Program} {base : Nat} {w0 : World} {φ : Ph} {ρ : En} {e : Env} {S : Nat → Prop} {w : World}
theorem c_agg {l : List AV} {A : Value} (h : (AV.agg l).c φ = some A) : ∃ vs, AV.cl φ l = some vs ∧ A = .agg vs.toArray := by
  unfold AV.c at h; simp only [Option.map_eq_some_iff] at h
  obtain ⟨vs, h1, rfl⟩ := h; exact ⟨vs, h1, rfl⟩
theorem c_tup {l : List AV} {A : Value} (h : (AV.tup l).c φ = some A) : ∃ vs, AV.cl φ l = some vs ∧ A = .tuple vs.toArray := by
  unfold AV.c at h; simp only [Option.map_eq_some_iff] at h
  obtain ⟨vs, h1, rfl⟩ := h; exact ⟨vs, h1, rfl⟩
theorem c_fn {f : Nat} {l : List AV} {A : Value} (h : (AV.fn f l).c φ = some A) : ∃ vs, AV.cl φ l = some vs ∧ A = .func (.func f) #[] vs.toArray := by
  unfold AV.c at h; simp only [Option.map_eq_some_iff] at h
  obtain ⟨vs, h1, rfl⟩ := h; exact ⟨vs, h1, rfl⟩
theorem c_sl {b oc oe len : Nat} {A : Value} (h : (AV.sl b oc oe len).c φ = some A) : ∃ x cap, φ b = some (x, cap) ∧ A = .slice (some ⟨x, oc, none⟩) len (cap - oe) := by
  unfold AV.c at h; simp only [Option.map_eq_some_iff] at h
  obtain ⟨⟨x, cap⟩, h1, rfl⟩ := h; exact ⟨x, cap, h1, rfl⟩
theorem c_slx {b oc len cp : Nat} {A : Value} (h : (AV.slx b oc len cp).c φ = some A) : ∃ x cap, φ b = some (x, cap) ∧ A = .slice (some ⟨x, oc, none⟩) len cp := by
  unfold AV.c at h; simp only [Option.map_eq_some_iff] at h
  obtain ⟨⟨x, cap⟩, h1, rfl⟩ := h; exact ⟨x, cap, h1, rfl⟩
theorem c_v {x A : Value} (h : (AV.v x).c φ = some A) : A = x := by unfold AV.c at h; injection h with h; exact h.symm
def exA (a : AV) (i : Nat) : Option AV := match a with
  | .tup l => l[i]?
  | _ => none
theorem exA_ok {a v : AV} {A : Value} {i : Nat} (ha : a.c φ = some A) (h : exA a i = some v) : ∃ (vs : List Value) (V : Value), A = .tuple vs.toArray ∧ vs[i]? = some V ∧ v.c φ = some V := by
  unfold exA at h; split at h
  · obtain ⟨vs, h1, rfl⟩ := c_tup ha
    obtain ⟨V, h2, h3⟩ := AV.cl_get h1 h
    exact ⟨vs, V, rfl, h2, h3⟩
  · cases h
def fdA (P : Program) (T q : Nat) (a : AV) : Option AV := match a with
  | .agg l => match za2 P T q with
    | some (o, ft) => match zam P ft with
      | some (n, _, g, _) => if Nat.beq ((l.drop o).take n).length n then (cond g (some (.agg ((l.drop o).take n))) (match (l.drop o).take n with
        | [x] => some x
        | _ => none)) else none
      | none => none
    | none => none
  | _ => none
theorem fdA_ok {a v : AV} {A : Value} {T q : Nat} (ha : a.c φ = some A) (h : fdA P T q a = some v) :
    ∃ o ft n b' gg z cs V, za2 P T q = some (o, ft) ∧ zam P ft = some (n, b', gg, z) ∧ A = .agg (List.toArray cs) ∧ ((cs.drop o).take n).length = n ∧ (gg = false → n = 1) ∧ packV gg ((cs.drop o).take n) = V ∧ v.c φ = some V := by
  unfold fdA at h
  split at h
  · rename_i l
    split at h
    · rename_i o ft hf
      split at h
      · rename_i n b' gg z ht
        split at h
        · rename_i hn
          have hn' : ((l.drop o).take n).length = n := Nat.eq_of_beq_eq_true hn
          obtain ⟨vs, hv, rfl⟩ := c_agg ha
          have hs := AV.cl_take n (AV.cl_drop o hv)
          have hlen := AV.cl_len hs
          refine ⟨o, ft, n, b', gg, z, vs, _, hf, ht, rfl, by rw [hlen, hn'], fun hgg => ?_, rfl, ?_⟩
          · subst hgg
            simp only [cond_false] at h
            split at h
            · rename_i y hy; rw [hy] at hn'; simpa using hn'.symm
            · cases h
          · cases gg with
            | true =>
              simp only [cond_true, Option.some.injEq] at h
              subst h
              unfold AV.c; rw [hs]; rfl
            | false =>
              simp only [cond_false] at h
              split at h
              · rename_i y hy
                injection h with h; subst h
                rw [hy] at hs
                obtain ⟨u, us, e1, e2, e3⟩ := AV.cl_cons hs
                rw [e1]; exact e2
              · cases h
        · cases h
      · cases h
    · cases h
  · cases h
def faA (P : Program) (T q : Nat) (a : AV) : Option AV := match a with
  | .ptr b off => match za2 P T q with
    | some (o, ft) => match zam P ft with
      | some (n, _, _, _) => if Nat.blt 0 n then some (.ptr b (off + o)) else none
      | none => none
    | none => none
  | _ => none
theorem faA_ok {a v : AV} {A : Value} {T q : Nat} (ha : a.c φ = some A) (h : faA P T q a = some v) :
    ∃ o ft n b' gg z x off, za2 P T q = some (o, ft) ∧ zam P ft = some (n, b', gg, z) ∧ Nat.blt 0 n = true ∧ A = .pointer (some ⟨x, off, none⟩) ∧ v.c φ = some (.pointer (some ⟨x, off + o, none⟩)) := by
  unfold faA at h
  split at h
  · split at h
    · rename_i o ft hf
      split at h
      · rename_i n b' gg z ht
        split at h
        · rename_i hn
          obtain ⟨x, cap, hx, rfl⟩ := c_ptr ha
          injection h with h; subst h
          exact ⟨o, ft, n, b', gg, z, x, _, hf, ht, hn, rfl, by unfold AV.c; rw [hx]; rfl⟩
        · cases h
      · cases h
    · cases h
  · cases h
def posB : Int → Bool
  | .ofNat _ => true
  | .negSucc _ => false
theorem posB_ok {q : Int} (h : posB q = true) : 0 ≤ q := by cases q <;> first | exact Int.natCast_nonneg _ | cases h
def inB (q : Int) (len : Nat) : Bool := posB q && Nat.blt q.toNat len
theorem inB_ok {q : Int} {len : Nat} (h : inB q len = true) : 0 ≤ q ∧ q < (len : Int) := by
  unfold inB at h; rw [Bool.and_eq_true] at h
  have h0 := posB_ok h.1
  have h1 : q.toNat < len := by simpa [Nat.blt_eq] using h.2
  exact ⟨h0, by omega⟩
def iaA (P : Program) (T : Nat) (a i : AV) : Option AV := match i with
  | .v (.int _ q) => match P.underlying T with
    | some (.slice E) => match zam P E with
      | some (n, _, _, _) => match a with
        | .sl b oc _ len => if inB q len then some (.ptr b (oc + q.toNat * n)) else none
        | .slx b oc len _ => if inB q len then some (.ptr b (oc + q.toNat * n)) else none
        | _ => none
      | none => none
    | some (.array len E) => match zam P E with
      | some (n, _, _, _) => match a with
        | .ptr b off => if inB q len then some (.ptr b (off + q.toNat * n)) else none
        | _ => none
      | none => none
    | _ => none
  | _ => none
theorem iaA_ok {a i v : AV} {A I : Value} {T : Nat} {x y : Operand} (ha : a.c φ = some A) (hi : i.c φ = some I) (hx : ev e x = A) (hy : ev e y = I) (h : iaA P T a i = some v) {d : Option Tmp} {ty : TypeId} {pos : String} {af : Array Edge} {gd : Option (Nat × Bool)} :
    ∃ V, (execOp (ev e) ⟨d, .indexAddr T x y, ty, pos, af, gd⟩).run P w = .ok (.value V) w ∧ v.c φ = some V := by
  unfold iaA at h
  split at h
  · rename_i kk q
    have hI := c_v hi; subst hI
    split at h
    · rename_i E hT
      split at h
      · rename_i n b' gg z ht
        split at h
        · rename_i b oc oe len
          split at h
          · rename_i hq
            obtain ⟨h0, h1⟩ := inB_ok hq
            obtain ⟨X, cap, hX, rfl⟩ := c_sl ha
            injection h with h; subst h
            refine ⟨_, x_indexAddr_slice hT ht hx hy h0 h1, ?_⟩
            unfold AV.c; rw [hX]
            unfold Addr.add; split <;> simp_all
          · cases h
        · rename_i b oc len cp
          split at h
          · rename_i hq
            obtain ⟨h0, h1⟩ := inB_ok hq
            obtain ⟨X, cap, hX, rfl⟩ := c_slx ha
            injection h with h; subst h
            refine ⟨_, x_indexAddr_slice hT ht hx hy h0 h1, ?_⟩
            unfold AV.c; rw [hX]
            unfold Addr.add; split <;> simp_all
          · cases h
        · cases h
      · cases h
    · rename_i len E hT
      split at h
      · rename_i n b' gg z ht
        split at h
        · rename_i b off
          split at h
          · rename_i hq
            obtain ⟨h0, h1⟩ := inB_ok hq
            obtain ⟨X, cap, hX, rfl⟩ := c_ptr ha
            injection h with h; subst h
            refine ⟨_, x_indexAddr_arr hT ht hx hy h0 h1, ?_⟩
            unfold AV.c; rw [hX]; rfl
          · cases h
        · cases h
      · cases h
    · cases h
  · cases h
def lnA (P : Program) (T : Nat) (a : AV) : Option AV := match P.underlying T with
  | some (.slice _) => match a with
    | .sl _ _ _ len => some (.v (.int .i64 len))
    | .slx _ _ len _ => some (.v (.int .i64 len))
    | _ => none
  | _ => none
theorem lnA_ok {a v : AV} {A : Value} {T : Nat} {x : Operand} (ha : a.c φ = some A) (hx : ev e x = A) (h : lnA P T a = some v) {d : Option Tmp} {ty : TypeId} {pos : String} {af : Array Edge} {gd : Option (Nat × Bool)} :
    ∃ V, (execOp (ev e) ⟨d, .call ⟨.builtin .len, #[x], #[T]⟩, ty, pos, af, gd⟩).run P w = .ok (.value V) w ∧ v.c φ = some V := by
  unfold lnA at h
  split at h
  · rename_i E hT
    split at h
    · obtain ⟨X, cap, hX, rfl⟩ := c_sl ha
      injection h with h; subst h
      exact ⟨_, x_len_slice hT hx, by unfold AV.c; rfl⟩
    · obtain ⟨X, cap, hX, rfl⟩ := c_slx ha
      injection h with h; subst h
      exact ⟨_, x_len_slice hT hx, by unfold AV.c; rfl⟩
    · cases h
  · cases h
def nlA (P : Program) (op : BinOp) (T : Nat) (a b : AV) : Option AV :=
  match op, b, P.underlying T with
  | .eql, .v (.slice none 0 0), some (.slice _) => match a with
    | .sl _ _ _ _ => some (.v (.bool false))
    | .slx _ _ _ _ => some (.v (.bool false))
    | _ => none
  | .neq, .v (.slice none 0 0), some (.slice _) => match a with
    | .sl _ _ _ _ => some (.v (.bool true))
    | .slx _ _ _ _ => some (.v (.bool true))
    | _ => none
  | .eql, .v (.pointer none), some (.pointer _) => match a with
    | .ptr _ _ => some (.v (.bool false))
    | _ => none
  | .neq, .v (.pointer none), some (.pointer _) => match a with
    | .ptr _ _ => some (.v (.bool true))
    | _ => none
  | _, _, _ => none
theorem nlA_ok {a b v : AV} {A B : Value} {T t2 : Nat} {op : BinOp} {x y : Operand} (ha : a.c φ = some A) (hb : b.c φ = some B) (hx : ev e x = A) (hy : ev e y = B) (h : nlA P op T a b = some v) {d : Option Tmp} {ty : TypeId} {pos : String} {af : Array Edge} {gd : Option (Nat × Bool)} :
    ∃ V, (execOp (ev e) ⟨d, .binOp op T x y t2, ty, pos, af, gd⟩).run P w = .ok (.value V) w ∧ v.c φ = some V := by
  unfold nlA at h
  split at h
  · rename_i E hT
    have hB := c_v hb; subst hB
    split at h
    · obtain ⟨X, cap, hX, rfl⟩ := c_sl ha
      injection h with h; subst h
      exact ⟨_, x_eql_nil hT hx hy, by unfold AV.c; rfl⟩
    · obtain ⟨X, cap, hX, rfl⟩ := c_slx ha
      injection h with h; subst h
      exact ⟨_, x_eql_nil hT hx hy, by unfold AV.c; rfl⟩
    · cases h
  · rename_i E hT
    have hB := c_v hb; subst hB
    split at h
    · obtain ⟨X, cap, hX, rfl⟩ := c_sl ha
      injection h with h; subst h
      exact ⟨_, x_neq_nil hT hx hy, by unfold AV.c; rfl⟩
    · obtain ⟨X, cap, hX, rfl⟩ := c_slx ha
      injection h with h; subst h
      exact ⟨_, x_neq_nil hT hx hy, by unfold AV.c; rfl⟩
    · cases h
  · rename_i E hT
    have hB := c_v hb; subst hB
    split at h
    · obtain ⟨X, cap, hX, rfl⟩ := c_ptr ha
      injection h with h; subst h
      exact ⟨_, x_eql_ptr hT hx hy, by unfold AV.c; rfl⟩
    · cases h
  · rename_i E hT
    have hB := c_v hb; subst hB
    split at h
    · obtain ⟨X, cap, hX, rfl⟩ := c_ptr ha
      injection h with h; subst h
      exact ⟨_, x_neq_ptr hT hx hy, by unfold AV.c; rfl⟩
    · cases h
  · cases h
def ncA (a : AV) : Option AV := match a with
  | .ptr b o => some (.ptr b o)
  | .fn f l => some (.fn f l)
  | _ => none
theorem ncA_ok {a v : AV} {A : Value} {x : Operand} (ha : a.c φ = some A) (hx : ev e x = A) (h : ncA a = some v) {d : Option Tmp} {ty : TypeId} {pos : String} {af : Array Edge} {gd : Option (Nat × Bool)} :
    ∃ V, (execOp (ev e) ⟨d, .nilCheck x, ty, pos, af, gd⟩).run P w = .ok (.value V) w ∧ v.c φ = some V := by
  unfold ncA at h
  split at h
  · injection h with h; subst h
    have ha' := ha
    obtain ⟨X, cap, hX, rfl⟩ := c_ptr ha
    exact ⟨_, x_nilCheck hx, ha'⟩
  · injection h with h; subst h
    have ha' := ha
    obtain ⟨vs, hX, rfl⟩ := c_fn ha
    exact ⟨_, by simp only [execOp, hx]; rfl, ha'⟩
  · cases h
def bndA : Option AV → Option (Option Int)
  | none => some none
  | some (.v (.int _ q)) => some (some q)
  | _ => none
theorem bndA_ok {o : Option AV} {r : Option Int} {O : Option Value} (ho : ∀ a, o = some a → ∃ V, O = some V ∧ a.c φ = some V) (hn : o = none → O = none) (h : bndA o = some r) :
    (r = none ∧ O = none) ∨ ∃ k q, r = some q ∧ O = some (.int k q) := by
  unfold bndA at h
  split at h
  · injection h with h; subst h; exact .inl ⟨rfl, hn rfl⟩
  · rename_i k q
    injection h with h; subst h
    obtain ⟨V, h1, h2⟩ := ho _ rfl
    have := c_v h2; subst this
    exact .inr ⟨k, q, rfl, h1⟩
  · cases h
theorem run_cut {T E : Nat} {n b' : Nat} {gg : Bool} {z : Option Value} {A : Option Addr} {len cap l h : Nat} {lo hi : Option Value} (hT : P.underlying T = some (.slice E)) (ht : zam P E = some (n, b', gg, z))
    (hl : (lo = none ∧ l = 0) ∨ ∃ k, lo = some (.int k (l : Int))) (hh : (hi = none ∧ h = len) ∨ ∃ k, hi = some (.int k (h : Int))) (h1 : l ≤ h) (h2 : h ≤ cap) :
    (Instr.sliceAt T (.slice A len cap) lo hi none).run P w = .ok (.slice (if cap = l then A else A.map (·.add (l * n))) (h - l) (cap - l)) w := by
  obtain ⟨ii, d2, hii, hd2, hsz, _, _, _⟩ := zaj ht
  have i1 : (0 : Int) ≤ (l : Int) := by omega
  have i2 : (0 : Int) ≤ (h : Int) := by omega
  have i3 : (l : Int) ≤ (h : Int) := by omega
  have i4 : (h : Int) ≤ (cap : Int) := by omega
  have n1 : ¬ h < l := by omega
  have n2 : ¬ cap < h := by omega
  rcases hl with ⟨rfl, rfl⟩ | ⟨k, rfl⟩ <;> rcases hh with ⟨rfl, rfl⟩ | ⟨k', rfl⟩ <;>
    simp [Instr.sliceAt, run_underlying hT, Instr.slice, Instr.sliceBounds, Instr.sliceBound, asIntOf, i1, i2, i3, i4, n1, n2, h1, h2, za5 hii, hsz, go_sem]
theorem run_cut3 {T E : Nat} {n b' : Nat} {gg : Bool} {z : Option Value} {A : Option Addr} {len cap l h m : Nat} {lo : Option Value} {k2 k3 : IntKind} (hT : P.underlying T = some (.slice E)) (ht : zam P E = some (n, b', gg, z))
    (hl : (lo = none ∧ l = 0) ∨ ∃ k, lo = some (.int k (l : Int))) (h1 : l ≤ h) (h2 : h ≤ m) (h3 : m ≤ cap) :
    (Instr.sliceAt T (.slice A len cap) lo (some (.int k2 (h : Int))) (some (.int k3 (m : Int)))).run P w = .ok (.slice (if m = l then A else A.map (·.add (l * n))) (h - l) (m - l)) w := by
  obtain ⟨ii, d2, hii, hd2, hsz, _, _, _⟩ := zaj ht
  have i1 : (0 : Int) ≤ (l : Int) := by omega
  have i2 : (0 : Int) ≤ (h : Int) := by omega
  have i3 : (l : Int) ≤ (h : Int) := by omega
  have i4 : (h : Int) ≤ (m : Int) := by omega
  have i5 : (m : Int) ≤ (cap : Int) := by omega
  have i6 : (0 : Int) ≤ (m : Int) := by omega
  have n1 : ¬ h < l := by omega
  have n2 : ¬ m < h := by omega
  have n3 : ¬ cap < m := by omega
  rcases hl with ⟨rfl, rfl⟩ | ⟨k, rfl⟩ <;>
    simp [Instr.sliceAt, run_underlying hT, Instr.slice, Instr.sliceBounds, Instr.sliceBound, asIntOf, i1, i2, i3, i4, i5, i6, n1, n2, n3, h1, h2, h3, za5 hii, hsz, go_sem]
end
end Gx
namespace Gx
open Go Go.RowKit
set_option linter.unusedSimpArgs false
set_option linter.unusedVariables false
section
variable {P : Program} {base : Nat} {w0 : World} {φ : Ph} {ρ : En} {e : Env} {S : Nat → Prop} {w : World}
def oN (o : Option Int) (d : Nat) : Option Nat := match o with
  | none => some d
  | some (.ofNat q) => some q
  | some (.negSucc _) => none
theorem oN_ok {o : Option Int} {d l : Nat} (h : oN o d = some l) : (o = none ∧ l = d) ∨ o = some (l : Int) := by
  unfold oN at h; split at h
  · injection h with h; exact .inl ⟨rfl, h.symm⟩
  · injection h with h; subst h; exact .inr rfl
  · cases h
def cutA (P : Program) (H : Tr BO) (T : Nat) (a : AV) (lo hi mx : Option Int) : Option AV :=
  match P.underlying T with
  | some (.slice E) => match zam P E with
    | some (n, _, _, _) => match a with
      | .sl b oc oe len => match oN lo 0, oN hi len, mx with
        | some l, some h, none =>
          if Nat.ble l h && Nat.ble h len then
            if Nat.beq l 0 then some (.sl b oc oe h) else match H.get b with
              | some (.cells _ m cs) => if Nat.beq m n && Nat.blt ((oe + l) * n) cs.length then some (.sl b (oc + l * n) (oe + l) (h - l)) else none
              | none => none
          else none
        | some l, some h, some (.ofNat m) =>
          if Nat.ble l h && (Nat.ble h m && (Nat.ble m len && hi.isSome)) then some (.slx b (cond (Nat.beq m l) oc (oc + l * n)) (h - l) (m - l)) else none
        | _, _, _ => none
      | .slx b oc len cap => match oN lo 0, oN hi len, mx with
        | some l, some h, none => if Nat.ble l h && Nat.ble h cap then some (.slx b (cond (Nat.beq cap l) oc (oc + l * n)) (h - l) (cap - l)) else none
        | _, _, _ => none
      | _ => none
    | none => none
  | _ => none
theorem add_at (x oc n : Nat) : (⟨x, oc, none⟩ : Addr).add n = ⟨x, oc + n, none⟩ := by unfold Addr.add; split <;> simp_all
theorem Rel.sl_cap {H : HF} (R : Rel base w0 φ H w) {b x cap T m : Nat} {cs : List AV} (hb : H b = some (.cells T m cs)) (hx : φ b = some (x, cap)) : cs.length ≤ cap * m ∧ cap ≤ maxLen := by
  obtain ⟨y, cp, h1, hc, arr, vs, h2, h3, h4, h5, h6⟩ := R.obj b _ hb
  rw [hx] at h1; injection h1 with h1; injection h1 with h1 h1c; subst h1; subst h1c
  have := AV.cl_len h4
  exact ⟨by omega, hc⟩
theorem cutA_ok {H : Tr BO} (R : Rel base w0 φ H.get w) {T : Nat} {a v : AV} {A : Value} {lo hi mx : Option Int} {LO HI MX : Option Value} (ha : a.c φ = some A) (hcap : ∀ b oc oe len x cap, a = .sl b oc oe len → φ b = some (x, cap) → len + oe ≤ cap)
    (hlo : (lo = none ∧ LO = none) ∨ ∃ k q, lo = some q ∧ LO = some (.int k q)) (hhi : (hi = none ∧ HI = none) ∨ ∃ k q, hi = some q ∧ HI = some (.int k q)) (hmx : (mx = none ∧ MX = none) ∨ ∃ k q, mx = some q ∧ MX = some (.int k q))
    (h : cutA P H T a lo hi mx = some v) : ∃ V, (Instr.sliceAt T A LO HI MX).run P w = .ok V w ∧ v.c φ = some V := by
  have hL : ∀ {l : Nat}, oN lo 0 = some l → (LO = none ∧ l = 0) ∨ ∃ k, LO = some (.int k (l : Int)) := fun {l} hl => by
    rcases oN_ok hl with ⟨h1, h2⟩ | h1
    · rcases hlo with ⟨_, h3⟩ | ⟨k, q, h3, h4⟩
      · exact .inl ⟨h3, h2⟩
      · rw [h1] at h3; cases h3
    · rcases hlo with ⟨h3, _⟩ | ⟨k, q, h3, h4⟩
      · rw [h1] at h3; cases h3
      · rw [h1] at h3; injection h3 with h3; subst h3; exact .inr ⟨k, h4⟩
  have hH : ∀ {l d : Nat}, oN hi d = some l → (HI = none ∧ l = d) ∨ ∃ k, HI = some (.int k (l : Int)) := fun {l d} hl => by
    rcases oN_ok hl with ⟨h1, h2⟩ | h1
    · rcases hhi with ⟨_, h3⟩ | ⟨k, q, h3, h4⟩
      · exact .inl ⟨h3, h2⟩
      · rw [h1] at h3; cases h3
    · rcases hhi with ⟨h3, _⟩ | ⟨k, q, h3, h4⟩
      · rw [h1] at h3; cases h3
      · rw [h1] at h3; injection h3 with h3; subst h3; exact .inr ⟨k, h4⟩
  unfold cutA at h
  split at h
  · rename_i E hT
    split at h
    · rename_i n b' gg z ht
      split at h
      · rename_i b oc oe len
        obtain ⟨X, cap, hX, rfl⟩ := c_sl ha
        have hcp := hcap b oc oe len X cap rfl hX
        split at h
        · rename_i l hh hl hhh
          rcases hmx with ⟨_, rfl⟩ | ⟨k, q, h3, _⟩
          case inr => cases h3
          split at h
          · rename_i hc
            rw [Bool.and_eq_true] at hc
            have h1 := Nat.le_of_ble_eq_true hc.1
            have h2 := Nat.le_of_ble_eq_true hc.2
            have hr := run_cut (w := w) (A := some ⟨X, oc, none⟩) (cap := cap - oe) hT ht (hL hl) (hH hhh) h1 (by omega)
            split at h
            · rename_i h0
              have h0' := Nat.eq_of_beq_eq_true h0
              injection h with h; subst h
              refine ⟨_, hr, ?_⟩
              subst h0'
              unfold AV.c; rw [hX]
              simp [add_at]
            · split at h
              · rename_i TT m cs hg
                split at h
                · rename_i hc2
                  rw [Bool.and_eq_true] at hc2
                  have e1 := Nat.eq_of_beq_eq_true hc2.1
                  have e2 : (oe + l) * n < cs.length := by simpa [Nat.blt_eq] using hc2.2
                  injection h with h; subst h
                  refine ⟨_, hr, ?_⟩
                  obtain ⟨h5, _⟩ := R.sl_cap hg hX
                  have hne : ¬ cap - oe = l := fun e => by
                    have : (oe + l) * n < cap * n := Nat.lt_of_lt_of_le e2 (by rw [← e1]; exact h5)
                    have := Nat.lt_of_mul_lt_mul_right this
                    omega
                  unfold AV.c; rw [hX, if_neg hne]
                  simp only [Option.map_some, add_at]
                  rw [show cap - oe - l = cap - (oe + l) by omega]
                · cases h
              · cases h
          · cases h
        · rename_i l hh m hl hhh
          split at h
          · rename_i hc
            simp only [Bool.and_eq_true] at hc
            have h1 := Nat.le_of_ble_eq_true hc.1
            have h2 := Nat.le_of_ble_eq_true hc.2.1
            have h3 := Nat.le_of_ble_eq_true hc.2.2.1
            rcases hmx with ⟨h4, _⟩ | ⟨k3, q, h4, rfl⟩
            · cases h4
            injection h4 with h4; subst h4
            rcases hH hhh with ⟨e1, e2⟩ | ⟨k2, rfl⟩
            · rcases hhi with ⟨e3, _⟩ | ⟨_, _, e3, e4⟩
              · rw [e3] at hc; simp at hc
              · rw [e1] at e4; cases e4
            have hr := run_cut3 (w := w) (A := some ⟨X, oc, none⟩) (len := len) (cap := cap - oe) (k2 := k2) (k3 := k3) hT ht (hL hl) h1 h2 (by omega)
            injection h with h; subst h
            refine ⟨_, hr, ?_⟩
            unfold AV.c; rw [hX]
            cases hb : Nat.beq m l with
            | true => have := Nat.eq_of_beq_eq_true hb; subst this; simp
            | false =>
              have hne : ¬ m = l := fun e => by subst e; simp at hb
              simp [hne, add_at]
          · cases h
        · cases h
      · rename_i b oc len cp
        obtain ⟨X, cap, hX, rfl⟩ := c_slx ha
        split at h
        · rename_i l hh hl hhh
          rcases hmx with ⟨_, rfl⟩ | ⟨k, q, h3, _⟩
          case inr => cases h3
          split at h
          · rename_i hc
            rw [Bool.and_eq_true] at hc
            have h1 := Nat.le_of_ble_eq_true hc.1
            have h2 := Nat.le_of_ble_eq_true hc.2
            have hr := run_cut (w := w) (A := some ⟨X, oc, none⟩) (cap := cp) hT ht (hL hl) (hH hhh) h1 h2
            injection h with h; subst h
            refine ⟨_, hr, ?_⟩
            unfold AV.c; rw [hX]
            cases hb : Nat.beq cp l with
            | true => have := Nat.eq_of_beq_eq_true hb; subst this; simp
            | false =>
              have hne : ¬ cp = l := fun e => by subst e; simp at hb
              simp [hne, add_at]
          · cases h
        · cases h
      · cases h
    · cases h
  · cases h
end
end Gx
namespace Gx
open Go Go.RowKit
set_option linter.unusedSimpArgs false
set_option linter.unusedVariables false
section
variable {P : Program} {base : Nat} {w0 : World} {φ : Ph} {ρ : En} {e : Env} {S : Nat → Prop} {w : World}
def liveB (H : Tr BO) (a : AV) : Bool := match a with
  | .sl b _ oe len => match H.get b with
    | some (.cells _ m cs) => Nat.blt 0 m && Nat.ble ((oe + len) * m) cs.length
    | none => false
  | _ => true
theorem liveB_ok {H : Tr BO} (R : Rel base w0 φ H.get w) {a : AV} (h : liveB H a = true) : ∀ b oc oe len x cap, a = .sl b oc oe len → φ b = some (x, cap) → len + oe ≤ cap := by
  intro b oc oe len x cap ha hx
  subst ha
  unfold liveB at h
  simp only at h
  split at h
  · rename_i T m cs hg
    rw [Bool.and_eq_true] at h
    have h1 : 0 < m := by simpa [Nat.blt_eq] using h.1
    have h2 := Nat.le_of_ble_eq_true h.2
    obtain ⟨h3, _⟩ := R.sl_cap hg hx
    have := Nat.le_of_mul_le_mul_right (Nat.le_trans h2 h3) h1
    omega
  · cases h
def fillA (place : Nat → Option (Nat × Nat)) : List (Nat × AV) → List AV → Option (List AV)
  | [], cells => some cells
  | (i, v) :: r, cells => match place i with
    | none => none
    | some (off, size) => if Nat.beq v.cells.length size && (Nat.ble (off + size) cells.length && noAgg v) then fillA place r (putL cells off v.cells) else none
def PV (φ : Ph) : List (Nat × AV) → List (Nat × Value) → Prop
  | [], ps => ps = []
  | (i, a) :: r, ps => ∃ V rs, ps = (i, V) :: rs ∧ a.c φ = some V ∧ PV φ r rs
theorem fillA_ok {place : Nat → Option (Nat × Nat)} : ∀ {ps : List (Nat × AV)} {cells out : List AV} {cs : List Value} {pv : List (Nat × Value)}, fillA place ps cells = some out → AV.cl φ cells = some cs → PV φ ps pv →
    ∃ os, AV.cl φ out = some os ∧ Instr.fill place cs.toArray pv = some os.toArray
  | [], cells, out, cs, pv, h, hc, hp => by
    unfold fillA at h; injection h with h; subst h
    unfold PV at hp; subst hp
    exact ⟨cs, hc, rfl⟩
  | (i, v) :: r, cells, out, cs, pv, h, hc, hp => by
    unfold fillA at h
    obtain ⟨V, rs, rfl, hV, hr⟩ := hp
    split at h
    · cases h
    · rename_i off size hpl
      split at h
      · rename_i hcond
        simp only [Bool.and_eq_true] at hcond
        have h1 := Nat.eq_of_beq_eq_true hcond.1
        have h2 := Nat.le_of_ble_eq_true hcond.2.1
        obtain ⟨xs, e1, e2⟩ := AV.cells_c (noAgg_ne hcond.2.2) hV
        have hl1 := AV.cl_len e1
        have hl2 := AV.cl_len hc
        have hput : AV.cl φ (putL cells off v.cells) = some (lput cs off xs) := by
          rw [lput_eq xs cs off (by omega)]
          unfold putL
          rw [List.append_assoc, hl1]
          exact AV.cl_app (AV.cl_take off hc) (AV.cl_app e1 (AV.cl_drop _ hc))
        obtain ⟨os, e3, e4⟩ := fillA_ok h hput hr
        exact ⟨os, e3, fill_any hpl e2 (by omega) (by simp [Nat.ble_eq]; omega) (by simpa using e4)⟩
      · cases h
def evalPs (ρ : En) : List (Nat × Operand) → Option (List (Nat × AV))
  | [] => some []
  | (i, x) :: l => match za3 ρ x, evalPs ρ l with
    | some a, some r => some ((i, a) :: r)
    | _, _ => none
theorem evalPs_ok (hρ : ERel φ ρ.get e S) : ∀ {l : List (Nat × Operand)} {r : List (Nat × AV)}, (∀ p ∈ l, opS S p.2) → evalPs ρ l = some r → PV φ r (l.map fun p => (p.1, ev e p.2))
  | [], r, _, h => by unfold evalPs at h; injection h with h; subst h; unfold PV; rfl
  | (i, x) :: l, r, hS, h => by
    unfold evalPs at h
    split at h
    · rename_i a r' h1 h2
      injection h with h; subst h
      exact ⟨_, _, rfl, zal hρ (hS (i, x) (by simp)) h1, evalPs_ok hρ (fun p hp => hS p (by simp [hp])) h2⟩
    · cases h
def buA (P : Program) (T : Nat) (ps : List (Nat × AV)) : Option AV :=
  match zam P T with
  | some (n, _, _, some zv) => match P.underlying T with
    | some (.struct _) => match placesInfo P T with
      | some pl => (fillA (fun i => pl[i]?) ps (zv.cells.toList.map .v)).map .agg
      | none => none
    | some (.array k E) => match zam P E with
      | some (m, _, _, _) => if Nat.beq n (k * m) then (fillA (fun i => some (i * m, m)) ps (zv.cells.toList.map .v)).map .agg else none
      | none => none
    | _ => none
  | _ => none
theorem buA_ok {T : Nat} {ps : List (Nat × AV)} {pv : List (Nat × Value)} {v : AV} (hp : PV φ ps pv) (h : buA P T ps = some v) : ∃ V, (Instr.build T pv.toArray).run P w = .ok V w ∧ v.c φ = some V := by
  unfold buA at h
  split at h
  · rename_i n b' gg zv ht
    split at h
    · rename_i fs hT
      split at h
      · rename_i pl hpl
        simp only [Option.map_eq_some_iff] at h
        obtain ⟨out, h1, rfl⟩ := h
        obtain ⟨os, e1, e2⟩ := fillA_ok h1 (AV.cl_v φ zv.cells.toList) hp
        have hpe : (fun i : Nat => (pl[i]? : Option (Nat × Nat))) = fun i : Nat => pl.toArray[i]? := by funext i; simp
        rw [hpe] at e2
        refine ⟨_, run_build_struct hpl ht rfl (by simpa using e2), ?_⟩
        unfold AV.c; rw [e1]; rfl
      · cases h
    · rename_i k E hT
      split at h
      · rename_i m b2 g2 z2 hE
        split at h
        · rename_i hn
          have hn' := Nat.eq_of_beq_eq_true hn
          subst hn'
          simp only [Option.map_eq_some_iff] at h
          obtain ⟨out, h1, rfl⟩ := h
          obtain ⟨os, e1, e2⟩ := fillA_ok h1 (AV.cl_v φ zv.cells.toList) hp
          refine ⟨_, run_build_array hT hE ht (by simpa using e2), ?_⟩
          unfold AV.c; rw [e1]; rfl
        · cases h
      · cases h
    · cases h
  · cases h
def zerosL (z : List Value) : Nat → List AV
  | 0 => []
  | n + 1 => z.map .v ++ zerosL z n
theorem made_succ (z : List Value) (n : Nat) (h : 0 < z.length) : (madeCells z.toArray ((n + 1) * z.length)).toList = z ++ (madeCells z.toArray (n * z.length)).toList := by
  apply List.ext_getElem?
  intro i
  by_cases hi : i < (n + 1) * z.length
  · simp only [madeCells, Array.toList_map, Array.toList_range, List.getElem?_map, List.getElem?_range hi, Option.map_some, List.size_toArray]
    by_cases h1 : i < z.length
    · rw [List.getElem?_append_left h1, Nat.mod_eq_of_lt h1]
      simp [h1]
    · rw [List.getElem?_append_right (by omega), List.getElem?_map, List.getElem?_range (by rw [Nat.succ_mul] at hi; omega)]
      simp only [Option.map_some]
      rw [show i % z.length = (i - z.length) % z.length by rw [← Nat.mod_eq_sub_mod (by omega)]]
  · rw [List.getElem?_eq_none (by simp [madeCells]; omega), List.getElem?_eq_none (by simp [madeCells]; rw [Nat.succ_mul] at hi; omega)]
theorem zerosL_c (z : List Value) (h : 0 < z.length) : ∀ (n : Nat), AV.cl φ (zerosL z n) = some (madeCells z.toArray (n * z.length)).toList
  | 0 => by unfold zerosL AV.cl; simp [madeCells]
  | n + 1 => by
    unfold zerosL
    rw [made_succ z n h]
    exact AV.cl_app (AV.cl_v φ z) (zerosL_c z h n)
def bsA (P : Program) (H : Tr BO) (c T len : Nat) (ps : List (Nat × AV)) : Option (AV × Tr BO) :=
  match P.underlying T with
  | some (.slice E) => match zam P E with
    | some (m, _, _, some zv) =>
      if Nat.beq zv.cells.toList.length m && (Nat.blt 0 m && (Nat.ble (len * m) 100000 && smallK c)) then match fillA (fun i => some (i * m, m)) ps (zerosL zv.cells.toList len) with
        | some out => if out.all AV.one && Nat.beq out.length (len * m) then some (.sl c 0 0 len, H.put c (some (.cells E m out))) else none
        | none => none
      else none
    | _ => none
  | _ => none
theorem bsA_ok {H H' : Tr BO} {c T len : Nat} {ps : List (Nat × AV)} {pv : List (Nat × Value)} {v : AV} (R : Rel base w0 φ H.get w) (hf : Fre φ c (c + 1)) (hp : PV φ ps pv) (h : bsA P H c T len ps = some (v, H')) :
    ∃ V φ' w', (Instr.buildSlice T len pv.toArray).run P w = .ok V w' ∧ Tran base w0 φ H.get c w φ' H'.get (c + 1) w' ∧ v.c φ' = some V := by
  unfold bsA at h
  split at h
  · rename_i E hT
    split at h
    · rename_i m b' gg zv ht
      split at h
      · rename_i hc
        simp only [Bool.and_eq_true] at hc
        have h1 := Nat.eq_of_beq_eq_true hc.1
        have h2 : 0 < m := by simpa [Nat.blt_eq] using hc.2.1
        have h3 := Nat.le_of_ble_eq_true hc.2.2.1
        split at h
        · rename_i out hout
          split at h
          · rename_i hc2
            rw [Bool.and_eq_true] at hc2
            have h5 := Nat.eq_of_beq_eq_true hc2.2
            injection h with h; injection h with h h'; subst h; subst h'
            obtain ⟨os, e1, e2⟩ := fillA_ok hout (zerosL_c zv.cells.toList (by omega) len) hp
            have hol := AV.cl_len e1
            have hz : (if len * m = 0 then (#[] : Array Value) else zv.cells) = (if len * m = 0 then #[] else zv.cells) := rfl
            have hr := run_build_slice (w := w) (len := len) (pv := pv) (cs := os) hT ht h3 rfl (by
              rw [← e2]
              congr 1
              simp only [madeCells, h1]
              by_cases h0 : len * m = 0
              · rw [h0]; simp
              · rw [if_neg h0])
            have htr := tran_alloc (T := E) (m := m) (cap := len) (arr := os) R hf e1 (by omega) (List.take_of_length_le (Nat.le_refl _)) (Nat.le_refl _) (by simp only [maxLen]; have : len ≤ len * m := Nat.le_mul_of_pos_right _ h2; omega)
            refine ⟨_, _, _, hr, by rw [get_put_fun hc.2.2.2]; exact htr.1, ?_⟩
            unfold AV.c; rw [htr.2]; rfl
          · cases h
        · cases h
      · cases h
    · cases h
  · cases h
def mkA (P : Program) (H : Tr BO) (c T : Nat) (a b : AV) : Option (AV × Tr BO) :=
  match P.underlying T, a, b with
  | some (.slice E), .v (.int _ (.ofNat l)), .v (.int _ (.ofNat k)) => match zam P E with
    | some (m, by', _, some zv) =>
      if Nat.beq zv.cells.toList.length m && (Nat.blt 0 m && (Nat.ble l k && (Nat.ble (by' * k) 281474976710656 && (Nat.ble k 9223372036854775807 && (smallK c && zv.cells.toList.all Value.oneCell'))))) then some (.sl c 0 0 l, H.put c (some (.cells E m (zerosL zv.cells.toList l)))) else none
    | _ => none
  | _, _, _ => none
theorem mkA_ok {H H' : Tr BO} {c T : Nat} {a b v : AV} {A B : Value} (R : Rel base w0 φ H.get w) (hf : Fre φ c (c + 1)) (ha : a.c φ = some A) (hb : b.c φ = some B) (h : mkA P H c T a b = some (v, H')) :
    ∃ V φ' w', (Instr.makeSlice T A B).run P w = .ok V w' ∧ Tran base w0 φ H.get c w φ' H'.get (c + 1) w' ∧ v.c φ' = some V := by
  unfold mkA at h
  split at h
  · rename_i E k1 l k2 k hT
    have := c_v ha; subst this
    have := c_v hb; subst this
    split at h
    · rename_i m by' gg zv ht
      split at h
      · rename_i hc
        simp only [Bool.and_eq_true] at hc
        have h1 := Nat.eq_of_beq_eq_true hc.1
        have h2 : 0 < m := by simpa [Nat.blt_eq] using hc.2.1
        have h3 := Nat.le_of_ble_eq_true hc.2.2.1
        have h4 := Nat.le_of_ble_eq_true hc.2.2.2.1
        have h5 := Nat.le_of_ble_eq_true hc.2.2.2.2.1
        injection h with h; injection h with h h'; subst h; subst h'
        obtain ⟨ii, dd, hi, _, hs, hby, _, hzz⟩ := zaj ht
        have hr := run_make (P := P) w T E ii zv hT hi hzz k1 k2 (l : Int) (k : Int) (by omega) (by omega) (by rw [hby]; exact Int.ofNat_le.2 h4) (by omega)
        simp only [Int.toNat_natCast, hs] at hr
        have hzc := zerosL_c (φ := φ) zv.cells.toList (by omega) l
        have htr := tran_alloc (T := E) (m := m) (cap := k) (arr := (madeCells zv.cells (k * m)).toList) R hf hzc (by rw [Array.length_toList, size_madeCells]) (by
            apply List.ext_getElem?
            intro i
            rw [List.getElem?_take]
            have hs1 : zv.cells.size = m := by rw [← h1]; simp
            simp only [Array.length_toList, size_madeCells, hs1, Array.toArray_toList]
            split
            · rename_i hi2
              have hi3 : i < k * m := Nat.lt_of_lt_of_le hi2 (Nat.mul_le_mul_right _ h3)
              simp only [madeCells, Array.toList_map, Array.toList_range, List.getElem?_map, List.getElem?_range hi2, List.getElem?_range hi3]
            · rw [List.getElem?_eq_none (by simp [madeCells]; omega)]) (by
            have hs1 : zv.cells.size = m := by rw [← h1]; simp
            simp only [Array.length_toList, size_madeCells, hs1]; exact Nat.mul_le_mul_right _ h3) (by simp only [maxLen]; omega)
        refine ⟨_, _, _, hr, by rw [get_put_fun hc.2.2.2.2.2.1]; exact htr.1, ?_⟩
        unfold AV.c; rw [htr.2]; rfl
      · cases h
    · cases h
  · cases h
end
end Gx
namespace Gx
open Go Go.RowKit
set_option linter.unusedSimpArgs false
set_option linter.unusedVariables false
section
variable {P : Program} {base : Nat} {w0 : World} {φ : Ph} {ρ : En} {e : Env} {S : Nat → Prop} {w : World}
theorem run_append_zero {B : Nat} {t ty E : TypeId} {ii : TypeInfo} {sz n : Nat} {v : Value} {cs : List Value} (ht : P.underlying t = some (.slice E)) (hi : P.info? E = some ii) (hown : w.ownsRow B E sz v n cs) (A : Option Addr) (c : Nat) : (Builtin.append_ #[t, t] ty #[v, .slice A 0 c]).run P w = .ok v w := by
  cases A with
  | none => exact run_append_nothing ht hi hown c
  | some a =>
    rcases hown.2 with ⟨rfl, rfl⟩ | ⟨g, cap, cur, rfl, _, _, hnc, _⟩
    · simp [Builtin.append_, run_underlying ht, Go.sizeOf, typeInfo, hi, Builtin.lenOf, Builtin.firstCells, loadCells, loadCellsFrom, go_sem]
    · simp [Builtin.append_, run_underlying ht, Go.sizeOf, typeInfo, hi, Builtin.lenOf, Builtin.firstCells, hnc, storeCells, loadCells, loadCellsFrom, go_sem]
def rowA (H : Tr BO) (E m : Nat) (a : AV) : Option (Option Nat × Nat × List AV) := match a with
  | .v (.slice none 0 0) => some (none, 0, [])
  | .sl b 0 0 len => match H.get b with
    | some (.cells E' m' l) => if Nat.beq E' E && (Nat.beq m' m && (Nat.ble (len * m) l.length && smallK b)) then some (some b, len, l.take (len * m)) else none
    | none => none
  | _ => none
theorem rowA_ok {H : Tr BO} (R : Rel base w0 φ H.get w) {E m : Nat} (hm : 0 < m) {a : AV} {A : Value} {r : Option Nat × Nat × List AV} (ha : a.c φ = some A) (h : rowA H E m a = some r) :
    ∃ vs, AV.cl φ r.2.2 = some vs ∧ w.ownsRow 0 E m A r.2.1 vs ∧ ((r.1 = none ∧ A = .slice none 0 0 ∧ r.2.1 = 0) ∨ ∃ b x cap, r.1 = some b ∧ H.get b ≠ none ∧ φ b = some (x, cap) ∧ A = .slice (some ⟨x, 0, none⟩) r.2.1 cap ∧ smallK b = true) := by
  unfold rowA at h
  split at h
  · injection h with h; subst h
    have := c_v ha; subst this
    exact ⟨[], by unfold AV.cl; rfl, World.ownsRow_nil _ _ _ _, .inl ⟨rfl, rfl, rfl⟩⟩
  · rename_i b len
    split at h
    · rename_i E' m' l hg
      split at h
      · rename_i hc
        simp only [Bool.and_eq_true] at hc
        have h1 := Nat.eq_of_beq_eq_true hc.1; have h2 := Nat.eq_of_beq_eq_true hc.2.1; have h3 := Nat.le_of_ble_eq_true hc.2.2.1
        injection h with h; subst h
        subst h1; subst h2
        obtain ⟨x, cap, hx, hcp, arr, vs, e1, e2, e3, e4, e5⟩ := R.obj b _ hg
        obtain ⟨x', cap', hx', rfl⟩ := c_sl ha
        rw [hx] at hx'; injection hx' with hx'; injection hx' with hxa hxb; subst hxa; subst hxb
        have hvl := AV.cl_len e3
        refine ⟨vs.take (len * m'), AV.cl_take _ e3, ⟨by show (vs.take (len * m')).length = len * m'; rw [List.length_take, Nat.min_eq_left (by omega)], ?_⟩, .inr ⟨b, x, cap, rfl, by rw [hg]; simp, hx, rfl, hc.2.2.2⟩⟩
        have : len ≤ cap := Nat.le_of_mul_le_mul_right (show len * m' ≤ cap * m' by omega) hm
        exact .inr ⟨x, cap, arr, rfl, Nat.zero_le _, e1, this, hcp, e2, by rw [← e5, List.take_take, Nat.min_eq_left (by omega)]⟩
      · cases h
    · cases h
  · cases h
def elsA (H : Tr BO) (m : Nat) (a : AV) : Option (Nat × List AV) := match a with
  | .v (.slice none 0 _) => some (0, [])
  | .sl b oc _ len => match H.get b with
    | some (.cells _ _ l) => if Nat.beq ((l.drop oc).take (len * m)).length (len * m) then some (len, (l.drop oc).take (len * m)) else none
    | none => none
  | .slx b oc len _ => match H.get b with
    | some (.cells _ _ l) => if Nat.beq ((l.drop oc).take (len * m)).length (len * m) then some (len, (l.drop oc).take (len * m)) else none
    | none => none
  | _ => none
theorem elsA_ok {H : Tr BO} (R : Rel base w0 φ H.get w) {m : Nat} {a : AV} {A : Value} {r : Nat × List AV} (ha : a.c φ = some A) (h : elsA H m a = some r) :
    ∃ ys Ad c, AV.cl φ r.2 = some ys ∧ A = .slice Ad r.1 c ∧ ys.length = r.1 * m ∧ ((Ad = none ∧ r.1 = 0) ∨ ∃ ad, Ad = some ad ∧ CF ad ys w) := by
  unfold elsA at h
  split at h
  · injection h with h; subst h
    have := c_v ha; subst this
    exact ⟨[], none, _, by unfold AV.cl; rfl, rfl, by simp, .inl ⟨rfl, rfl⟩⟩
  · rename_i b oc oe len
    split at h
    · rename_i E' m' l hg
      split at h
      · rename_i hc
        have h1 := Nat.eq_of_beq_eq_true hc
        injection h with h; subst h
        obtain ⟨x, cap, hx, rfl⟩ := c_sl ha
        obtain ⟨vs, hv, _⟩ := R.cell hg hx
        have hs := AV.cl_take (len * m) (AV.cl_drop oc hv)
        exact ⟨_, _, _, hs, rfl, by rw [AV.cl_len hs, h1], .inr ⟨_, rfl, R.seg hg hx hs⟩⟩
      · cases h
    · cases h
  · rename_i b oc len cp
    split at h
    · rename_i E' m' l hg
      split at h
      · rename_i hc
        have h1 := Nat.eq_of_beq_eq_true hc
        injection h with h; subst h
        obtain ⟨x, cap, hx, rfl⟩ := c_slx ha
        obtain ⟨vs, hv, _⟩ := R.cell hg hx
        have hs := AV.cl_take (len * m) (AV.cl_drop oc hv)
        exact ⟨_, _, _, hs, rfl, by rw [AV.cl_len hs, h1], .inr ⟨_, rfl, R.seg hg hx hs⟩⟩
      · cases h
    · cases h
  · cases h
def goneO (H : Tr BO) : Option Nat → Tr BO
  | none => H
  | some b => H.put b none
def apA (P : Program) (H : Tr BO) (c T : Nat) (a b : AV) : Option (AV × Tr BO × Nat) :=
  match P.underlying T with
  | some (.slice E) => match zam P E with
    | some (m, by', _, some zv) =>
      if Nat.beq zv.cells.size m && (Nat.blt 0 m && smallK c) then match rowA H E m a, elsA H m b with
        | some r, some s =>
          if Nat.beq s.1 0 then some (a, H, c)
          else if s.2.all AV.one && (Nat.ble ((r.2.1 + s.1) * by') 140737488355328 && Nat.ble (r.2.1 + s.1) 9223372036854775807) then some (.sl c 0 0 (r.2.1 + s.1), (goneO H r.1).put c (some (.cells E m (r.2.2 ++ s.2))), c + 1) else none
        | _, _ => none
      else none
    | _ => none
  | _ => none
theorem apA_ok {H H' : Tr BO} {c c' T : Nat} {a b v : AV} {A B : Value} {ty : TypeId} (R : Rel base w0 φ H.get w) (ha : a.c φ = some A) (hb : b.c φ = some B) (h : apA P H c T a b = some (v, H', c')) (hf : Fre φ c c') :
    ∃ V φ' w', (Builtin.append_ #[T, T] ty #[A, B]).run P w = .ok V w' ∧ Tran base w0 φ H.get c w φ' H'.get c' w' ∧ v.c φ' = some V := by
  unfold apA at h
  split at h
  · rename_i E hT
    split at h
    · rename_i m by' gg zv ht
      obtain ⟨ii, dd, hi, _, hs, hby, _, hzz⟩ := zaj ht
      split at h
      · rename_i hc
        simp only [Bool.and_eq_true] at hc
        have hz := Nat.eq_of_beq_eq_true hc.1
        have hm : 0 < m := by simpa [Nat.blt_eq] using hc.2.1
        split at h
        · rename_i r s hr hse
          obtain ⟨xs, hxs, hown, hrow⟩ := rowA_ok R hm ha hr
          obtain ⟨ys, Ad, cp, hys, rfl, hyl, hAd⟩ := elsA_ok R hb hse
          split at h
          · rename_i h0
            have h0' := Nat.eq_of_beq_eq_true h0
            injection h with h; injection h with h h2; injection h2 with h2 h3; subst h; subst h2; subst h3
            rw [h0']
            exact ⟨A, φ, w, run_append_zero hT hi hown Ad cp, Tran.refl R _, ha⟩
          · rename_i h0
            have h0' : ¬ s.1 = 0 := fun e => h0 (by rw [e]; rfl)
            split at h
            · rename_i hc2
              simp only [Bool.and_eq_true] at hc2
              have hb1 := Nat.le_of_ble_eq_true hc2.2.1
              have hb2 := Nat.le_of_ble_eq_true hc2.2.2
              injection h with h; injection h with h h2; injection h2 with h2 h3; subst h; subst h2; subst h3
              rcases hAd with ⟨_, e⟩ | ⟨ad, rfl, hcf⟩
              · exact absurd e h0'
              obtain ⟨v', w', hrun, hown', hg, hnil, hblk⟩ := run_append_own_at (P := P) w 0 T ty E ii zv m by' hT hi hzz hs hby hz hm A r.2.1 xs hown ad s.1 cp ys hyl hcf (AV.one_l hc2.1 hys) (by simp only [maxLen]; omega) hb1 (Nat.zero_le _)
              rcases hown'.2 with ⟨hv', e0⟩ | ⟨G, cap', cur, hv', _, hheap, hle, hcm, hsz, htk⟩
              · omega
              have hGlt : G < w'.heap.size := (Array.getElem?_eq_some_iff.1 hheap).1
              have hcc : smallK c = true := hc.2.2
              have hfc := hf c (Nat.le_refl _) (by omega)
              have hgc : H.get c = none := by
                cases hgc : H.get c with
                | none => rfl
                | some o => obtain ⟨x, y, h1, _⟩ := R.obj c o hgc; rw [hfc] at h1; cases h1
              -- the names that stay
              have hget : ((goneO H r.1).put c (some (.cells E m (r.2.2 ++ s.2)))).get = fun q => if q = c then some (.cells E m (r.2.2 ++ s.2)) else if r.1 = some q then none else H.get q := by
                funext q
                rw [Tr.get_put _ q hcc]
                split
                · rfl
                · rcases hrow with ⟨e1, _⟩ | ⟨b0, x, cp0, e1, _, _, _, e2⟩
                  · rw [e1]; simp [goneO]
                  · rw [e1]; simp only [goneO, Option.some.injEq]
                    rw [Tr.get_put none q e2]
                    by_cases e : q = b0
                    · simp [e]
                    · rw [if_neg e, if_neg (fun h => e h.symm)]
              have hchg : Chg w w' (fun x => A.ownBlock = some x) := Chg.grown hg
              have hAown : ∀ x, A.ownBlock = some x → ∃ b0 cp0, r.1 = some b0 ∧ H.get b0 ≠ none ∧ φ b0 = some (x, cp0) := fun x hx => by
                rcases hrow with ⟨_, e, _⟩ | ⟨b0, x', cp0, e1, e2, e3, e4, _⟩
                · rw [e] at hx; cases hx
                · rw [e4] at hx; simp only [Value.ownBlock, Option.some.injEq] at hx; subst hx
                  exact ⟨b0, cp0, e1, e2, e3⟩
              have hchg2 : Chg w w' (Own φ H.get) := hchg.mono fun x hx => by
                obtain ⟨b0, cp0, _, h2, h3⟩ := hAown x hx
                exact ⟨b0, cp0, h2, h3⟩
              have hG : G = w.heap.size ∨ ∃ b0 cp0, r.1 = some b0 ∧ H.get b0 ≠ none ∧ φ b0 = some (G, cp0) := by
                rcases hblk with e | e
                · right; refine hAown G ?_; rw [← e, hv']; rfl
                · left; rw [hv'] at e; simpa [Value.ownBlock] using e
              have hsame : ∀ q, ¬ (c ≤ q ∧ q < c + 1) → pup φ c (G, cap') q = φ q := fun q hq => by unfold pup; rw [if_neg (by omega)]
              have hplc : pup φ c (G, cap') c = some (G, cap') := by unfold pup; simp
              have hle' : PLe φ (pup φ c (G, cap')) := hf.le hsame
              have hbelow : Below base w w' := ⟨hchg.os, hchg.tape, hchg.output, hchg.size, fun k hk => hchg2.block k (Nat.lt_of_lt_of_le hk R.bsz) (fun ho => by
                obtain ⟨b0, cp0, h1, h2⟩ := ho
                have := R.low b0 k cp0 h1 h2; omega)⟩
              have hGlow : base ≤ G := by
                rcases hG with e | ⟨b0, cp0, _, h2, h3⟩
                · rw [e]; exact R.bsz
                · exact R.low b0 G cp0 h2 h3
              -- an old name does not stand for the new block
              have hno : ∀ q x cp0, r.1 ≠ some q → H.get q ≠ none → φ q = some (x, cp0) → x ≠ G := fun q x cp0 h1 h2 h3 e => by
                subst e
                rcases hG with e | ⟨b0, cp1, h4, h5, h6⟩
                · have := R.lt h2 h3; omega
                · have := R.inj q b0 x cp0 cp1 h2 h5 h3 h6
                  subst this; exact h1 h4
              refine ⟨v', pup φ c (G, cap'), w', hrun, ⟨hsame, ⟨fun q o hq => ?_, fun p q x y y' hp hq h1 h2 => ?_, fun q x y hq h1 => ?_, R.below.trans hbelow, Nat.le_trans R.bsz hchg.size⟩, hchg2, fun x ho => ?_, by omega, fun q hq => ?_⟩, ?_⟩
              · rw [hget] at hq
                simp only at hq
                by_cases e : q = c
                · rw [if_pos e] at hq; injection hq with hq; subst hq; subst e
                  refine ⟨G, cap', hplc, hcm, cur, xs ++ ys, hheap, hsz, AV.cl_mono hle' _ _ (AV.cl_app hxs hys), ?_, ?_⟩
                  · rw [hown'.1, hsz]; exact Nat.mul_le_mul_right _ hle
                  · rw [hown'.1]; exact htk
                · rw [if_neg e] at hq
                  split at hq
                  · cases hq
                  · rename_i hr1
                    obtain ⟨x, cp0, h1, h2⟩ := R.obj q o hq
                    refine ⟨x, cp0, hle' q _ h1, ?_⟩
                    rw [hchg.block x (R.lt (by rw [hq]; simp) h1) (fun hx => by
                      obtain ⟨b0, cp1, h4, h5, h6⟩ := hAown x hx
                      have := R.inj q b0 x cp0 cp1 (by rw [hq]; simp) h5 h1 h6
                      subst this; exact hr1 h4)]
                    exact h2.mono hle'
              · rw [hget] at hp hq
                simp only at hp hq
                unfold pup at h1 h2
                by_cases e1 : p = c <;> by_cases e2 : q = c
                · omega
                · rw [if_pos e1] at h1; rw [if_neg e2] at h2 hq
                  injection h1 with h1; injection h1 with h1 _; subst h1
                  split at hq
                  · exact absurd rfl hq
                  · rename_i hr1; exact absurd rfl (hno q _ y' hr1 hq h2)
                · rw [if_pos e2] at h2; rw [if_neg e1] at h1 hp
                  injection h2 with h2; injection h2 with h2 _; subst h2
                  split at hp
                  · exact absurd rfl hp
                  · rename_i hr1; exact absurd rfl (hno p _ y hr1 hp h1)
                · rw [if_neg e1] at h1 hp; rw [if_neg e2] at h2 hq
                  split at hp
                  · exact absurd rfl hp
                  · split at hq
                    · exact absurd rfl hq
                    · exact R.inj p q x y y' hp hq h1 h2
              · rw [hget] at hq
                simp only at hq
                unfold pup at h1
                by_cases e1 : q = c
                · rw [if_pos e1] at h1; injection h1 with h1; injection h1 with h1 _; subst h1; exact hGlow
                · rw [if_neg e1] at h1 hq
                  split at hq
                  · exact absurd rfl hq
                  · exact R.low q x y hq h1
              · obtain ⟨q, cp0, h1, h2⟩ := ho
                rw [hget] at h1
                simp only at h1
                unfold pup at h2
                by_cases e1 : q = c
                · rw [if_pos e1] at h2; injection h2 with h2; injection h2 with h2 _; subst h2
                  rcases hG with e | ⟨b0, cp1, _, h5, h6⟩
                  · left; omega
                  · right; exact ⟨b0, cp1, h5, h6⟩
                · rw [if_neg e1] at h1 h2
                  split at h1
                  · exact absurd rfl h1
                  · right; exact ⟨q, cp0, h1, h2⟩
              · rw [hget] at hq
                simp only at hq
                by_cases e1 : q = c
                · right; omega
                · rw [if_neg e1] at hq
                  split at hq
                  · exact absurd rfl hq
                  · exact .inl hq
              · unfold AV.c; rw [hplc, hv']; rfl
            · cases h
        · cases h
      · cases h
    · cases h
  · cases h
end
end Gx
