/- My own library for walks through the translated code, part Gx10: laws of the model alone, no word of the program. -/
import Derived.Test.YtdfkpjchnndniaaDoorGx9
import Derived.OrdersHeld
namespace Gx
open Go Go.RowKit
set_option linter.unusedSimpArgs false
set_option linter.unusedSectionVars false
set_option linter.unusedVariables false

/-! ### Regions whose order is drawn -/
/-- The world has at most grown. -/
abbrev Gr (w w2 : World) : Prop := Chg w w2 (fun _ => False)
theorem Gr.refl (w : World) : Gr w w := ⟨rfl, rfl, rfl, Nat.le_refl _, fun _ _ _ => rfl⟩
theorem Gr.trans {w w2 w3 : World} (h : Gr w w2) (h2 : Gr w2 w3) : Gr w w3 :=
  ⟨h2.os.trans h.os, h2.tape.trans h.tape, h2.output.trans h.output, Nat.le_trans h.size h2.size, fun b hb _ => (h2.block b (Nat.lt_of_lt_of_le hb h.size) (fun x => x)).trans (h.block b hb (fun x => x))⟩
/-- What stays where the world grows. -/
abbrev Sp := { p : World → Prop // ∀ w w2, Gr w w2 → p w → p w2 }
abbrev Held := List (Nat × Sp)
/-- Does j wait for i? -/
def waits (ops : Array Oper) (j i : Nat) : Bool := ((ops[j]?).map fun o => o.after.any fun e => Region.binds .any e && e.on == i).getD false
/-- What is held stays, but for what j waits for. -/
def Keep (ops : Array Oper) (j : Nat) (w : World) : Held → Prop
  | [] => True
  | p :: r => (waits ops j p.1 = false → p.2.1 w) ∧ Keep ops j w r
theorem Keep.mem {ops : Array Oper} {j : Nat} {w : World} : ∀ {H : Held}, Keep ops j w H → ∀ p ∈ H, waits ops j p.1 = false → p.2.1 w
  | p :: r, h, q, hq, hw => by
    rcases List.mem_cons.1 hq with e | e
    · subst e; exact h.1 hw
    · exact Keep.mem h.2 q e hw
/-- What is held of i. -/
def Of (H : Held) (i : Nat) (w : World) : Prop := ∀ p ∈ H, p.1 = i → p.2.1 w
theorem Of.gr {H : Held} {i : Nat} {w w2 : World} (h : Of H i w) (g : Gr w w2) : Of H i w2 := fun p hp hi => p.2.2 w w2 g (h p hp hi)

section
variable {P : Program} {ops : Array Oper} {Q : Exit → Act → World → Prop} {H : Held} {S : World → Prop}

/-- In every world that meets S the operation's value is v, and the world at most grows. -/
def GivesIf (P : Program) (ops : Array Oper) (S : World → Prop) (o : Oper) (v : Value) (a : Act) : Prop :=
  (Region.wanted o (yielded ops a.tmps) = true ∧ ∀ w, S w → ((execOp a.eval o).run P w = .ok (.value v) w ∨ ∃ g args, (execOp a.eval o).run P w = .ok (.enter g args) w ∧ Calls P g args w fun e w2 => e = .returned v ∧ Gr w w2)) ∨
  (Region.wanted o (yielded ops a.tmps) = false ∧ v = undef)
theorem GivesIf.wpOp {i : Nat} {o : Oper} {v : Value} {a : Act} (hi : ops[i]? = some o) (hy : GivesIf P ops S o v a)
    {K : Act → World → Prop} {w : World} (hS : S w) (h : ∀ w2, Gr w w2 → K (a.put o.dst v) w2) : wpOp P ops Q i K a w := by
  unfold Go.wpOp
  simp only [hi]
  rcases hy with ⟨hw, hv⟩ | ⟨hw, rfl⟩
  · rcases hv w hS with hv | ⟨g, args, hv, hc⟩
    · simp only [hw, if_true, Oper.wp, hv, Oper.upon]; exact .inl (h w (Gr.refl w))
    · simp only [hw, if_true, Oper.wp, hv, Oper.upon]
      refine .inl (Calls.mono hc fun e w2 he => ?_)
      obtain ⟨rfl, hg⟩ := he
      exact h w2 hg
  · simp only [hw, Bool.false_eq_true, if_false]; exact h w (Gr.refl w)
theorem GivesIf.of_same {o : Oper} {v : Value} {a a' : Act} (hy : GivesIf P ops S o v a) (he : execOp a'.eval o = execOp a.eval o)
    (hw : Region.wanted o (yielded ops a'.tmps) = Region.wanted o (yielded ops a.tmps)) : GivesIf P ops S o v a' := by
  unfold GivesIf at *
  rw [he, hw]
  exact hy
theorem wpOp_putG {j : Nat} {oi oj : Oper} {v : Value} (hj : ops[j]? = some oj) (hap : oi.apart ops oj = true)
    (hsi : ∀ cs b, oi.op ≠ .select cs b) (hsj : ∀ cs b, oj.op ≠ .select cs b)
    (hQ : ∀ c a w, Q (.panic c) (a.put oi.dst v) w → Q (.panic c) a w) {K : Act → World → Prop} {a : Act} {w : World}
    (hy : GivesIf P ops S oi v a) (h : wpOp P ops Q j K (a.put oi.dst v) w) :
    wpOp P ops Q j (fun a' w' => GivesIf P ops S oi v a' ∧ K (a'.put oi.dst v) w') a w := by
  obtain ⟨h1, h2, h3⟩ := Oper.apart_spec hap
  have keep : ∀ (a : Act), GivesIf P ops S oi v a → ∀ u, GivesIf P ops S oi v (a.put oj.dst u) := fun a hy u =>
    hy.of_same (execOp_put oi hsi a oj.dst u h3) (wanted_put oi a oj.dst u h3)
  have keepD : ∀ d, GivesIf P ops S oi v { a with defers := d :: a.defers } := fun d => hy.of_same rfl rfl
  unfold wpOp at *
  simp only [hj] at *
  rw [wanted_put oj a oi.dst v h1] at h
  split
  · rename_i hw
    simp only [hw, if_true] at h
    rcases h with h | ⟨hasks, hlets⟩
    case inr => exact .inr ⟨by unfold Oper.asks at *; rw [execOp_put oj hsj a oi.dst v h1] at hasks; exact hasks, hlets⟩
    refine .inl ?_
    unfold Oper.wp at *
    rw [execOp_put oj hsj a oi.dst v h1] at h
    generalize (execOp a.eval oj).run P w = r at *
    cases r with
    | ok n w' =>
      cases n <;> simp only [Oper.upon] at h ⊢
      case value u => exact ⟨keep a hy u, by rw [← Act.put_comm a v u h2]; exact h⟩
      case skip => exact ⟨keep a hy _, by rw [← Act.put_comm a v undef h2]; exact h⟩
      case defer d =>
        refine ⟨keep _ (keepD d) _, ?_⟩
        rw [← Act.put_comm _ v undef h2, ← Act.put_defers]
        exact h
      case enter f args =>
        refine Calls.mono h fun e w'' he => ?_
        cases e with
        | returned u => exact ⟨keep a hy u, by rw [← Act.put_comm a v u h2]; exact he⟩
        | panicked c => exact hQ _ _ _ he
        | outgrown => exact he
      case row row args => exact Rows.mono h fun u w'' he => ⟨keep a hy u, by rw [← Act.put_comm a v u h2]; exact he⟩
    | halt x w' =>
      cases x <;> simp only [Oper.upon] at h ⊢
      case panic u => exact hQ _ _ _ h
  · rename_i hw
    simp only [hw] at h
    exact ⟨keep a hy _, by rw [← Act.put_comm a v undef h2]; exact h⟩

/-- Whatever order is picked from here on; between any two operations the world may grow. -/
def AnyL (P : Program) (ops : Array Oper) (Q : Exit → Act → World → Prop) (H : Held) : Nat → Array Bool → Act → World → Prop
  | 0, listed, a, w => Region.ready .any ops listed = [] ∧ ∀ w2, Gr w w2 → Q .normal a w2
  | fuel + 1, listed, a, w => ∀ w2, Gr w w2 →
    (Region.ready .any ops listed = [] → Q .normal a w2) ∧
    ∀ i ∈ Region.ready .any ops listed, wpOp P ops Q i (fun a' w' => (Gr w2 w' ∨ Keep ops i w' H) ∧ AnyL P ops Q H fuel (listed.setIfInBounds i true) a' w') a w2
theorem AnyL.gr {w w2 : World} (g : Gr w w2) : ∀ {fuel : Nat} {listed : Array Bool} {a : Act}, AnyL P ops Q H fuel listed a w → AnyL P ops Q H fuel listed a w2
  | 0, _, _, h => ⟨h.1, fun w3 g3 => h.2 w3 (g.trans g3)⟩
  | _ + 1, _, _, h => fun w3 g3 => h w3 (g.trans g3)
theorem wpAny_of_AnyL : ∀ (fuel : Nat) (listed : Array Bool) (a : Act) (w : World), AnyL P ops Q H fuel listed a w → wpAny P .any ops Q fuel listed a w
  | 0, _, _, w, h => ⟨h.1, h.2 w (Gr.refl w)⟩
  | fuel + 1, _, _, w, h => ⟨(h w (Gr.refl w)).1, fun i hi => wpOp_mono (fun a' w' h' => wpAny_of_AnyL fuel _ a' w' h'.2) ((h w (Gr.refl w)).2 i hi)⟩

/-- An operation that gives its value in every world that holds what is held of it may come first. -/
theorem anyL_first {i : Nat} {oi : Oper} {v : Value} (hi : ops[i]? = some oi) (hsel : ∀ (j : Nat) (o : Oper) cs b, ops[j]? = some o → o.op ≠ .select cs b)
    (hQ : ∀ c a w, Q (.panic c) (a.put oi.dst v) w → Q (.panic c) a w) :
    ∀ (fuel : Nat) (listed : Array Bool) (a : Act) (w : World),
      (∀ j oj, ops[j]? = some oj → j ≠ i → listed.getD j true = false → (∀ e ∈ oj.after, Region.binds .any e = true → e.on ≠ i) → oi.apart ops oj = true) →
      i ∈ Region.ready .any ops listed → GivesIf P ops (Of H i) oi v a → Of H i w →
      AnyL P ops Q H fuel (listed.setIfInBounds i true) (a.put oi.dst v) w → AnyL P ops Q H (fuel + 1) listed a w := by
  intro fuel
  induction fuel with
  | zero =>
    intro listed a w _ hr hy hS hA w2 g2
    refine ⟨fun h => (by rw [h] at hr; cases hr), fun j hj => ?_⟩
    by_cases hji : j = i
    · subst hji; exact hy.wpOp hi (hS.gr g2) fun w3 g3 => ⟨.inl g3, hA.gr (g2.trans g3)⟩
    · have := ready_mono hj hji
      rw [hA.1] at this
      cases this
  | succ fuel ih =>
    intro listed a w hfree hr hy hS hA w2 g2
    refine ⟨fun h => (by rw [h] at hr; cases hr), fun j hj => ?_⟩
    by_cases hji : j = i
    · subst hji; exact hy.wpOp hi (hS.gr g2) fun w3 g3 => ⟨.inl g3, hA.gr (g2.trans g3)⟩
    · have h1 := (hA w2 g2).2 j (ready_mono hj hji)
      obtain ⟨hjun, oj, hoj, hall⟩ := mem_ready.1 hj
      have hun : listed.getD i true = false := (mem_ready.1 hr).1
      have hun' : listed.getD i false = false := by
        rcases Nat.lt_or_ge i listed.size with h' | h'
        · simp only [Array.getD_eq_getD_getElem?, Array.getElem?_eq_getElem h', Option.getD_some] at hun ⊢
          exact hun
        · simp [Array.getElem?_eq_none h']
      have hnot : ∀ e ∈ oj.after, Region.binds .any e = true → e.on ≠ i := fun e he hb heq => by
        have h2 := hall e he hb
        rw [heq, hun'] at h2
        cases h2
      have hw : waits ops j i = false := by
        unfold waits
        rw [hoj]
        simp only [Option.map_some, Option.getD_some]
        cases hq : oj.after.any (fun e => Region.binds .any e && e.on == i) with
        | false => rfl
        | true =>
          obtain ⟨e, he, hb⟩ := Array.any_eq_true'.1 hq
          simp only [Bool.and_eq_true, beq_iff_eq] at hb
          exact absurd hb.2 (hnot e he hb.1)
      have h2 := wpOp_putG hoj (hfree j oj hoj hji hjun hnot) (fun cs b => hsel i oi cs b hi) (fun cs b => hsel j oj cs b hoj) hQ hy h1
      have hfree' : ∀ k ok, ops[k]? = some ok → k ≠ i → (listed.setIfInBounds j true).getD k true = false →
          (∀ e ∈ ok.after, Region.binds .any e = true → e.on ≠ i) → oi.apart ops ok = true := fun k ok hk hki hun hno => by
        refine hfree k ok hk hki ?_ hno
        by_cases hjk : j = k
        · subst hjk; exact hjun
        · rw [getD_set_ne true hjk] at hun; exact hun
      refine wpOp_mono (fun a' w' h3 => ⟨h3.2.1, ih (listed.setIfInBounds j true) a' w' hfree' (ready_mono hr (Ne.symm hji)) h3.1 ?_ ?_⟩) h2
      · rcases h3.2.1 with g | hk
        · exact (hS.gr g2).gr g
        · exact fun p hp hpi => hk.mem p hp (by rw [hpi]; exact hw)
      · rw [Array.setIfInBounds_comm _ _ hji]
        exact h3.2.2
end

section
variable {P : Program} {f n : Nat} {k : List Item} {ρ : Env} {w : World} {R : Ending → World → Prop} {ops : Array Oper} {H : Held} {fuel : Nat} {listed : Array Bool} {i : Nat}

def Qk (P : Program) (f n : Nat) (k : List Item) (R : Ending → World → Prop) : Exit → Act → World → Prop :=
  fun e a w => e = .normal ∧ ∃ tmps ρ, a = ⟨tmps, []⟩ ∧ Fits n ρ tmps ∧ Run P f n k ρ w R
/-- Whatever order is drawn from here on. -/
def RA (P : Program) (f n : Nat) (ops : Array Oper) (H : Held) (fuel : Nat) (listed : Array Bool) (k : List Item) (ρ : Env) (w : World) (R : Ending → World → Prop) : Prop :=
  ∀ tmps, Fits n ρ tmps → AnyL P ops (Qk P f n k R) H fuel listed ⟨tmps, []⟩ w

theorem ra_start {id : Nat} (H : Held) (hm : P.follows .mixedOrders = true) (h : ∀ w', Chg w w' (fun _ => False) → w'.heap = w.heap → RA P f n ops H ops.size (Array.replicate ops.size false) k ρ w' R) : Run P f n (.code (.region id ops true) :: k) ρ w R := by
  intro tmps ht cs
  have hw := wp_region_any (P := P) (ops := ops) (Q := Qk P f n k R) (id := id) (a := ⟨tmps, []⟩) (w := w) hm (wpAny_of_AnyL (H := H) _ _ _ _ (h { w with drawn := w.drawn + 1 } ⟨rfl, rfl, rfl, Nat.le_refl _, fun _ _ _ => rfl⟩ rfl tmps ht))
  obtain ⟨e, a', w', ⟨rfl, tmps', ρ', rfl, hf, hrun⟩, harr⟩ := hw (base0 f) k cs
  obtain ⟨e2, w2, fr2, hq, hc, r⟩ := hrun tmps' hf cs
  exact ⟨e2, w2, fr2, hq, Comes.of_steps harr hc, r⟩
theorem ra_done (hr : Region.ready .any ops listed = []) (h : ∀ w2, Gr w w2 → Run P f n k ρ w2 R) : RA P f n ops H fuel listed k ρ w R := fun tmps ht => by
  have hq : ∀ w2, Gr w w2 → Qk P f n k R .normal ⟨tmps, []⟩ w2 := fun w2 g => ⟨rfl, tmps, ρ, rfl, ht, h w2 g⟩
  cases fuel with
  | zero => exact ⟨hr, hq⟩
  | succ m => exact fun w2 g => ⟨fun _ => hq w2 g, (fun i hi => by rw [hr] at hi; cases hi)⟩

/-- A quiet operation comes first. -/
theorem ra_take {o : Oper} {v : Value} (ho : ops[i]? = some o) (hs : Region.noSelect ops = true) (hfr : Region.free .any ops listed i = true) (hr : (Region.ready .any ops listed).contains i = true) (hw : wantedE ρ ops o = true) (hd : okO n o.dst = true)
    (hv : ∀ w, Of H i w → (execOp (ev ρ) o).run P w = .ok (.value v) w) (hnow : Of H i w) (h : RA P f n ops H fuel (listed.setIfInBounds i true) k (updO ρ o.dst v) w R) : RA P f n ops H (fuel + 1) listed k ρ w R := fun tmps ht => by
  refine anyL_first ho (Region.noSelect_spec hs) (fun c a w hq => by cases hq.1) fuel listed ⟨tmps, []⟩ w (Region.free_spec ho hfr) (by simpa using hr) (.inl ⟨by rw [wanted_eq ht]; exact hw, fun w hS => .inl (by rw [ht.eval]; exact hv w hS)⟩) hnow ?_
  rw [put_eta]
  exact h _ (ht.putO hd v)
/-- A call whose answer hangs on what is held of it comes first. -/
theorem ra_mild {o : Oper} {v : Value} (ho : ops[i]? = some o) (hs : Region.noSelect ops = true) (hfr : Region.free .any ops listed i = true) (hr : (Region.ready .any ops listed).contains i = true) (hw : wantedE ρ ops o = true) (hd : okO n o.dst = true)
    (hv : ∀ w, Of H i w → ∃ g args, (execOp (ev ρ) o).run P w = .ok (.enter g args) w ∧ Calls P g args w fun e w2 => e = .returned v ∧ Gr w w2) (hnow : Of H i w) (h : RA P f n ops H fuel (listed.setIfInBounds i true) k (updO ρ o.dst v) w R) : RA P f n ops H (fuel + 1) listed k ρ w R := fun tmps ht => by
  refine anyL_first ho (Region.noSelect_spec hs) (fun c a w hq => by cases hq.1) fuel listed ⟨tmps, []⟩ w (Region.free_spec ho hfr) (by simpa using hr) (.inl ⟨by rw [wanted_eq ht]; exact hw, fun w hS => .inr (by rw [ht.eval]; exact hv w hS)⟩) hnow ?_
  rw [put_eta]
  exact h _ (ht.putO hd v)
/-- A quiet operation that its guard shuts out. -/
theorem ra_off {o : Oper} (ho : ops[i]? = some o) (hs : Region.noSelect ops = true) (hfr : Region.free .any ops listed i = true) (hr : (Region.ready .any ops listed).contains i = true) (hw : wantedE ρ ops o = false) (hd : okO n o.dst = true)
    (hnow : Of H i w) (h : RA P f n ops H fuel (listed.setIfInBounds i true) k (updO ρ o.dst undef) w R) : RA P f n ops H (fuel + 1) listed k ρ w R := fun tmps ht => by
  refine anyL_first ho (Region.noSelect_spec hs) (fun c a w hq => by cases hq.1) fuel listed ⟨tmps, []⟩ w (Region.free_spec ho hfr) (by simpa using hr) (.inr ⟨by rw [wanted_eq ht]; exact hw, rfl⟩) hnow ?_
  rw [put_eta]
  exact h _ (ht.putO hd undef)

/-- One of those that may come up now. -/
def RA1 (P : Program) (f n : Nat) (ops : Array Oper) (H : Held) (fuel : Nat) (listed : Array Bool) (k : List Item) (ρ : Env) (w : World) (R : Ending → World → Prop) (i : Nat) : Prop :=
  ∀ tmps, Fits n ρ tmps → wpOp P ops (Qk P f n k R) i (fun a' w' => (Gr w w' ∨ Keep ops i w' H) ∧ AnyL P ops (Qk P f n k R) H fuel (listed.setIfInBounds i true) a' w') ⟨tmps, []⟩ w
theorem ra_one (hr : Region.ready .any ops listed = [i]) (h : ∀ w2, Gr w w2 → RA1 P f n ops H fuel listed k ρ w2 R i) : RA P f n ops H (fuel + 1) listed k ρ w R := fun tmps ht w2 g =>
  ⟨(fun e => by rw [hr] at e; cases e), (fun j hj => by rw [hr] at hj; simp at hj; subst hj; exact h w2 g tmps ht)⟩
theorem ra_two {i2 : Nat} (hr : Region.ready .any ops listed = [i, i2]) (h : ∀ w2, Gr w w2 → RA1 P f n ops H fuel listed k ρ w2 R i) (h2 : ∀ w2, Gr w w2 → RA1 P f n ops H fuel listed k ρ w2 R i2) : RA P f n ops H (fuel + 1) listed k ρ w R := fun tmps ht w2 g =>
  ⟨(fun e => by rw [hr] at e; cases e), fun j hj => by
    rw [hr] at hj; simp at hj
    rcases hj with e | e
    · subst e; exact h w2 g tmps ht
    · subst e; exact h2 w2 g tmps ht⟩
theorem ra_three {i2 i3 : Nat} (hr : Region.ready .any ops listed = [i, i2, i3]) (h : ∀ w2, Gr w w2 → RA1 P f n ops H fuel listed k ρ w2 R i) (h2 : ∀ w2, Gr w w2 → RA1 P f n ops H fuel listed k ρ w2 R i2) (h3 : ∀ w2, Gr w w2 → RA1 P f n ops H fuel listed k ρ w2 R i3) : RA P f n ops H (fuel + 1) listed k ρ w R := fun tmps ht w2 g =>
  ⟨(fun e => by rw [hr] at e; cases e), fun j hj => by
    rw [hr] at hj; simp at hj
    rcases hj with e | e | e
    · subst e; exact h w2 g tmps ht
    · subst e; exact h2 w2 g tmps ht
    · subst e; exact h3 w2 g tmps ht⟩

theorem ra_op {o : Oper} {v : Value} {w' : World} (ho : ops[i]? = some o) (hw : wantedE ρ ops o = true) (hd : okO n o.dst = true) (hr : (execOp (ev ρ) o).run P w = .ok (.value v) w') (hk : Gr w w' ∨ Keep ops i w' H)
    (h : RA P f n ops H fuel (listed.setIfInBounds i true) k (updO ρ o.dst v) w' R) : RA1 P f n ops H fuel listed k ρ w R i := fun tmps ht => by
  unfold wpOp
  simp only [ho]
  rw [if_pos (by rw [wanted_eq ht]; exact hw)]
  refine .inl ?_
  unfold Oper.wp
  rw [ht.eval, hr, Oper.upon_value]
  refine ⟨hk, ?_⟩
  rw [put_eta]
  exact h _ (ht.putO hd v)
theorem ra_op_skip {o : Oper} {w' : World} (ho : ops[i]? = some o) (hw : wantedE ρ ops o = true) (hd : okO n o.dst = true) (hr : (execOp (ev ρ) o).run P w = .ok .skip w') (hk : Gr w w' ∨ Keep ops i w' H)
    (h : RA P f n ops H fuel (listed.setIfInBounds i true) k (updO ρ o.dst undef) w' R) : RA1 P f n ops H fuel listed k ρ w R i := fun tmps ht => by
  unfold wpOp
  simp only [ho]
  rw [if_pos (by rw [wanted_eq ht]; exact hw)]
  refine .inl ?_
  unfold Oper.wp
  rw [ht.eval, hr, Oper.upon_skip]
  refine ⟨hk, ?_⟩
  rw [put_eta]
  exact h _ (ht.putO hd undef)
theorem ra_op_off {o : Oper} (ho : ops[i]? = some o) (hw : wantedE ρ ops o = false) (hd : okO n o.dst = true)
    (h : RA P f n ops H fuel (listed.setIfInBounds i true) k (updO ρ o.dst undef) w R) : RA1 P f n ops H fuel listed k ρ w R i := fun tmps ht => by
  unfold wpOp
  simp only [ho]
  rw [if_neg (by rw [wanted_eq ht, hw]; simp)]
  refine ⟨.inl (Gr.refl _), ?_⟩
  rw [put_eta]
  exact h _ (ht.putO hd undef)
theorem ra_op_call {o : Oper} {w' : World} {g : FuncId} {args : Array Value} {Qc : Value → World → Prop} (ho : ops[i]? = some o) (hw : wantedE ρ ops o = true) (hd : okO n o.dst = true)
    (hr : (execOp (ev ρ) o).run P w = .ok (.enter g args) w') (hc : Calls P g args w' fun e w2 => ∃ v, e = .returned v ∧ Qc v w2)
    (h : ∀ v w2, Qc v w2 → (Gr w w2 ∨ Keep ops i w2 H) ∧ RA P f n ops H fuel (listed.setIfInBounds i true) k (updO ρ o.dst v) w2 R) : RA1 P f n ops H fuel listed k ρ w R i := fun tmps ht => by
  unfold wpOp
  simp only [ho]
  rw [if_pos (by rw [wanted_eq ht]; exact hw)]
  refine .inl ?_
  unfold Oper.wp
  rw [ht.eval, hr, Oper.upon_enter]
  refine hc.mono fun e w2 he => ?_
  obtain ⟨v, rfl, hq⟩ := he
  obtain ⟨h1, h2⟩ := h v w2 hq
  refine ⟨h1, ?_⟩
  rw [put_eta]
  exact h2 _ (ht.putO hd v)
end
end Gx
