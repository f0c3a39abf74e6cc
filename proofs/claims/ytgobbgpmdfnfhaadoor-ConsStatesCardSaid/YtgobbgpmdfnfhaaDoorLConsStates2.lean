/- My own library for walks through the translated code, and the walks of the functions that the law ConsStates comes to, part 3; no conditions but those that each contract tells. -/
import Derived.ProofKit
import Derived.OpenShut
import Derived.ShutString
import Derived.ChangeOld
import Derived.Below
import Derived.DataElems
import Derived.Test.YtgobbgpmdfnfhaaDoorProg
import Derived.KernelRfl
import Derived.Shelf.Spec.TrailingZeros
import Derived.Test.YtgobbgpmdfnfhaaDoorLConsStates1
set_option linter.unusedSectionVars false
set_option linter.unusedVariables false
set_option linter.unusedSimpArgs false
namespace Gx
open Go Go.RowKit
set_option linter.unusedSimpArgs false
set_option linter.unusedVariables false
variable {σ : Nat → Type} [∀ i, Inhabited (Ty σ i)] {P : Program} {D : Df (Ty σ)} {base : Bgn} {w0 : World}
def freeB (ol : List Oper) (N : Nat) (y : AC) : List AC → Bool
  | [] => true
  | x :: l => (ncB x y || ordB ol N y.i x.i) && freeB ol N y l
theorem freeB_ok {ol : List Oper} {N : Nat} {y : AC} : ∀ {acs : List AC}, freeB ol N y acs = true → ∀ x ∈ acs, ncB x y = true ∨ ordB ol N y.i x.i = true
  | [], _, x, hx => by cases hx
  | z :: l, h, x, hx => by
    unfold freeB at h; rw [Bool.and_eq_true, Bool.or_eq_true] at h
    rcases List.mem_cons.1 hx with e | e
    · subst e; exact h.1
    · exact freeB_ok h.2 x e
section
variable (X : Cx P D) (cons : Cons σ) (wr : Nat → Bool)
def drRun (n : Nat) (ol : List Oper) (N i : Nat) (acs : List AC) (s : VS σ) (o : Oper) (k : AC → VS σ → VT) : VT := cond (inO n o.dst) (match opV X cons wr s.ρ s.H s.c o with
  | none => (.ff 20020 [o])
  | some r => cond (freeB ol N ⟨i, r.F, keysU r.ups []⟩ acs) (chkL r.pre (asmL r.fact (k ⟨i, r.F, keysU r.ups []⟩ ⟨upO s.ρ o.dst r.v, appU r.ups s.H, r.c', keysU r.ups s.dn, dsO o.dst s.ds, s.df⟩))) (.ff 20021 [o])) (.ff 20021 [o])
def drOff (n i : Nat) (s : VS σ) (o : Oper) (k : AC → VS σ → VT) : VT := cond (inO n o.dst) (k ⟨i, [], []⟩ ⟨upO s.ρ o.dst undS, s.H, s.c, s.dn, dsO o.dst s.ds, s.df⟩) (.ff 20022 [o])
def drStep (n : Nat) (ol : List Oper) (N i : Nat) (acs : List AC) (s : VS σ) (o : Oper) (k : AC → VS σ → VT) : VT := match guardV ol s.ρ o with
  | none => (.ff 20024 [o])
  | some .run => drRun X cons wr n ol N i acs s o k
  | some .off => drOff n i s o k
  | some (.tst d b want) => .br b (cond want (drRun X cons wr n ol N i acs { s with ρ := updV s.ρ d (.bool true) } o k) (drOff n i { s with ρ := updV s.ρ d (.bool true) } o k))
      (cond want (drOff n i { s with ρ := updV s.ρ d (.bool false) } o k) (drRun X cons wr n ol N i acs { s with ρ := updV s.ρ d (.bool false) } o k))
def drV (n : Nat) (ol : List Oper) (N : Nat) : List Oper → Nat → List AC → VS σ → (VS σ → VT) → VT
  | [], i, acs, s, K => K s
  | o :: r, i, acs, s, K => drStep X cons wr n ol N i acs s o fun ac s => drV n ol N r (i + 1) (ac :: acs) s K
end
section
variable {Tab : Ghost → Prop} {X : Cx P D} {cons : Cons σ} {wr : Nat → Bool} {n : Nat} {ops : Array Oper} {Q : Exit → Act → World → Prop}
theorem guard_fits {φ : Ph} {h : Ghost} {ρt ρ : Slots σ} {a : Act} {o : Oper} {q : GV} (hg : guardV ops.toList ρt o = some q) (hl : ∀ t ∈ o.looksAt ops, ρ t = ρt t) (he : ERel D.kd φ h ρ (en a) (fun _ => True)) : Region.wanted o (yielded ops a.tmps) = q.told :=
  (guardV_ok (kd := D.kd) (φ := φ) (h := h) (ρ := ρ) hg (fun j want oj d v h1 h2 h3 h4 => he d v trivial (by rw [hl d (looks_guard h1 h2 h3)]; exact h4))).1
theorem guard_slot {ρt : Slots σ} {o : Oper} {d : Nat} {b want : Bool} {ol : List Oper} (hg : guardV ol ρt o = some (.tst d b want)) : ρt d = some (.bool b) := by
  unfold guardV at hg
  split at hg
  · injection hg with hg; cases hg
  · split at hg
    · split at hg
      · split at hg
        · rename_i b' hb; injection hg with hg; injection hg with e1 e2 e3; subst e1; subst e2; exact hb
        · injection hg with hg; cases hg
        · cases hg
      · cases hg
    · cases hg
theorem run_ok (hTab : ∀ h h', Le h h' → Tab h → Tab h') (hT : Tab base.h0) (hcons : ConsOK P D Tab cons) {s : VS σ} {i : Nat} {o : Oper} {r : OR σ} (ho : ops[i]? = some o) (hg : ∀ (φ : Ph) (h : Ghost) (ρ : Slots σ) (a : Act), (∀ t ∈ o.looksAt ops, ρ t = s.ρ t) → ERel D.kd φ h ρ (en a) (fun _ => True) → Region.wanted o (yielded ops a.tmps) = true)
    (hop : opV X cons wr s.ρ s.H s.c o = some r) (hp : Holds r.pre) (hd : ∀ d, o.dst = some d → d < n) : SOK P D base w0 n ops Q ⟨i, r.F, s.c, r.c', s.H, r.ups, s.ρ, o, r.v⟩ := by
  intro φ h g ρ a w K hfit R he hn hf hk
  obtain ⟨hf1, hf2⟩ := hfit
  have hf1 : ∀ b ∈ r.F, g b = s.H b := hf1
  have hf2 : ∀ t ∈ o.looksAt ops, ρ t = s.ρ t := hf2
  show wpOp P ops Q i K a w
  unfold wpOp
  simp only [ho, hg φ h ρ a hf2 he, if_true]
  left
  obtain ⟨_, k2⟩ := opV_ok (base := base) (w0 := w0) hTab hT hcons hop
  have hρ1 : ERel D.kd φ h s.ρ (en a) (fun t => t ∈ o.looksAt ops) := fun t u hS ht => he t u trivial (by rw [hf2 t hS]; exact ht)
  refine (k2 hp).2 φ h g w a _ looks_op hρ1 R hf1 hf _ _ fun φ' h' w' V hs hV => ?_
  obtain ⟨e1, e2⟩ := erel_upd (dst := o.dst) he hs.ple hs.le hn hd hV
  exact hk φ' h' _ w' hs e1 e2 (by cases o.dst <;> rfl)
theorem off_ok {s : VS σ} {i : Nat} {o : Oper} (ho : ops[i]? = some o) (hg : ∀ (φ : Ph) (h : Ghost) (ρ : Slots σ) (a : Act), (∀ t ∈ o.looksAt ops, ρ t = s.ρ t) → ERel D.kd φ h ρ (en a) (fun _ => True) → Region.wanted o (yielded ops a.tmps) = false)
    (hd : ∀ d, o.dst = some d → d < n) : SOK P D base w0 n ops Q ⟨i, [], s.c, s.c, s.H, [], s.ρ, o, undS⟩ := by
  intro φ h g ρ a w K hfit R he hn hf hk
  obtain ⟨_, hf2⟩ := hfit
  have hf2 : ∀ t ∈ o.looksAt ops, ρ t = s.ρ t := hf2
  show wpOp P ops Q i K a w
  unfold wpOp
  simp only [ho, hg φ h ρ a hf2 he, Bool.false_eq_true, if_false]
  obtain ⟨e1, e2⟩ := erel_upd (dst := o.dst) he (PLe.refl φ) (Le.refl h) hn hd undS_ok
  exact hk φ h _ w (Step.refl R s.c) e1 e2 (by cases o.dst <;> rfl)
structure Since (s s' : VS σ) : Prop where
  cle : s.c ≤ s'.c
  hh : ∀ m, m ∉ s'.dn → s'.H m = s.H m ∧ m ∉ s.dn
  ss : ∀ t, t ∉ s'.ds → s'.ρ t = s.ρ t ∧ t ∉ s.ds
  df : s'.df = s.df
theorem Since.refl (s : VS σ) : Since s s := ⟨Nat.le_refl _, fun m hm => ⟨rfl, hm⟩, fun t ht => ⟨rfl, ht⟩, rfl⟩
theorem Since.trans {s s' s'' : VS σ} (h : Since s s') (k : Since s' s'') : Since s s'' :=
  ⟨Nat.le_trans h.cle k.cle, fun m hm => ⟨(k.hh m hm).1.trans (h.hh m (k.hh m hm).2).1, (h.hh m (k.hh m hm).2).2⟩, fun t ht => ⟨(k.ss t ht).1.trans (h.ss t (k.ss t ht).2).1, (h.ss t (k.ss t ht).2).2⟩, k.df.trans h.df⟩
theorem Since.step (s : VS σ) {dst : Option Nat} {v : SVs σ} {u : Ups σ} {c' : Nat} (hc : s.c ≤ c') : Since s ⟨upO s.ρ dst v, appU u s.H, c', keysU u s.dn, dsO dst s.ds, s.df⟩ :=
  ⟨hc, fun m hm => by
    have hm : m ∉ keysU u s.dn := hm
    rw [keysU_mem, not_or] at hm
    exact ⟨appU_ne (fun p hp e => hm.1 ⟨p, hp, e⟩), hm.2⟩, fun t ht => dsO_up ht, rfl⟩
theorem drV_chain (hTab : ∀ h h', Le h h' → Tab h → Tab h') (hT : Tab base.h0) (hcons : ConsOK P D Tab cons) {N : Nat} {K : VS σ → VT} : ∀ (r : List Oper) (i : Nat) (acs : List AC) (s : VS σ), (∀ k, r[k]? = ops[i + k]?) → (drV X cons wr n ops.toList N r i acs s K).H →
    ∃ (L : List (SAc σ)) (s' : VS σ), (K s').H ∧ Since s s' ∧ AChain ops L s.H s.ρ s'.H s'.ρ ∧ L.map (fun x => x.i) = List.range' i r.length ∧ (∀ x ∈ L, ops[x.i]? = some x.o ∧ SOK P D base w0 n ops Q x ∧ s.c ≤ x.c0 ∧ x.c0 ≤ x.c1 ∧ x.c1 ≤ s'.c) ∧
      L.Pairwise (fun x y => x.c1 ≤ y.c0) ∧ L.Pairwise (fun x y => ncB x.ac y.ac = true ∨ ordB ops.toList N y.i x.i = true) ∧ (∀ x ∈ L, ∀ z ∈ acs, ncB z x.ac = true ∨ ordB ops.toList N x.i z.i = true) := by
  intro r
  induction r with
  | nil =>
    intro i acs s hr h
    exact ⟨[], s, h, Since.refl s, ⟨rfl, rfl⟩, rfl, (fun x hx => by cases hx), List.Pairwise.nil, List.Pairwise.nil, (fun x hx => by cases hx)⟩
  | cons o r ih =>
    intro i acs s hr h
    have ho : ops[i]? = some o := by have := hr 0; simpa using this.symm
    have hr' : ∀ k, r[k]? = ops[i + 1 + k]? := fun k => by have := hr (k + 1); rw [show i + 1 + k = i + (k + 1) by omega, ← this]; simp
    -- one step, then the others
    have stp : ∀ (s : VS σ) (x : SAc σ) (c' : Nat), x.i = i → x.o = o → x.H = s.H → x.ins = s.ρ → x.c0 = s.c → x.c1 = c' → s.c ≤ c' → SOK P D base w0 n ops Q x → freeB ops.toList N x.ac acs = true →
        (drV X cons wr n ops.toList N r (i + 1) (x.ac :: acs) ⟨upO s.ρ o.dst x.v, appU x.ups s.H, c', keysU x.ups s.dn, dsO o.dst s.ds, s.df⟩ K).H →
        ∃ (L : List (SAc σ)) (s' : VS σ), (K s').H ∧ Since s s' ∧ AChain ops L s.H s.ρ s'.H s'.ρ ∧ L.map (fun x => x.i) = List.range' i (o :: r).length ∧ (∀ x ∈ L, ops[x.i]? = some x.o ∧ SOK P D base w0 n ops Q x ∧ s.c ≤ x.c0 ∧ x.c0 ≤ x.c1 ∧ x.c1 ≤ s'.c) ∧
      L.Pairwise (fun x y => x.c1 ≤ y.c0) ∧ L.Pairwise (fun x y => ncB x.ac y.ac = true ∨ ordB ops.toList N y.i x.i = true) ∧ (∀ x ∈ L, ∀ z ∈ acs, ncB z x.ac = true ∨ ordB ops.toList N x.i z.i = true) := by
      intro s x c' e1 e2 e3 e4 e5 e6 hle hS hfr hv
      obtain ⟨L, s', q0, q00, q1, q2, q3, q4, q5, q6⟩ := ih (i + 1) _ _ hr' hv
      have hmono := q00.cle
      have hmono : c' ≤ s'.c := hmono
      refine ⟨x :: L, s', q0, (Since.step s (dst := o.dst) (v := x.v) (u := x.ups) hle).trans q00, ⟨⟨fun b _ => by rw [e3], fun t _ => by rw [e4]⟩, ?_⟩, ?_, fun y hy => ?_, List.pairwise_cons.2 ⟨fun y hy => ?_, q4⟩, List.pairwise_cons.2 ⟨fun y hy => q6 y hy x.ac (by simp), q5⟩, fun y hy z hz => ?_⟩
      · unfold SAc.eff; rw [e2]; exact q1
      · rw [List.map_cons, q2, List.length_cons, List.range'_succ, e1]
      · rcases List.mem_cons.1 hy with e | e
        · subst e; exact ⟨by rw [e1, e2]; exact ho, hS, by rw [e5]; exact Nat.le_refl _, by rw [e5, e6]; exact hle, by rw [e6]; exact hmono⟩
        · obtain ⟨a1, a2, a3, a4, a5⟩ := q3 y e
          exact ⟨a1, a2, Nat.le_trans hle a3, a4, a5⟩
      · rw [e6]; exact (q3 y hy).2.2.1
      · rcases List.mem_cons.1 hy with e | e
        · subst e; exact freeB_ok hfr z hz
        · exact q6 y e z (List.mem_cons_of_mem _ hz)
    have run : ∀ s, (drRun X cons wr n ops.toList N i acs s o fun ac s => drV X cons wr n ops.toList N r (i + 1) (ac :: acs) s K).H → (∀ (φ : Ph) (h : Ghost) (ρ : Slots σ) (a : Act), (∀ t ∈ o.looksAt ops, ρ t = s.ρ t) → ERel D.kd φ h ρ (en a) (fun _ => True) → Region.wanted o (yielded ops a.tmps) = true) → _ := fun s hv hg => by
      unfold drRun at hv
      cases hd : inO n o.dst with
      | false => rw [hd] at hv; exact hv.elim
      | true =>
        rw [hd] at hv; simp only [cond_true] at hv
        split at hv
        · exact hv.elim
        · rename_i rr hop
          cases hfr : freeB ops.toList N ⟨i, rr.F, keysU rr.ups []⟩ acs with
          | false => rw [hfr] at hv; exact hv.elim
          | true =>
            rw [hfr] at hv; simp only [cond_true] at hv
            obtain ⟨k1, k2⟩ := opV_ok (base := base) (w0 := w0) hTab hT hcons hop
            obtain ⟨hp, hv⟩ := chkL_H hv
            have hv := asmL_H hv (k2 hp).1
            exact stp s ⟨i, rr.F, s.c, rr.c', s.H, rr.ups, s.ρ, o, rr.v⟩ rr.c' rfl rfl rfl rfl rfl rfl k1 (run_ok hTab hT hcons ho hg hop hp (inO_ok hd)) hfr hv
    have off : ∀ s, (drOff n i s o fun ac s => drV X cons wr n ops.toList N r (i + 1) (ac :: acs) s K).H → (∀ (φ : Ph) (h : Ghost) (ρ : Slots σ) (a : Act), (∀ t ∈ o.looksAt ops, ρ t = s.ρ t) → ERel D.kd φ h ρ (en a) (fun _ => True) → Region.wanted o (yielded ops a.tmps) = false) → _ := fun s hv hg => by
      unfold drOff at hv
      cases hd : inO n o.dst with
      | false => rw [hd] at hv; exact hv.elim
      | true =>
        rw [hd] at hv; simp only [cond_true] at hv
        refine stp s ⟨i, [], s.c, s.c, s.H, [], s.ρ, o, undS⟩ s.c rfl rfl rfl rfl rfl rfl (Nat.le_refl _) (off_ok ho hg (inO_ok hd)) ?_ hv
        have : ∀ acs : List AC, freeB ops.toList N ⟨i, [], []⟩ acs = true := fun acs => by
          induction acs with
          | nil => rfl
          | cons z l ih2 =>
            unfold freeB
            rw [ih2, Bool.and_true, Bool.or_eq_true]
            left
            unfold ncB
            simp [memB]
        exact this acs
    have hv : (drStep X cons wr n ops.toList N i acs s o fun ac s => drV X cons wr n ops.toList N r (i + 1) (ac :: acs) s K).H := h
    unfold drStep at hv
    split at hv
    · exact hv.elim
    · rename_i hg
      exact run s hv fun φ h ρ a hl he => guard_fits hg hl he
    · rename_i hg
      exact off s hv fun φ h ρ a hl he => guard_fits hg hl he
    · rename_i d b want hg
      have g2 := guard_slot hg
      obtain ⟨v1, v2⟩ := VT.br_H hv
      have hs : ∀ b', b = b' → ({ s with ρ := updV s.ρ d (.bool b') } : VS σ) = s := fun b' e => by subst e; rw [updV_same g2]
      cases hb : b with
      | true =>
        have v1 := v1 hb
        rw [hs true hb] at v1
        cases want with
        | true => exact run s v1 fun φ h ρ a hl he => by rw [guard_fits hg hl he, hb]; rfl
        | false => exact off s v1 fun φ h ρ a hl he => by rw [guard_fits hg hl he, hb]; rfl
      | false =>
        have v2 := v2 hb
        rw [hs false hb] at v2
        cases want with
        | true => exact off s v2 fun φ h ρ a hl he => by rw [guard_fits hg hl he, hb]; rfl
        | false => exact run s v2 fun φ h ρ a hl he => by rw [guard_fits hg hl he, hb]; rfl
theorem VRel.grow {φ : Ph} {h : Ghost} {g : HFs σ} {w w' : World} (R : VRel D.kd base w0 φ h g w) (hc : Chg w w' (fun _ => False)) : VRel D.kd base w0 φ h g w' := by
  obtain ⟨N, h1, S⟩ := R.st
  have S' := S.keep hc
  refine ⟨N, h1, S'.below, S'.bsz, S'.ghost, S'.dom, ?_⟩
  obtain ⟨Fs, hF, hD⟩ := (S.fresh (A0 := emp) hc trivial).sep
  refine ⟨Fs, fun i A hi => ?_, fun i j hi hj hij => ?_⟩
  · have hil : i < (LN D.kd φ g N).length := (List.getElem?_eq_some_iff.1 hi).1
    exact hF i A (by rw [List.getElem?_append_left hil]; exact hi)
  · exact hD i j (by rw [List.length_append]; omega) (by rw [List.length_append]; omega) hij
theorem drawn_sound (hm : P.follows .mixedOrders = true) (hTab : ∀ h h', Le h h' → Tab h → Tab h') (hT : Tab base.h0) (hcons : ConsOK P D Tab cons) {B : VB σ} {K : VS σ → VT} (hK : ∀ s φ h a w, (K s).H → SRel D base w0 B n φ h s a w → Q .normal a w)
    {id N : Nat} {s : VS σ} {φ : Ph} {h : Ghost} {a : Act} {w : World} (hst : statB ops ops.toList N ops.toList 0 = true) (hv : (drV X cons wr n ops.toList N ops.toList 0 [] s K).H) (S : SRel D base w0 B n φ h s a w) : (Code.region id ops true).wp P Q a w := by
  refine wp_region_any hm ?_
  have hdraw : Chg w { w with drawn := w.drawn + 1 } (fun _ => False) := ⟨rfl, rfl, rfl, Nat.le_refl _, fun _ _ _ => rfl⟩
  have R' := S.mem.grow hdraw
  obtain ⟨L, s', q0, q00, q1, q2, q3, q4, q5, _⟩ := drV_chain (Q := Q) (base := base) (w0 := w0) hTab hT hcons ops.toList 0 [] s (fun k => by simp) hv
  have hstat := statB_ok hst (fun k => by simp)
  have hlen : L.length = ops.size := by
    have := congrArg List.length q2; simpa using this
  have hidx : ∀ k (hk : k < L.length), (L[k]).i = k := fun k hk => by
    have := congrArg (fun l => l[k]?) q2
    simp only [List.getElem?_map, List.getElem?_eq_getElem hk, Option.map_some] at this
    rw [List.getElem?_range' (by simp; omega)] at this
    simpa using this
  have hsort : L.Pairwise (fun x y => x.i < y.i) := by
    rw [List.pairwise_iff_getElem]
    intro i j hi hj hij
    rw [hidx i hi, hidx j hj]; exact hij
  refine any_sound (D := D) (base := base) (w0 := w0) (n := n) (N := N) (gf := s'.H) (ρf := s'.ρ) (φ0 := φ) (h0 := h) (cS := s.c) (cE := s'.c) (ds := a.defers) (fun j o ho => (hstat j o (Nat.zero_le _) ho).1)
    (fun φ' h' a' w' hs he hn hd => ?_) ops.size L (Array.replicate ops.size false) s.H s.ρ φ h a _ hlen (by simp) (fun i hi _ => ?_) (fun x hx => ?_) hsort q4 ?_ (fun z o hz hl => ?_) (fun x hx => (q3 x hx).2.1) (fun x hx => ?_) q1 ⟨PLe.refl φ, fun _ _ => rfl, Le.refl h, R'⟩ S.env S.size rfl
  · refine hK s' φ' h' a' w' q0 ⟨hs.rel, he, hn, fun m hm => ?_, Nat.le_trans S.low q00.cle, fun m hm => ?_, fun m hm => ?_, fun t ht => ?_, ?_⟩
    · have := q00.cle
      rw [hs.same m (by omega)]; exact S.dead m (by omega)
    · have := S.low
      rw [hs.same m (by omega)]; exact S.keep m hm
    · exact (q00.hh m hm).1.trans (S.dirtyH m (q00.hh m hm).2)
    · exact (q00.ss t ht).1.trans (S.dirtyS t (q00.ss t ht).2)
    · rw [q00.df, hd]; exact S.dfs.mono hs.ple hs.le
  · have hiL : i < L.length := by omega
    exact ⟨L[i], List.getElem_mem _, hidx i hiL⟩
  · obtain ⟨a1, _⟩ := q3 x hx
    have := (Array.getElem?_eq_some_iff.1 a1).1
    refine ⟨?_, a1⟩
    simp [Array.getD_eq_getD_getElem?, this]
  · refine (List.pairwise_iff_getElem.2 fun i j hi hj hij => ?_)
    have hp := List.pairwise_iff_getElem.1 q5 i j hi hj hij
    have ai := (q3 _ (List.getElem_mem hi)).1
    have aj := (q3 _ (List.getElem_mem hj)).1
    have hs := (hstat _ _ (Nat.zero_le _) aj).2 (L[i]).i _ (by rw [hidx i hi, hidx j hj]; exact hij) ai
    rcases hp with h1 | h1
    · rcases hs with h2 | h2
      · exact .inl ⟨may_of h1, h2⟩
      · exact .inr h2
    · exact .inr h1
  · have hz' := (Array.getElem?_eq_some_iff.1 hz).1
    simp [Array.getD_eq_getD_getElem?, hz'] at hl
  · obtain ⟨_, _, a3, a4, a5⟩ := q3 x hx
    exact ⟨fun m hm _ => S.dead m (by omega), a3, a4, a5⟩
end
end Gx
namespace Gx
open Go Go.RowKit
set_option linter.unusedSimpArgs false
set_option linter.unusedVariables false
variable {σ : Nat → Type} [∀ i, Inhabited (Ty σ i)] {P : Program} {D : Df (Ty σ)} {base : Bgn} {w0 : World}
section
variable {τ : Nat → Type}
mutual
def SV.lt (c : Nat) : SV τ → Prop
  | .nm n => n < c
  | .ptr n _ => n < c
  | .pa n _ _ _ => n < c
  | .el n _ _ _ => n < c
  | .agg l => belowL c l
  | .tup l => belowL c l
  | .fn _ l => belowL c l
  | .ifc _ x => SV.lt c x
  | _ => True
def belowL (c : Nat) : List (SV τ) → Prop
  | [] => True
  | v :: l => SV.lt c v ∧ belowL c l
end
variable {kd : ∀ i, Kd (τ i)} {φ ψ : Ph} {h : Ghost} {c : Nat}
theorem lt_of {n : Nat} {v : Value} (hd : ∀ m, c ≤ m → φ m = none) (h : φ n = some v) : n < c := by
  rcases Nat.lt_or_ge n c with e | e
  · exact e
  · rw [hd n e] at h; cases h
mutual
theorem VR_lt (hd : ∀ m, c ≤ m → φ m = none) : ∀ (v : SV τ) (V : Value), VR kd φ h v V → SV.lt c v
  | .int _ _, V, e => by unfold SV.lt; trivial
  | .bool _, V, e => by unfold SV.lt; trivial
  | .str _, V, e => by unfold SV.lt; trivial
  | .fl _ _, V, e => by unfold SV.lt; trivial
  | .rs _ _, V, e => by unfold SV.lt; trivial
  | .ea _ _ _, V, e => by unfold SV.lt; trivial
  | .raw _, V, e => by unfold SV.lt; trivial
  | .nm n, V, e => by rw [VR] at e; unfold SV.lt; exact lt_of hd e.1
  | .ptr n o, V, e => by rw [VR] at e; obtain ⟨x, h1, _⟩ := e; unfold SV.lt; exact lt_of hd h1
  | .pa n o m i, V, e => by rw [VR] at e; obtain ⟨x, h1, _⟩ := e; unfold SV.lt; exact lt_of hd h1
  | .el n i sz o, V, e => by rw [VR] at e; obtain ⟨A, len, q, h1, _⟩ := e; unfold SV.lt; exact lt_of hd h1
  | .agg l, V, e => by rw [VR] at e; obtain ⟨cs, _, h2⟩ := e; unfold SV.lt; exact CR_lt hd l cs h2
  | .tup l, V, e => by rw [VR] at e; obtain ⟨cs, _, h2⟩ := e; unfold SV.lt; exact LR_lt hd l cs h2
  | .fn f l, V, e => by rw [VR] at e; obtain ⟨cs, _, h2⟩ := e; unfold SV.lt; exact LR_lt hd l cs h2
  | .ifc t x, V, e => by rw [VR] at e; obtain ⟨u, _, h2⟩ := e; unfold SV.lt; exact VR_lt hd x u h2
theorem LR_lt (hd : ∀ m, c ≤ m → φ m = none) : ∀ (l : List (SV τ)) (vs : List Value), LR kd φ h l vs → belowL c l
  | [], vs, e => by unfold belowL; trivial
  | v :: l, vs, e => by rw [LR] at e; obtain ⟨x, xs, _, h2, h3⟩ := e; unfold belowL; exact ⟨VR_lt hd v x h2, LR_lt hd l xs h3⟩
theorem CR_lt (hd : ∀ m, c ≤ m → φ m = none) : ∀ (l : List (SV τ)) (cs : List Value), CR kd φ h l cs → belowL c l
  | [], cs, e => by unfold belowL; trivial
  | v :: l, cs, e => by
    rw [CR_cons] at e
    obtain ⟨c1, c2, _, h2, h3⟩ := e
    unfold belowL
    refine ⟨?_, CR_lt hd l c2 h3⟩
    have key : (∃ V, c1 = [V] ∧ VR kd φ h v V ∧ V.oneCell' = true) → SV.lt c v := fun ⟨V, _, b, _⟩ => VR_lt hd v V b
    unfold C1 at h2
    cases v with
    | fl i x => unfold SV.lt; trivial
    | _ => exact key h2
end
mutual
theorem VR_by (hp : ∀ n, n < c → ∀ v, φ n = some v → ψ n = some v) : ∀ (v : SV τ) (V : Value), SV.lt c v → VR kd φ h v V → VR kd ψ h v V
  | .int k t, V, l, e => by rw [VR] at e ⊢; exact e
  | .bool b, V, l, e => by rw [VR] at e ⊢; exact e
  | .str s, V, l, e => by rw [VR] at e ⊢; exact e
  | .fl i x, V, l, e => by rw [VR] at e ⊢; exact e
  | .rs i xs, V, l, e => by rw [VR] at e ⊢; exact e
  | .ea i x o, V, l, e => by rw [VR] at e ⊢; exact e
  | .raw v, V, l, e => by rw [VR] at e ⊢; exact e
  | .nm n, V, l, e => by unfold SV.lt at l; rw [VR] at e ⊢; exact ⟨hp n l V e.1, e.2⟩
  | .ptr n o, V, l, e => by unfold SV.lt at l; rw [VR] at e ⊢; obtain ⟨x, h1, h2⟩ := e; exact ⟨x, hp n l _ h1, h2⟩
  | .pa n o m i, V, l, e => by unfold SV.lt at l; rw [VR] at e ⊢; obtain ⟨x, h1, h2⟩ := e; exact ⟨x, hp n l _ h1, h2⟩
  | .el n i sz o, V, l, e => by unfold SV.lt at l; rw [VR] at e ⊢; obtain ⟨A, len, q, h1, h2⟩ := e; exact ⟨A, len, q, hp n l _ h1, h2⟩
  | .agg x, V, l, e => by unfold SV.lt at l; rw [VR] at e ⊢; obtain ⟨cs, h1, h2⟩ := e; exact ⟨cs, h1, CR_by hp x cs l h2⟩
  | .tup x, V, l, e => by unfold SV.lt at l; rw [VR] at e ⊢; obtain ⟨cs, h1, h2⟩ := e; exact ⟨cs, h1, LR_by hp x cs l h2⟩
  | .fn f x, V, l, e => by unfold SV.lt at l; rw [VR] at e ⊢; obtain ⟨cs, h1, h2⟩ := e; exact ⟨cs, h1, LR_by hp x cs l h2⟩
  | .ifc t x, V, l, e => by unfold SV.lt at l; rw [VR] at e ⊢; obtain ⟨u, h1, h2⟩ := e; exact ⟨u, h1, VR_by hp x u l h2⟩
theorem LR_by (hp : ∀ n, n < c → ∀ v, φ n = some v → ψ n = some v) : ∀ (l : List (SV τ)) (vs : List Value), belowL c l → LR kd φ h l vs → LR kd ψ h l vs
  | [], vs, l, e => by rw [LR] at e ⊢; exact e
  | v :: x, vs, l, e => by unfold belowL at l; rw [LR] at e ⊢; obtain ⟨y, ys, h1, h2, h3⟩ := e; exact ⟨y, ys, h1, VR_by hp v y l.1 h2, LR_by hp x ys l.2 h3⟩
theorem CR_by (hp : ∀ n, n < c → ∀ v, φ n = some v → ψ n = some v) : ∀ (l : List (SV τ)) (cs : List Value), belowL c l → CR kd φ h l cs → CR kd ψ h l cs
  | [], cs, l, e => by rw [CR] at e ⊢; exact e
  | v :: x, cs, l, e => by
    unfold belowL at l
    rw [CR_cons] at e ⊢
    obtain ⟨c1, c2, h1, h2, h3⟩ := e
    refine ⟨c1, c2, h1, ?_, CR_by hp x c2 l.2 h3⟩
    have key : (∃ V, c1 = [V] ∧ VR kd φ h v V ∧ V.oneCell' = true) → ∃ V, c1 = [V] ∧ VR kd ψ h v V ∧ V.oneCell' = true := fun ⟨V, a, b, q⟩ => ⟨V, a, VR_by hp v V l.1 b, q⟩
    unfold C1 at h2 ⊢
    cases v with
    | fl i x => exact h2
    | _ => exact key h2
end
end
section
variable {φ φ2 : Ph} {g2 H0 : HFs σ} {w : World} {h h2 : Ghost} {ns : List Nat} {c c1 c2 : Nat}
theorem moveOut {its : List IS} {shs : List Sh} {avs azs ids ads : List (SVs σ)} {rem1 rem2 u1 u2 : Ups σ} {F1 F2 : List Nat} (R : VRel D.kd base w0 φ2 h2 g2 w) (nd : ns.Nodup) (lt : ∀ n ∈ ns, n < c)
    (e1 : extIs D ns its ns g2 = some (ids, rem1, F1)) (e2 : extL (ext D ns shF) shs avs (appU rem1 g2) = some (ads, rem2, F2)) (i1 : insIs ns its ns ids c = some (u1, c1)) (i2 : insL (ins ns shF) shs ads c1 = some (azs, u2, c2)) :
    c ≤ c2 ∧ ∃ φ' h', Le h2 h' ∧ (∀ n, n < c → φ' n = φ2 n) ∧ (∀ n, c2 ≤ n → φ' n = none) ∧ V2 D.kd base w0 h' w φ2 (appU (rem1 ++ rem2) g2) φ' (appU (u1 ++ u2) noH) ∧ ∀ Vs, LR D.kd φ2 h2 avs Vs → LR D.kd φ' h' azs Vs := by
  have k1 := (insIs_keys _ _ _ _ _ _ i1).1
  obtain ⟨k2, mm⟩ := extL_ok (ext_ok (ns := ns) (ns' := ns) shF) _ _ _ _ _ _ _ _ _ _ e2 i2
  let φr : Ph := fun n => if n < c then φ2 n else none
  have r1 : ∀ n, n < c → φr n = φ2 n := fun n hn => by show (if n < c then φ2 n else none) = _; rw [if_pos hn]
  have r2 : ∀ n, c ≤ n → φr n = none := fun n hn => by show (if n < c then φ2 n else none) = _; rw [if_neg (by omega)]
  have hit : IT ns ns φ2 φr := fun j n e a1 a2 v hv => by
    rw [a1] at a2; injection a2 with a2; subst a2
    rw [r1 n (lt n (List.mem_of_getElem? a1))]; exact hv
  obtain ⟨⟨h1, φ1, s1⟩, _⟩ := extIs_ok its ns ns 0 _ _ _ _ _ _ _ e1 i1 (fun i n hn => by rw [Nat.zero_add]; exact hn) (fun i n hn => by rw [Nat.zero_add]; exact hn) nd lt h2 g2 noH φ2 φr (fun b _ => rfl) (V2.of R φr) (fun n a _ => r2 n a) hit (fun _ _ => rfl)
  obtain ⟨h', φ', s2, q⟩ := mm base w0 w h1 _ φ2 φ1 _ (fun b _ => rfl) s1.rel (fun n a b => by rw [s1.same n (by omega)]; exact r2 n (by omega)) (hit.mono s1.ple)
  refine ⟨Nat.le_trans k1 k2, φ', h', s1.le.trans s2.le, fun n hn => ?_, fun n hn => ?_, by rw [appU_app, appU_app]; exact s2.rel, fun Vs hV => q.1 Vs (LR.mono (PLe.refl φ2) s1.le _ _ hV)⟩
  · rw [s2.same n (by omega), s1.same n (by omega), r1 n hn]
  · rw [s2.same n (by omega), s1.same n (by omega), r2 n (by omega)]
structure HdOK (c : Nat) (ns : List Nat) (H0 : HFs σ) : Prop where
  void : ∀ n, c ≤ n → H0 n = none
  own : ∀ n ∈ ns, H0 n = none
  lt : ∀ n T l, H0 n = some (.box T l) → belowL c l
theorem HdOK.of (R : VRel D.kd base w0 φ h H0 w) (hd : ∀ m, c ≤ m → φ m = none) (ho : ∀ n ∈ ns, H0 n = none) : HdOK c ns H0 :=
  ⟨fun n hn => R.fresh (hd n hn), ho, fun n T l hb => by
    obtain ⟨x, cs, _, h2, _⟩ := R.box hb
    exact CR_lt hd l cs h2⟩
theorem backIn {rem u : Ups σ} (R : V2 D.kd base w0 h w φ2 (appU rem g2) φ (appU u noH)) (hd : HdOK c ns H0) (hφ : ∀ n, n < c → φ n = φ2 n) (hag : ∀ n, n < c → appU rem g2 n = H0 n) (hu : ∀ p ∈ u, p.1 ∈ ns ∨ c ≤ p.1) : VRel D.kd base w0 φ h (appU u H0) w := by
  have R1 := R.leftBy (f := fun n => if n < c then H0 n else none) (ψ := φ) (fun n => by
    by_cases hn : n < c
    · right
      simp only [if_pos hn]
      exact ⟨(hag n hn).symm, fun v hv => by rw [hφ n hn]; exact hv⟩
    · left; simp only [if_neg hn]) (fun n T l hb cs hcs => by
    by_cases hn : n < c
    · simp only [if_pos hn] at hb
      exact CR_by (fun m hm v hv => by rw [hφ m hm]; exact hv) l cs (hd.lt n T l hb) hcs
    · simp only [if_neg hn] at hb; cases hb)
  refine R1.merge (f := appU u H0) (ψ := φ) fun n => ?_
  by_cases hk : ∃ p ∈ u, p.1 = n
  · left
    refine ⟨?_, appU_cong (.inl hk), fun _ _ _ _ h => h⟩
    obtain ⟨p, hp, rfl⟩ := hk
    rcases hu p hp with h1 | h1
    · by_cases hn : p.1 < c
      · simp only [if_pos hn]; exact hd.own _ h1
      · simp only [if_neg hn]
    · simp only [if_neg (show ¬ p.1 < c by omega)]
  · right
    have hne : ∀ p ∈ u, p.1 ≠ n := fun p hp e => hk ⟨p, hp, e⟩
    refine ⟨by rw [appU_ne hne]; rfl, ?_, fun _ _ _ _ h => h⟩
    rw [appU_ne hne]
    by_cases hn : n < c
    · simp only [if_pos hn]
    · simp only [if_neg hn]; exact hd.void n (by omega)
end
def factV (D : Df (Ty σ)) : Nat → SVs σ → List Prop
  | 0, _ => []
  | f + 1, v => match v with
    | .int k t => [inK k t]
    | .str s => [s.size ≤ maxLen]
    | .fl i x => [D.wt i x]
    | .rs i xs => [wtL D i xs]
    | .agg l => factL (factV D f) l
    | .tup l => factL (factV D f) l
    | .ea i x _ => [D.wt i x]
    | _ => []
where factL (rec : SVs σ → List Prop) : List (SVs σ) → List Prop
  | [] => []
  | v :: l => rec v ++ factL rec l
def factA (D : Df (Ty σ)) : Option (SA (Ty σ)) → List Prop
  | some (.row _ i xs) => [wtL D i xs]
  | some (.fz i xs) => [wtL D i xs]
  | some (.box _ l) => factV.factL (factV D 3) l
  | none => []
def factH (D : Df (Ty σ)) (H : HFs σ) : List Nat → List Prop
  | [] => []
  | n :: l => factA D (H n) ++ factH D H l
def factS (D : Df (Ty σ)) : List (SVs σ) → List Prop := factV.factL (factV D 3)
theorem holds_app {l m : List Prop} (h1 : Holds l) (h2 : Holds m) : Holds (l ++ m) := fun p hp => (List.mem_append.1 hp).elim (h1 p) (h2 p)
section
variable {φ : Ph} {h : Ghost} {H : HFs σ} {w : World}
theorem factL_LR {rec : SVs σ → List Prop} (hr : ∀ v V, VR D.kd φ h v V → Holds (rec v)) : ∀ (l : List (SVs σ)) (vs : List Value), LR D.kd φ h l vs → Holds (factV.factL rec l)
  | [], vs, e => fun p hp => (by cases hp)
  | v :: l, vs, e => by
    obtain ⟨x, xs, _, h2, h3⟩ := LR_cons.1 e
    unfold factV.factL
    exact holds_app (hr v x h2) (factL_LR hr l xs h3)
theorem factL_CR {rec : SVs σ → List Prop} (hr : ∀ v V, VR D.kd φ h v V → Holds (rec v)) : ∀ (l : List (SVs σ)) (vs : List Value), CR D.kd φ h l vs → Holds (factV.factL rec l)
  | [], vs, e => fun p hp => (by cases hp)
  | v :: l, vs, e => by
    obtain ⟨c1, c2, _, h2, h3⟩ := CR_cons.1 e
    unfold factV.factL
    refine holds_app ?_ (factL_CR hr l c2 h3)
    unfold C1 at h2
    cases v with
    | fl i x => exact hr _ (.agg c1.toArray) (by rw [VR]; exact ⟨c1, rfl, h2⟩)
    | _ => obtain ⟨V, _, h4, _⟩ := h2; exact hr _ V h4
theorem factV_ok : ∀ (f : Nat) (v : SVs σ) (V : Value), VR D.kd φ h v V → Holds (factV D f v)
  | 0, v, V, e => fun p hp => (by cases hp)
  | f + 1, v, V, e => by
    have one : ∀ {q : Prop}, q → Holds [q] := fun hq p hp => by rcases List.mem_cons.1 hp with e | e; (rw [e]; exact hq); cases e
    unfold factV
    split
    · rw [VR] at e; exact one e.2
    · rw [VR] at e; exact one e.2
    · rw [VR] at e; obtain ⟨seg, _, h1⟩ := e; exact one (D.wt_ok _ _ _ _ h1)
    · rw [VR] at e; obtain ⟨A, c, _, h1, h2, h3⟩ := e; exact one ⟨by omega, leads_wt h3⟩
    · rw [VR] at e; obtain ⟨cs, _, h2⟩ := e; exact factL_CR (factV_ok f) _ cs h2
    · rw [VR] at e; obtain ⟨cs, _, h2⟩ := e; exact factL_LR (factV_ok f) _ cs h2
    · rw [VR] at e; obtain ⟨seg, ad, h1, _⟩ := e; exact one (D.wt_ok _ _ _ _ h1)
    · exact fun p hp => (by cases hp)
theorem factH_ok (R : VRel D.kd base w0 φ h H w) : ∀ (l : List Nat), Holds (factH D H l)
  | [] => fun p hp => (by cases hp)
  | n :: l => by
    have one : ∀ {q : Prop}, q → Holds [q] := fun hq p hp => by rcases List.mem_cons.1 hp with e | e; (rw [e]; exact hq); cases e
    unfold factH
    refine holds_app ?_ (factH_ok R l)
    cases hn : H n with
    | none => exact fun p hp => (by cases hp)
    | some a =>
      cases a with
      | row T i xs => exact one (row_wt R hn)
      | fz i xs => exact one (fz_wt R hn)
      | box T l2 =>
        obtain ⟨x, cs, _, h2, _⟩ := R.box hn
        exact factL_CR (factV_ok 3) _ cs h2
theorem factS_ok {l : List (SVs σ)} {vs : List Value} (e : LR D.kd φ h l vs) : Holds (factS D l) := factL_LR (factV_ok 3) l vs e
end
end Gx
namespace Gx
open Go Go.RowKit
set_option linter.unusedSimpArgs false
set_option linter.unusedVariables false
variable {σ : Nat → Type} [∀ i, Inhabited (Ty σ i)] {P : Program} {D : Df (Ty σ)} {base : Bgn} {w0 : World}
def hvL (rec : Sh → (SVs σ → VT) → VT) : List Sh → (List (SVs σ) → VT) → VT
  | [], K => K []
  | s :: l, K => rec s fun d => hvL rec l fun ds => K (d :: ds)
def hv : Nat → Sh → (SVs σ → VT) → VT
  | 0, _, _ => (.ff 22013 [])
  | f + 1, sh, K => match sh with
    | .int k => .all Int fun t => K (.int k t)
    | .bool => .all Bool fun t => K (.bool t)
    | .str => .all ByteArray fun t => K (.str t)
    | .fl i => .all (Ty σ i) fun x => K (.fl i x)
    | .rs i => .all (List (Ty σ i)) fun x => K (.rs i x)
    | .row _ i => .all (List (Ty σ i)) fun x => K (.rs i x)
    | .agg l => hvL (hv f) l fun ds => K (.agg ds)
    | .tup l => hvL (hv f) l fun ds => K (.tup ds)
    | .fn g l => hvL (hv f) l fun ds => K (.fn g ds)
    | .raw v => K (.raw v)
    | .pt _ _ => K (.tup [])
    | .nmI _ => K (.tup [])
    | .ea i => .all (Ty σ i) fun x => K (.fl i x)
def hvI (it : IS) (K : SVs σ → VT) : VT := match it with
  | .row _ i => .all (List (Ty σ i)) fun x => K (.rs i x)
  | .box _ l => hvL (hv shF) l fun ds => K (.agg ds)
def hvIs : List IS → (List (SVs σ) → VT) → VT
  | [], K => K []
  | s :: l, K => hvI s fun d => hvIs l fun ds => K (d :: ds)
theorem hvL_H {rec : Sh → (SVs σ → VT) → VT} {ok : Sh → SVs σ → Bool} (hr : ∀ sh d K, (rec sh K).H → ok sh d = true → (K d).H) : ∀ (l : List Sh) (ds : List (SVs σ)) (K : List (SVs σ) → VT), (hvL rec l K).H → okDL ok l ds = true → (K ds).H
  | [], [], K, h, _ => h
  | [], _ :: _, K, _, e => by cases e
  | _ :: _, [], K, _, e => by cases e
  | s :: l, d :: r, K, h, e => by
    unfold okDL at e; rw [Bool.and_eq_true] at e
    unfold hvL at h
    exact hvL_H hr l r _ (hr s d _ h e.1) e.2
theorem hv_H : ∀ (f : Nat) (sh : Sh) (d : SVs σ) (K : SVs σ → VT), (hv f sh K).H → okD f sh d = true → (K d).H
  | 0, sh, d, K, h, _ => h.elim
  | f + 1, sh, d, K, h, e => by
    unfold okD at e
    unfold hv at h
    split at e
    · rename_i k k' t; have := of_decide_eq_true e; subst this; exact h t
    · exact h _
    · exact h _
    · have := Nat.eq_of_beq_eq_true e; subst this; exact h _
    · have := Nat.eq_of_beq_eq_true e; subst this; exact h _
    · have := Nat.eq_of_beq_eq_true e; subst this; exact h _
    · exact hvL_H (hv_H f) _ _ _ h e
    · exact hvL_H (hv_H f) _ _ _ h e
    · rw [Bool.and_eq_true] at e
      have := Nat.eq_of_beq_eq_true e.1; subst this
      exact hvL_H (hv_H f) _ _ _ h e.2
    · have := rawEq_ok e; subst this; exact h
    · exact h
    · exact h
    · have := Nat.eq_of_beq_eq_true e; subst this; exact h _
    · cases e
theorem hvI_H {it : IS} {d : SVs σ} {K : SVs σ → VT} (h : (hvI it K).H) (e : okI it d = true) : (K d).H := by
  unfold okI at e
  unfold hvI at h
  split at e
  · have := Nat.eq_of_beq_eq_true e; subst this; exact h _
  · exact hvL_H (hv_H shF) _ _ _ h e
  · cases e
theorem hvIs_H : ∀ (l : List IS) (ds : List (SVs σ)) (K : List (SVs σ) → VT), (hvIs l K).H → okIs l ds = true → (K ds).H
  | [], [], K, h, _ => h
  | [], _ :: _, K, _, e => by cases e
  | _ :: _, [], K, _, e => by cases e
  | s :: l, d :: r, K, h, e => by
    unfold okIs at e; rw [Bool.and_eq_true] at e
    unfold hvIs at h
    exact hvIs_H l r _ (hvI_H h e.1) e.2
def dropS (l : List Nat) (ρ : Slots σ) : Slots σ := fun t => cond (memB t l) none (ρ t)
def putSl : List Nat → List (SVs σ) → Slots σ → Slots σ
  | t :: l, v :: r, ρ => putSl l r (updV ρ t v)
  | _, _, ρ => ρ
def evSl (ρ : Slots σ) : List Nat → Option (List (SVs σ))
  | [] => some []
  | t :: l => match ρ t, evSl ρ l with
    | some v, some r => some (v :: r)
    | _, _ => none
section
variable {kd : ∀ i, Kd (Ty σ i)} {φ : Ph} {h : Ghost} {ρ : Slots σ} {e : Env}
theorem evSl_ok (hρ : ERel kd φ h ρ e (fun _ => True)) : ∀ {l : List Nat} {vs : List (SVs σ)}, evSl ρ l = some vs → LR kd φ h vs (l.map e)
  | [], vs, hh => by unfold evSl at hh; injection hh with hh; subst hh; exact LR_nil.2 rfl
  | t :: l, vs, hh => by
    unfold evSl at hh
    split at hh
    · rename_i v r h1 h2
      injection hh with hh; subst hh
      exact LR_cons.2 ⟨_, _, rfl, hρ t v trivial h1, evSl_ok hρ h2⟩
    · cases hh
theorem putSl_ok : ∀ {l : List Nat} {vs : List (SVs σ)} {ρ : Slots σ}, ERel kd φ h ρ e (fun _ => True) → LR kd φ h vs (l.map e) → ERel kd φ h (putSl l vs ρ) e (fun _ => True)
  | [], vs, ρ, hρ, _ => by unfold putSl; exact hρ
  | t :: l, [], ρ, hρ, _ => by unfold putSl; exact hρ
  | t :: l, v :: r, ρ, hρ, hv => by
    unfold putSl
    obtain ⟨x, xs, e1, h1, h2⟩ := LR_cons.1 hv
    rw [List.map_cons] at e1; injection e1 with e1 e2; subst e1; subst e2
    refine putSl_ok (fun u w hS hu => ?_) h2
    by_cases e3 : u = t
    · subst e3; rw [updV_eq] at hu; injection hu with hu; subst hu; exact h1
    · rw [updV_ne _ _ e3] at hu; exact hρ u w hS hu
theorem dropS_some {l : List Nat} {t : Nat} {v : SVs σ} (hh : dropS l ρ t = some v) : ρ t = some v ∧ t ∉ l := by
  unfold dropS at hh
  cases hb : memB t l with
  | true => rw [hb] at hh; cases hh
  | false => rw [hb] at hh; exact ⟨hh, fun hm => by rw [memB_iff.2 hm] at hb; cases hb⟩
theorem putSl_ne : ∀ {l : List Nat} {vs : List (SVs σ)} {ρ : Slots σ} {t : Nat}, t ∉ l → putSl l vs ρ t = ρ t
  | [], vs, ρ, t, _ => by unfold putSl; rfl
  | u :: l, [], ρ, t, _ => by unfold putSl; rfl
  | u :: l, v :: r, ρ, t, ht => by
    unfold putSl
    rw [List.mem_cons, not_or] at ht
    rw [putSl_ne ht.2, updV_ne _ _ ht.1]
end
structure LoopH (σ : Nat → Type) where
  slots : List Nat
  shs : List Sh
  drop : List Nat
  ns : List Nat
  its : List IS
  see : List Nat
  inv : List (SVs σ) → List (SVs σ) → List (SVs σ) → List Prop
  meas : List (SVs σ) → List (SVs σ) → List (SVs σ) → Nat
  /-- slots whose names are kept -/
  nsl : List Nat
def nmOf (ρ : Slots σ) : List Nat → List Nat
  | [] => []
  | t :: l => match ρ t with
    | some (.nm n) => n :: nmOf ρ l
    | some (.ptr n _) => n :: nmOf ρ l
    | _ => nmOf ρ l
def LoopH.at (lh : LoopH σ) (ρ : Slots σ) : LoopH σ := ⟨lh.slots, lh.shs, lh.drop, lh.ns ++ nmOf ρ lh.nsl, lh.its, lh.see, lh.inv, lh.meas, []⟩
def outS (D : Df (Ty σ)) (lh : LoopH σ) (ρ : Slots σ) (H : HFs σ) : Option (List (SVs σ) × List (SVs σ) × Ups σ) := match evSl ρ lh.slots, extIs D lh.ns lh.its lh.ns H with
  | some avs, some (ids, rem1, _) => match extL (ext D lh.ns shF) lh.shs avs (appU rem1 H) with
    | some (ads, rem2, _) => if okIs lh.its ids && okDL (okD shF) lh.shs ads then some (ids, ads, rem1 ++ rem2) else none
    | none => none
  | _, _ => none
def inS (lh : LoopH σ) (ρ0 : Slots σ) (H0 : HFs σ) (c : Nat) (ids ads : List (SVs σ)) : Option (VS σ × Ups σ × List (SVs σ)) := match insIs lh.ns lh.its lh.ns ids c with
  | some (u1, c1) => match insL (ins lh.ns shF) lh.shs ads c1 with
    | some (azs, u2, c2) => some (⟨putSl lh.slots azs ρ0, appU (u1 ++ u2) H0, c2, [], [], []⟩, u1 ++ u2, azs)
    | none => none
  | none => none
def noneB (o : Option (SA (Ty σ))) : Bool := match o with
  | none => true
  | some _ => false
theorem noneB_ok {o : Option (SA (Ty σ))} (h : noneB o = true) : o = none := by cases o with
  | none => rfl
  | some a => cases h
def backB (lh : LoopH σ) (c : Nat) (H0 H : HFs σ) (rem : Ups σ) (dn ds : List Nat) : Bool := (keysU rem dn).all (fun n => Nat.ble c n || (noneB (appU rem H n) && noneB (H0 n))) && ds.all (fun t => memB t (lh.slots ++ lh.drop))
def hdB (lh : LoopH σ) (c : Nat) : Bool := nodupB lh.ns && (lh.ns.all (fun n => Nat.blt n c) && Nat.beq lh.ns.length lh.its.length)
def hvC (lh : LoopH σ) (K : List (SVs σ) → List (SVs σ) → VT) : VT := hvIs lh.its fun ids => hvL (hv shF) lh.shs fun ads => K ids ads
theorem hvC_H {lh : LoopH σ} {K : List (SVs σ) → List (SVs σ) → VT} {ids ads : List (SVs σ)} (h : (hvC lh K).H) (h1 : okIs lh.its ids = true) (h2 : okDL (okD shF) lh.shs ads = true) : (K ids ads).H :=
  hvL_H (hv_H shF) _ _ _ (hvIs_H _ _ _ h h1) h2
section
variable {lh : LoopH σ} {B : VB σ} {n : Nat} {φ : Ph} {h : Ghost} {a : Act} {w : World} {H0 H : HFs σ} {ρ ρ0 : Slots σ} {ids ads : List (SVs σ)} {rem : Ups σ} {c : Nat}
theorem outS_some (e : outS D lh ρ H = some (ids, ads, rem)) : ∃ avs rem1 F1 rem2 F2, evSl ρ lh.slots = some avs ∧ extIs D lh.ns lh.its lh.ns H = some (ids, rem1, F1) ∧ extL (ext D lh.ns shF) lh.shs avs (appU rem1 H) = some (ads, rem2, F2) ∧ rem = rem1 ++ rem2 ∧ okIs lh.its ids = true ∧ okDL (okD shF) lh.shs ads = true := by
  unfold outS at e
  split at e
  · rename_i avs ids' rem1 F1 h1 h2
    split at e
    · rename_i ads' rem2 F2 h3
      split at e
      · rename_i hc
        rw [Bool.and_eq_true] at hc
        injection e with e; injection e with e1 e2; injection e2 with e2 e3; subst e1; subst e2; subst e3
        exact ⟨avs, rem1, F1, rem2, F2, h1, h2, h3, rfl, hc.1, hc.2⟩
      · cases e
    · cases e
  · cases e
theorem inS_some {s1 : VS σ} {u : Ups σ} {azs : List (SVs σ)} (e : inS lh ρ0 H0 c ids ads = some (s1, u, azs)) : ∃ u1 c1 u2, insIs lh.ns lh.its lh.ns ids c = some (u1, c1) ∧ insL (ins lh.ns shF) lh.shs ads c1 = some (azs, u2, s1.c) ∧ u = u1 ++ u2 ∧ s1 = ⟨putSl lh.slots azs ρ0, appU u H0, s1.c, [], [], []⟩ := by
  unfold inS at e
  split at e
  · rename_i u1 c1 h1
    split at e
    · rename_i azs' u2 c2 h2
      injection e with e; injection e with e1 e2; injection e2 with e2 e3; subst e1; subst e2; subst e3
      exact ⟨u1, c1, u2, h1, h2, rfl, rfl⟩
    · cases e
  · cases e
theorem hdB_ok (h : hdB lh c = true) : lh.ns.Nodup ∧ (∀ n ∈ lh.ns, n < c) ∧ lh.ns.length = lh.its.length := by
  unfold hdB at h
  rw [Bool.and_eq_true, Bool.and_eq_true] at h
  exact ⟨nodupB_ok h.1, fun n hn => by have := List.all_eq_true.1 h.2.1 n hn; simpa [Nat.blt_eq] using this, Nat.eq_of_beq_eq_true h.2.2⟩
theorem rem_own {rem1 rem2 : Ups σ} {F1 F2 : List Nat} {avs : List (SVs σ)} (hl : lh.ns.length = lh.its.length) (e1 : extIs D lh.ns lh.its lh.ns H = some (ids, rem1, F1)) (e2 : extL (ext D lh.ns shF) lh.shs avs (appU rem1 H) = some (ads, rem2, F2)) : ∀ n ∈ lh.ns, appU (rem1 ++ rem2) H n = none := by
  intro n hn
  obtain ⟨j, hj, rfl⟩ := List.mem_iff_getElem.1 hn
  have h1 := (extIs_nk lh.its lh.ns H H _ _ _ e1).2 j _ (by omega) (List.getElem?_eq_getElem hj)
  rw [appU_app, appU_ne (extL_nk (ext_nk shF) _ _ _ _ _ _ _ e2 h1)]
  exact h1
theorem enterS {g2 : HFs σ} {s1 : VS σ} {u : Ups σ} {azs avs : List (SVs σ)} {rem1 rem2 : Ups σ} {F1 F2 : List Nat} {c0 : Nat} (R : VRel D.kd base w0 φ h g2 w) (he : LR D.kd φ h avs (lh.slots.map (en a))) (hdB : hdB lh c = true)
    (e1 : extIs D lh.ns lh.its lh.ns g2 = some (ids, rem1, F1)) (e2 : extL (ext D lh.ns shF) lh.shs avs (appU rem1 g2) = some (ads, rem2, F2)) (i1 : inS lh ρ0 H0 c ids ads = some (s1, u, azs))
    (hk : ∀ h', Le h h' → VRel D.kd base w0 φ h' (appU (rem1 ++ rem2) g2) w → HdOK c lh.ns H0 ∧ ∀ t v, ρ0 t = some v → v.lt c) (hag : ∀ n, n < c → appU (rem1 ++ rem2) g2 n = H0 n) (hρ : ERel D.kd φ h ρ0 (en a) (fun _ => True)) (hkeep : ∀ m, m < c0 → φ m = B.φ0 m) (hlow : c0 ≤ c) (hc0 : B.c0 = c0) (hn : a.tmps.size = n) (hdf : a.defers = []) :
    ∃ φ' h', SRel D base w0 ⟨B.c0, B.φ0, s1.H, s1.ρ⟩ n φ' h' s1 a w ∧ Holds (factH D s1.H (keysU u []) ++ factS D azs) := by
  obtain ⟨b1, b2, b3⟩ := hdB_ok hdB
  obtain ⟨u1, c1, u2, q1, q2, rfl, q4⟩ := inS_some i1
  obtain ⟨k1, φ', h', m1, m2, m3, m4, m5⟩ := moveOut R b1 b2 e1 e2 q1 q2
  obtain ⟨hd, hlt⟩ := hk h' m1 m4.left
  have R1 := backIn m4 hd m2 hag (fun p hp => by
    rcases List.mem_append.1 hp with hp | hp
    · exact ((insIs_keys _ _ _ _ _ _ q1).2 p hp).imp id (fun h => h.1)
    · have a1 := (insIs_keys _ _ _ _ _ _ q1).1
      have a2 := (insL_keys (ins_keys shF) _ _ _ _ _ _ q2).2 p hp
      exact .inr (by omega))
  have hLR := m5 _ he
  have hH : s1.H = appU (u1 ++ u2) H0 := by rw [q4]
  have hρ1 : s1.ρ = putSl lh.slots azs ρ0 := by rw [q4]
  refine ⟨φ', h', ⟨by rw [hH]; exact R1, ?_, hn, m3, by show B.c0 ≤ s1.c; omega, fun m hm => ?_, fun _ _ => rfl, fun _ _ => rfl, ?_⟩, ?_⟩
  · rw [hρ1]
    exact putSl_ok (fun t v hS ht => VR.mono (PLe.refl φ') m1 _ _ (VR_by (fun x hx y hy => by rw [m2 x hx]; exact hy) v _ (hlt t v ht) (hρ t v hS ht))) hLR
  · have hm : m < B.c0 := hm
    rw [m2 m (by omega)]; exact hkeep m (by omega)
  · rw [q4]; exact hdf
  · rw [hH]; exact holds_app (factH_ok R1 _) (factS_ok hLR)
theorem backB_ok {s1 : VS σ} {s2 : VS σ} (hb : backB lh c H0 s2.H rem s2.dn s2.ds = true) (hown : ∀ n ∈ lh.ns, appU rem s2.H n = none) (hd : ∀ n ∈ lh.ns, H0 n = none) (hs : ∀ n, n < c → n ∉ lh.ns → n ∉ s2.dn → s2.H n = H0 n ∨ n ∈ keysU rem s2.dn) : (∀ n, n < c → appU rem s2.H n = H0 n) ∧ ∀ t ∈ s2.ds, t ∈ lh.slots ∨ t ∈ lh.drop := by
  unfold backB at hb
  rw [Bool.and_eq_true, List.all_eq_true, List.all_eq_true] at hb
  refine ⟨fun n hn => ?_, fun t ht => ?_⟩
  · by_cases hm : n ∈ keysU rem s2.dn
    · have := hb.1 n hm
      rw [Bool.or_eq_true, Bool.and_eq_true] at this
      rcases this with h1 | h1
      · have := Nat.le_of_ble_eq_true h1; omega
      · rw [noneB_ok h1.1, noneB_ok h1.2]
    · by_cases ho : n ∈ lh.ns
      · rw [hown n ho, hd n ho]
      · have hm' := hm
        rw [keysU_mem, not_or] at hm'
        rw [appU_ne (fun p hp e => hm'.1 ⟨p, hp, e⟩)]
        rcases hs n hn ho hm'.2 with h1 | h1
        · exact h1
        · exact absurd h1 hm
  · have := hb.2 t ht
    rw [memB_iff, List.mem_append] at this
    exact this
end
def lookV (H : HFs σ) (v : SVs σ) : SVs σ := match v with
  | .nm n => match H n with
    | some (.row _ i xs) => .rs i xs
    | some (.fz i xs) => .rs i xs
    | _ => .nm n
  | .ptr n o => match H n with
    | some (.box _ l) => .agg l
    | _ => .ptr n o
  | v => v
def seeS (ρ : Slots σ) (H : HFs σ) : List Nat → List (SVs σ)
  | [] => []
  | t :: l => match ρ t with
    | some v => lookV H v :: seeS ρ H l
    | none => .tup [] :: seeS ρ H l
def LoopWP (P : Program) (x : Code) (Q : Exit → Act → World → Prop) (a : Act) (w : World) : Prop :=
  ∀ (b : Frame) (k : List Item) (cs : List Frame), ∃ e a' w', Q e a' w' ∧ Arrives P (lone (b.at a (.code x :: .inLoop x :: k)) cs w) b k cs e a' w'
theorem wp_of_loop {P : Program} {x : Code} {Q : Exit → Act → World → Prop} {a : Act} {w : World} (h : LoopWP P x Q a w) : (Code.loop x).wp P Q a w := fun b k cs =>
  let ⟨e, a', w', q, r⟩ := h b k cs; ⟨e, a', w', q, .of_steps (.one step_loop) r⟩
theorem loop_round {P : Program} {x : Code} {Q : Exit → Act → World → Prop} {a : Act} {w : World} (h : x.wp P (Exit.then (LoopWP P x Q) Q) a w) : LoopWP P x Q a w := by
  intro b k cs
  obtain ⟨e, a₁, w₁, hq, harr⟩ := h b (.inLoop x :: k) cs
  cases e with
  | normal =>
    obtain ⟨e₂, a₂, w₂, hq₂, harr₂⟩ := hq b k cs
    exact ⟨e₂, a₂, w₂, hq₂, .of_steps (Steps.trans harr (.one step_inLoop)) harr₂⟩
  | exit id => exact ⟨_, a₁, w₁, hq, .pass (x := .inLoop x) rfl (fun _ _ => .inl (by simp)) harr⟩
  | goto l => exact ⟨_, a₁, w₁, hq, .pass (x := .inLoop x) rfl (fun _ _ => .inl (by simp)) harr⟩
  | ret => exact ⟨_, a₁, w₁, hq, .pass (x := .inLoop x) rfl (fun _ _ => .inl (by simp)) harr⟩
  | panic ch => exact ⟨_, a₁, w₁, hq, .pass (x := .inLoop x) rfl (fun _ _ => .inl (by simp)) harr⟩
  | outgrown => exact ⟨_, a₁, w₁, hq, .pass (x := .inLoop x) rfl (fun _ _ => .inl (by simp)) harr⟩
end Gx
namespace Gx
open Go Go.RowKit
set_option linter.unusedSimpArgs false
set_option linter.unusedVariables false
variable {σ : Nat → Type} [∀ i, Inhabited (Ty σ i)] {P : Program} {D : Df (Ty σ)} {base : Bgn} {w0 : World}
structure Hn (σ : Nat → Type) where
  wr : Nat → Bool
  nam : Nat → Bool
  loops : Nat → Option (LoopH σ)
  joins : Nat → Option (LoopH σ)
def firstR : Code → Option Nat
  | .region id _ _ => some id
  | .seq a b => match firstR a with
    | some i => some i
    | none => firstR b
  | .block _ b => firstR b
  | .loop b => firstR b
  | .cond _ x y => match firstR x with
    | some i => some i
    | none => firstR y
  | _ => none
def nameV (D : Df (Ty σ)) (nam : Nat → Bool) : List Oper → VS σ → (VS σ → VT) → VT
  | [], s, K => K s
  | o :: r, s, K => match o.dst with
    | some d => cond (nam d) (match s.ρ d with
      | some v => genV D s.H v fun v H => nameV D nam r { s with ρ := updV s.ρ d v, H := H } K
      | none => nameV D nam r s K) (nameV D nam r s K)
    | none => nameV D nam r s K
def forceE0 (rec : List (SVs σ) → (List (SVs σ) → VT) → VT) (v : SVs σ) (k : SVs σ → VT) : VT := match v with
  | .int a b => k (.int a b)
  | .bool b => k (.bool b)
  | .str b => k (.str b)
  | .fl a b => k (.fl a b)
  | .rs a b => k (.rs a b)
  | .nm a => k (.nm a)
  | .ptr a b => k (.ptr a b)
  | .pa a b c d => k (.pa a b c d)
  | .el a b c d => k (.el a b c d)
  | .ea a b c => k (.ea a b c)
  | .agg l => rec l fun l => k (.agg l)
  | .tup l => rec l fun l => k (.tup l)
  | .fn f l => rec l fun l => k (.fn f l)
  | .ifc a b => k (.ifc a b)
  | .raw v => k (.raw v)
def forceL0 (e : SVs σ → (SVs σ → VT) → VT) : List (SVs σ) → (List (SVs σ) → VT) → VT
  | [], k => k []
  | v :: r, k => e v fun v => forceL0 e r fun r => k (v :: r)
def forceE : Nat → SVs σ → (SVs σ → VT) → VT
  | 0 => fun v k => k v
  | f + 1 => forceE0 (forceL0 (forceE f))
def forceL (l : List (SVs σ)) (k : List (SVs σ) → VT) : VT := forceL0 (forceE 3) l k
theorem forceE0_eq {rec : List (SVs σ) → (List (SVs σ) → VT) → VT} (hr : ∀ l k, rec l k = k l) (v : SVs σ) (k : SVs σ → VT) : forceE0 rec v k = k v := by
  cases v <;> unfold forceE0 <;> first | rfl | exact hr _ _
theorem forceL0_eq {e : SVs σ → (SVs σ → VT) → VT} (he : ∀ v k, e v k = k v) : ∀ (l : List (SVs σ)) (k : List (SVs σ) → VT), forceL0 e l k = k l
  | [], k => rfl
  | v :: r, k => by unfold forceL0; rw [he, forceL0_eq he r]
theorem forceE_eq : ∀ (f : Nat) (v : SVs σ) (k : SVs σ → VT), forceE f v k = k v
  | 0, v, k => rfl
  | f + 1, v, k => forceE0_eq (forceL0_eq (forceE_eq f)) v k
theorem forceL_eq (l : List (SVs σ)) (k : List (SVs σ) → VT) : forceL l k = k l := forceL0_eq (forceE_eq 3) l k
abbrev RecV (σ : Nat → Type) := Nat → Code → VS σ → KT σ → VT
def rebS (lh : LoopH σ) (s s2 : VS σ) (ks : List Nat) : VS σ := { s2 with dn := s2.dn ++ (ks ++ s.dn), ds := s2.ds ++ ((lh.slots ++ lh.drop) ++ s.ds) }
def backV (D : Df (Ty σ)) (lh : LoopH σ) (c : Nat) (H0 : HFs σ) (s2 : VS σ) (k : List (SVs σ) → VT) : VT := match s2.df with
  | _ :: _ => (.ff 23067 [])
  | [] => match outS D lh s2.ρ s2.H with
    | none => (.ff 23069 [])
    | some (ids, ads, rem) => cond (backB lh c H0 s2.H rem s2.dn s2.ds) (forceL (ids ++ ads) k) (.ff 23070 [])
def headV (D : Df (Ty σ)) (lh : LoopH σ) (see cs0 : List (SVs σ)) (ρ0 : Slots σ) (H0 : HFs σ) (c : Nat) (k : List (SVs σ) → VS σ → Ups σ → VT) : VT := hvC lh fun ids ads => forceL (ids ++ ads) fun cs => asmL (lh.inv see cs0 cs) (match inS lh ρ0 H0 c ids ads with
  | none => (.ff 23072 [])
  | some (s1, u, azs) => asmL (factH D s1.H (keysU u []) ++ factS D azs) (k cs s1 u))
def loopV (D : Df (Ty σ)) (rec : RecV σ) (lh : LoopH σ) (n : Nat) (x : Code) (s : VS σ) (K : KT σ) : VT := match s.df with
  | _ :: _ => (.ff 23075 [])
  | [] => match outS D lh s.ρ s.H with
    | none => (.ff 23077 [])
    | some (ids0, ads0, rem) => cond (hdB lh s.c) (forceL (seeS s.ρ s.H lh.see) fun see => forceL (ids0 ++ ads0) fun cs0 => chkL (lh.inv see cs0 cs0)
      (headV D lh see cs0 (dropS (lh.slots ++ lh.drop) s.ρ) (appU rem s.H) s.c fun cs s1 u => rec n x s1 fun e s2 => match e with
        | .nm => backV D lh s.c (appU rem s.H) s2 fun cs2 => chkL (lh.inv see cs0 cs2) (.chk (lh.meas see cs0 cs2 < lh.meas see cs0 cs) .tt)
        | e => K e (rebS lh s s2 (keysU u (keysU rem []))))) (.ff 23081 [])
def nmSl (ρ : Slots σ) : List Nat → List Nat
  | [] => []
  | t :: l => match ρ t with
    | some (.nm n) => n :: nmSl ρ l
    | _ => nmSl ρ l
def rmU (l : List Nat) : Ups σ := l.map fun n => (n, none)
def joinV (D : Df (Ty σ)) (rec : RecV σ) (lh : LoopH σ) (n : Nat) (b : Bool) (x y : Code) (s : VS σ) (K : KT σ) : VT := match s.df with
  | _ :: _ => (.ff 23090 [])
  | [] => cond (hdB lh s.c) (forceL (seeS s.ρ s.H lh.see) fun see => .both (.br b (rec n x { s with dn := rmSl s, ds := [] } fun e s2 => match e with
        | .nm => backV D lh s.c (H0 s) s2 fun cs2 => chkL (lh.inv see [] cs2) .tt
        | e => K e (rebS lh s s2 (rmSl s)))
      (rec n y { s with dn := rmSl s, ds := [] } fun e s2 => match e with
        | .nm => backV D lh s.c (H0 s) s2 fun cs2 => chkL (lh.inv see [] cs2) .tt
        | e => K e (rebS lh s s2 (rmSl s))))
      (headV D lh see [] (dropS (lh.slots ++ lh.drop) s.ρ) (H0 s) s.c fun cs s1 u => K .nm (rebS lh s s1 (keysU u (rmSl s))))) (.ff 23097 [])
where
  rmSl (s : VS σ) : List Nat := lh.ns ++ nmSl s.ρ lh.slots
  H0 (s : VS σ) : HFs σ := appU (rmU (rmSl s)) s.H
def codeS (X : Cx P D) (cons : Cons σ) (hn : Hn σ) (rec : RecV σ) : RecV σ := fun n cd s K => match cd with
  | .skip => K .nm s
  | .label _ => K .nm s
  | .region _ ops false => opsV X cons hn.wr hn.nam n ops.toList ops.toList s K
  | .region _ ops true => cond (statB ops ops.toList ops.size ops.toList 0) (drV X cons hn.wr n ops.toList ops.size ops.toList 0 [] s fun s => nameV D hn.nam ops.toList s fun s => K .nm s) (.ff 23105 [])
  | .seq x y => rec n x s fun e s => match e with
    | .nm => rec n y s K
    | e => K e s
  | .cond q x y => match evS s.ρ q with
    | some (.bool b) => match (match firstR x with
        | some i => hn.joins i
        | none => none) with
      | some lh => joinV D rec (lh.at s.ρ) n b x y s K
      | none => .br b (rec n x s K) (rec n y s K)
    | _ => (.ff 23115 [])
  | .block id x => rec n x s fun e s => match e with
    | .ex id' => cond (Nat.beq id' id) (K .nm s) (K (.ex id') s)
    | e => K e s
  | .loop x => match (match firstR x with
      | some i => hn.loops i
      | none => none) with
    | some lh => loopV D rec (lh.at s.ρ) n x s K
    | none => (.ff 23123 [])
  | .exit id => K (.ex id) s
  | .ret => K .rt s
  | _ => (.ff 23126 [])
def codeV (X : Cx P D) (cons : Cons σ) (hn : Hn σ) (f : Nat) : RecV σ := Nat.rec (motive := fun _ => RecV σ) (fun _ _ _ _ => (.ff 23127 [])) (fun _ ih => codeS X cons hn ih) f
section
variable {Tab : Ghost → Prop} {X : Cx P D} {cons : Cons σ} {hn : Hn σ}
def RecOK (P : Program) (D : Df (Ty σ)) (base : Bgn) (w0 : World) (rec : RecV σ) : Prop :=
  ∀ (n : Nat) (cd : Code) (s : VS σ) (K : KT σ) (B : VB σ) (Q : Exit → Act → World → Prop), (rec n cd s K).H → (∀ e s φ h a w, (K e s).H → SRel D base w0 B n φ h s a w → QX D.kd Q φ h e a w) → ∀ φ h a w, SRel D base w0 B n φ h s a w → cd.wp P Q a w
theorem nameV_H {B : VB σ} {n : Nat} {nam : Nat → Bool} {φ : Ph} {h : Ghost} {a : Act} {w : World} : ∀ {r : List Oper} {s : VS σ} {K : VS σ → VT}, (nameV D nam r s K).H → SRel D base w0 B n φ h s a w → (K s).H
  | [], s, K, hv, S => hv
  | o :: r, s, K, hv, S => by
    unfold nameV at hv
    split at hv
    · rename_i d hd
      cases hn : nam d with
      | false => rw [hn] at hv; exact nameV_H hv S
      | true =>
        rw [hn] at hv; simp only [cond_true] at hv
        split at hv
        · rename_i v hρ
          have := genV_H (K := fun v H => nameV D nam r { s with ρ := updV s.ρ d v, H := H } K) hv S.mem (S.env d v trivial hρ)
          simp only [updV_same hρ] at this
          exact nameV_H this S
        · exact nameV_H hv S
    · exact nameV_H hv S
theorem SRel.rebase {B : VB σ} {n : Nat} {φ : Ph} {h : Ghost} {s s2 : VS σ} {a : Act} {w : World} {lh : LoopH σ} {ks : List Nat} {H1 : HFs σ} {ρ1 : Slots σ} (S : SRel D base w0 ⟨B.c0, B.φ0, H1, ρ1⟩ n φ h s2 a w) (h1 : ∀ m, m ∉ ks → m ∉ s2.dn → m ∉ s.dn → H1 m = B.Hb m) (h2 : ∀ t, t ∉ lh.slots → t ∉ lh.drop → t ∉ s.ds → ρ1 t = B.ρb t) : SRel D base w0 B n φ h (rebS lh s s2 ks) a w := by
  refine ⟨S.mem, S.env, S.size, S.dead, S.low, S.keep, fun m hm => ?_, fun t ht => ?_, S.dfs⟩
  · have hm : m ∉ s2.dn ++ (ks ++ s.dn) := hm
    rw [List.mem_append, List.mem_append, not_or, not_or] at hm
    exact (S.dirtyH m hm.1).trans (h1 m hm.2.1 hm.1 hm.2.2)
  · have ht : t ∉ s2.ds ++ ((lh.slots ++ lh.drop) ++ s.ds) := ht
    rw [List.mem_append, List.mem_append, List.mem_append, not_or, not_or, not_or] at ht
    exact (S.dirtyS t ht.1).trans (h2 t ht.2.1.1 ht.2.1.2 ht.2.2)
theorem headV_H {lh : LoopH σ} {see cs0 : List (SVs σ)} {ρ0 : Slots σ} {H0 : HFs σ} {c : Nat} {k : List (SVs σ) → VS σ → Ups σ → VT} {ids ads : List (SVs σ)} (hv : (headV D lh see cs0 ρ0 H0 c k).H) (h1 : okIs lh.its ids = true) (h2 : okDL (okD shF) lh.shs ads = true) (h3 : Holds (lh.inv see cs0 (ids ++ ads))) :
    ∃ s1 u azs, inS lh ρ0 H0 c ids ads = some (s1, u, azs) ∧ (Holds (factH D s1.H (keysU u []) ++ factS D azs) → (k (ids ++ ads) s1 u).H) := by
  unfold headV at hv
  have hv := hvC_H hv h1 h2
  rw [forceL_eq] at hv
  have hv := asmL_H hv h3
  split at hv
  · exact hv.elim
  · rename_i s1 u azs hi
    exact ⟨s1, u, azs, hi, fun hf => asmL_H hv hf⟩
theorem u_keys {lh : LoopH σ} {ρ0 : Slots σ} {H0 : HFs σ} {c : Nat} {ids ads : List (SVs σ)} {s1 : VS σ} {u : Ups σ} {azs : List (SVs σ)} (e : inS lh ρ0 H0 c ids ads = some (s1, u, azs)) : s1.H = appU u H0 ∧ s1.ρ = putSl lh.slots azs ρ0 ∧ ∀ p ∈ u, p.1 ∈ lh.ns ∨ c ≤ p.1 := by
  obtain ⟨u1, c1, u2, q1, q2, rfl, q4⟩ := inS_some e
  refine ⟨by rw [q4], by rw [q4], fun p hp => ?_⟩
  rcases List.mem_append.1 hp with hp | hp
  · exact ((insIs_keys _ _ _ _ _ _ q1).2 p hp).imp id (fun h => h.1)
  · have a1 := (insIs_keys _ _ _ _ _ _ q1).1
    have a2 := (insL_keys (ins_keys shF) _ _ _ _ _ _ q2).2 p hp
    exact .inr (by omega)
theorem qx_then {Q : Exit → Act → World → Prop} {next : Act → World → Prop} {φ : Ph} {h : Ghost} {x : EX σ} {a : Act} {w : World} (hne : x ≠ .nm) (hq : QX D.kd Q φ h x a w) : QX D.kd (Exit.then next Q) φ h x a w := by
  cases x with
  | nm => exact absurd rfl hne
  | ex id => exact hq
  | rt => exact hq
  | pn v => exact hq
theorem backV_H {lh : LoopH σ} {B : VB σ} {n : Nat} {φ : Ph} {h : Ghost} {s s2 : VS σ} {a : Act} {w : World} {c : Nat} {H0 H1 : HFs σ} {ρ0 ρ1 : Slots σ} {k : List (SVs σ) → VT} (hv : (backV D lh c H0 s2 k).H) (S : SRel D base w0 ⟨B.c0, B.φ0, H1, ρ1⟩ n φ h s2 a w) (hhd : hdB lh c = true) (hd : HdOK c lh.ns H0) (hlt : ∀ t v, ρ0 t = some v → v.lt c) (hlow : B.c0 ≤ c)
    (hs : ∀ n, n < c → n ∉ lh.ns → n ∉ s2.dn → H1 n = H0 n) (hρ0 : ∀ t v, ρ0 t = some v → t ∉ lh.slots ∧ t ∉ lh.drop ∧ ρ1 t = some v)
    (hin : ∀ ids ads, okIs lh.its ids = true → okDL (okD shF) lh.shs ads = true → (k (ids ++ ads)).H → ∃ s1 u azs, inS lh ρ0 H0 c ids ads = some (s1, u, azs)) :
    ∃ ids ads s1 u azs φ' h', (k (ids ++ ads)).H ∧ okIs lh.its ids = true ∧ okDL (okD shF) lh.shs ads = true ∧ inS lh ρ0 H0 c ids ads = some (s1, u, azs) ∧ SRel D base w0 ⟨B.c0, B.φ0, s1.H, s1.ρ⟩ n φ' h' s1 a w ∧ Holds (factH D s1.H (keysU u []) ++ factS D azs) := by
  unfold backV at hv
  split at hv
  · exact hv.elim
  · rename_i hdf
    split at hv
    · exact hv.elim
    · rename_i ids ads rem ho
      cases hb : backB lh c H0 s2.H rem s2.dn s2.ds with
      | false => rw [hb] at hv; exact hv.elim
      | true =>
        rw [hb] at hv; simp only [cond_true, forceL_eq] at hv
        obtain ⟨avs, rem1, F1, rem2, F2, o1, o2, o3, rfl, o5, o6⟩ := outS_some ho
        obtain ⟨b1, b2, b3⟩ := hdB_ok hhd
        obtain ⟨t1, t2⟩ := backB_ok (s1 := s2) hb (rem_own b3 o2 o3) hd.own (fun n hn h1 h2 => .inl ((S.dirtyH n h2).trans (hs n hn h1 h2)))
        obtain ⟨s1, u, azs, hi⟩ := hin ids ads o5 o6 hv
        have hdfs := S.dfs
        rw [hdf] at hdfs
        obtain ⟨φ', h', S', hf⟩ := enterS (B := B) (n := n) (c0 := B.c0) S.mem (evSl_ok S.env o1) hhd o2 o3 hi (fun _ _ _ => ⟨hd, hlt⟩) t1 (fun t v hS ht => by
          obtain ⟨z1, z2, z3⟩ := hρ0 t v ht
          refine S.env t v trivial ?_
          rw [S.dirtyS t (fun hm => by rcases t2 t hm with h | h; exact z1 h; exact z2 h)]
          exact z3) S.keep hlow rfl S.size hdfs
        exact ⟨ids, ads, s1, u, azs, φ', h', hv, o5, o6, hi, S', hf⟩
theorem dropS_sub {lh : LoopH σ} {ρ : Slots σ} {t : Nat} {v : SVs σ} (h : dropS (lh.slots ++ lh.drop) ρ t = some v) : ρ t = some v ∧ t ∉ lh.slots ∧ t ∉ lh.drop := by
  obtain ⟨h1, h2⟩ := dropS_some h
  rw [List.mem_append, not_or] at h2
  exact ⟨h1, h2.1, h2.2⟩
theorem dropS_or {lh : LoopH σ} {ρ : Slots σ} {t : Nat} (h1 : t ∉ lh.slots) (h2 : t ∉ lh.drop) : dropS (lh.slots ++ lh.drop) ρ t = ρ t := by
  unfold dropS
  cases hb : memB t (lh.slots ++ lh.drop) with
  | false => rfl
  | true => rw [memB_iff, List.mem_append] at hb; rcases hb with h | h; exact absurd h h1; exact absurd h h2
theorem loopV_ok {rec : RecV σ} (hrec : RecOK P D base w0 rec) {lh : LoopH σ} {n : Nat} {x : Code} {s : VS σ} {K : KT σ} {B : VB σ} {Q : Exit → Act → World → Prop} (hv : (loopV D rec lh n x s K).H) (hK : ∀ e s φ h a w, (K e s).H → SRel D base w0 B n φ h s a w → QX D.kd Q φ h e a w)
    {φ : Ph} {h : Ghost} {a : Act} {w : World} (S : SRel D base w0 B n φ h s a w) : LoopWP P x Q a w := by
  unfold loopV at hv
  split at hv
  · exact hv.elim
  · rename_i hdf
    split at hv
    · exact hv.elim
    · rename_i ids0 ads0 rem ho
      cases hhd : hdB lh s.c with
      | false => rw [hhd] at hv; exact hv.elim
      | true =>
        rw [hhd] at hv; simp only [cond_true, forceL_eq] at hv
        obtain ⟨hinv0, hv⟩ := chkL_H hv
        generalize hsee : seeS s.ρ s.H lh.see = see at hv hinv0
        generalize hcs0 : ids0 ++ ads0 = cs0 at hv hinv0
        obtain ⟨avs, rem1, F1, rem2, F2, o1, o2, o3, rfl, o5, o6⟩ := outS_some ho
        obtain ⟨b1, b2, b3⟩ := hdB_ok hhd
        obtain ⟨s10, u0, as0, hi0, hf0⟩ := headV_H hv o5 o6 (by rw [hcs0]; exact hinv0)
        obtain ⟨u1, c1, u2, q1, q2, _, _⟩ := inS_some hi0
        obtain ⟨_, φm, hm, m1, _, _, m4, _⟩ := moveOut S.mem b1 b2 o2 o3 q1 q2
        have hd : HdOK s.c lh.ns (appU (rem1 ++ rem2) s.H) := HdOK.of m4.left S.dead (rem_own b3 o2 o3)
        have hlt : ∀ t v, dropS (lh.slots ++ lh.drop) s.ρ t = some v → v.lt s.c := fun t v ht => VR_lt S.dead v _ (S.env t v trivial (dropS_sub ht).1)
        have hdfs := S.dfs
        rw [hdf] at hdfs
        obtain ⟨φ1, h1, S1, hf1⟩ := enterS (B := B) (n := n) (c0 := B.c0) S.mem (evSl_ok S.env o1) hhd o2 o3 hi0 (fun _ _ _ => ⟨hd, hlt⟩) (fun _ _ => rfl) (fun t v hS ht => S.env t v trivial (dropS_sub ht).1) S.keep S.low rfl S.size hdfs
        -- round by round
        have main : ∀ (m : Nat) (ids ads : List (SVs σ)) (s1 : VS σ) (u : Ups σ) (azs : List (SVs σ)) (φ : Ph) (h : Ghost) (a : Act) (w : World), lh.meas see cs0 (ids ++ ads) = m → Holds (lh.inv see cs0 (ids ++ ads)) → okIs lh.its ids = true → okDL (okD shF) lh.shs ads = true →
            inS lh (dropS (lh.slots ++ lh.drop) s.ρ) (appU (rem1 ++ rem2) s.H) s.c ids ads = some (s1, u, azs) → SRel D base w0 ⟨B.c0, B.φ0, s1.H, s1.ρ⟩ n φ h s1 a w → Holds (factH D s1.H (keysU u []) ++ factS D azs) → LoopWP P x Q a w := by
          intro m
          induction m using Nat.strongRecOn with
          | _ m ih =>
            intro ids ads s1 u azs φ h a w hm hinv k1 k2 hi S1 hf
            obtain ⟨s1', u', azs', hi', hfv⟩ := headV_H hv k1 k2 hinv
            rw [hi] at hi'; injection hi' with hi'; injection hi' with e1 e2; injection e2 with e2 e3; subst e1; subst e2; subst e3
            obtain ⟨y1, y2, y3⟩ := u_keys hi
            refine loop_round (hrec n x s1 _ ⟨B.c0, B.φ0, s1.H, s1.ρ⟩ _ (hfv hf) (fun e s2 φ2 h2 a2 w2 hk S2 => ?_) φ h a w S1)
            have other : ∀ e, e ≠ .nm → (K e (rebS lh s s2 (keysU u (keysU (rem1 ++ rem2) [])))).H → QX D.kd (Exit.then (LoopWP P x Q) Q) φ2 h2 e a2 w2 := fun e hne hk => by
              refine qx_then hne (hK e _ φ2 h2 a2 w2 hk (S2.rebase (fun m z1 _ z2 => ?_) (fun t z1 z2 z3 => ?_)))
              · rw [keysU_mem, keysU_mem, not_or, not_or] at z1
                rw [y1, appU_ne (fun p hp e => z1.1 ⟨p, hp, e⟩), appU_ne (fun p hp e => z1.2.1 ⟨p, hp, e⟩)]
                exact S.dirtyH m z2
              · rw [y2, putSl_ne z1, dropS_or z1 z2]; exact S.dirtyS t z3
            cases e with
            | nm =>
              show LoopWP P x Q a2 w2
              have hk : (backV D lh s.c (appU (rem1 ++ rem2) s.H) s2 fun cs2 => chkL (lh.inv see cs0 cs2) (.chk (lh.meas see cs0 cs2 < lh.meas see cs0 (ids ++ ads)) .tt)).H := hk
              obtain ⟨ids2, ads2, s3, u3, as3, φ3, h3, z1, z2, z3, z4, z5, z6⟩ := backV_H (ρ0 := dropS (lh.slots ++ lh.drop) s.ρ) (s := s) hk S2 hhd hd hlt S.low (fun n hn hne _ => by
                rw [y1, appU_ne (fun p hp e => by rcases y3 p hp with q | q; (rw [e] at q; exact hne q); omega)]) (fun t v ht => by
                obtain ⟨w1, w2, w3⟩ := dropS_sub ht
                exact ⟨w2, w3, by rw [y2, putSl_ne w2]; exact ht⟩) (fun ids ads h1 h2 h3 => by
                obtain ⟨h4, h5⟩ := chkL_H h3
                obtain ⟨s1, u, azs, hi, _⟩ := headV_H hv h1 h2 h4
                exact ⟨s1, u, azs, hi⟩)
              obtain ⟨h4, h5⟩ := chkL_H z1
              have h5 : lh.meas see cs0 (ids2 ++ ads2) < lh.meas see cs0 (ids ++ ads) ∧ True := h5
              exact ih _ (by rw [← hm]; exact h5.1) ids2 ads2 s3 u3 as3 φ3 h3 a2 w2 rfl h4 z2 z3 z4 z5 z6
            | ex id => exact other (.ex id) (fun e => by cases e) hk
            | rt => exact other .rt (fun e => by cases e) hk
            | pn v => exact other (.pn v) (fun e => by cases e) hk
        exact main _ ids0 ads0 s10 u0 as0 φ1 h1 a w rfl (by rw [hcs0]; exact hinv0) o5 o6 hi0 S1 hf1
end
end Gx
namespace Gx
open Go Go.RowKit
set_option linter.unusedSimpArgs false
set_option linter.unusedVariables false
variable {σ : Nat → Type} [∀ i, Inhabited (Ty σ i)] {P : Program} {D : Df (Ty σ)} {base : Bgn} {w0 : World}
section
variable {Tab : Ghost → Prop} {X : Cx P D} {cons : Cons σ} {hn : Hn σ}
theorem appU_rm {l : List Nat} {H : HFs σ} : ∀ n, appU (rmU l) H n = H n ∨ appU (rmU l) H n = none := by
  induction l generalizing H with
  | nil => exact fun n => .inl rfl
  | cons x l ih =>
    intro n
    show appU (rmU l) (gup H x none) n = H n ∨ _
    rcases ih (H := gup H x none) n with e | e
    · by_cases hx : n = x
      · subst hx; right; rw [gup_eq] at e; exact e
      · left; rw [e, gup_ne _ _ hx]
    · right; exact e
theorem rmU_keys {l : List Nat} {p : Nat × Option (SA (Ty σ))} (h : p ∈ (rmU l : Ups σ)) : p.1 ∈ l := by
  obtain ⟨n, hn, rfl⟩ := List.mem_map.1 h
  exact hn
theorem appU_rm_in {l : List Nat} {H : HFs σ} : ∀ n ∈ l, appU (rmU l) H n = none := by
  induction l generalizing H with
  | nil => exact fun n hn => (by cases hn)
  | cons x l ih =>
    intro n hn
    show appU (rmU l) (gup H x none) n = none
    by_cases hm : n ∈ l
    · exact ih n hm
    · rcases List.mem_cons.1 hn with e | e
      · subst e
        rcases appU_rm (l := l) (H := gup H n none) n with e | e
        · rw [e, gup_eq]
        · exact e
      · exact absurd e hm
theorem joinV_ok {rec : RecV σ} (hrec : RecOK P D base w0 rec) {lh : LoopH σ} {n : Nat} {b : Bool} {x y : Code} {s : VS σ} {K : KT σ} {B : VB σ} {Q : Exit → Act → World → Prop} (hv : (joinV D rec lh n b x y s K).H) (hK : ∀ e s φ h a w, (K e s).H → SRel D base w0 B n φ h s a w → QX D.kd Q φ h e a w)
    {φ : Ph} {h : Ghost} {a : Act} {w : World} (S : SRel D base w0 B n φ h s a w) : (b = true → x.wp P Q a w) ∧ (b = false → y.wp P Q a w) := by
  unfold joinV at hv
  split at hv
  · exact hv.elim
  · rename_i hdf
    cases hhd : hdB lh s.c with
    | false => rw [hhd] at hv; exact hv.elim
    | true =>
      rw [hhd] at hv; simp only [cond_true, forceL_eq] at hv
      obtain ⟨hbr, hv⟩ : (VT.br b _ _).H ∧ _ := hv
      obtain ⟨b1, b2, b3⟩ := hdB_ok hhd
      have R0 : VRel D.kd base w0 φ h (joinV.H0 lh s) w := S.mem.drop _ fun n => appU_rm n
      have hd : HdOK s.c lh.ns (joinV.H0 lh s) := HdOK.of R0 S.dead fun n hn => appU_rm_in n (List.mem_append_left _ hn)
      have hlt : ∀ t v, dropS (lh.slots ++ lh.drop) s.ρ t = some v → v.lt s.c := fun t v ht => VR_lt S.dead v _ (S.env t v trivial (dropS_sub ht).1)
      have S' : SRel D base w0 ⟨B.c0, B.φ0, joinV.H0 lh s, s.ρ⟩ n φ h { s with dn := joinV.rmSl lh s, ds := [] } a w := ⟨S.mem, S.env, S.size, S.dead, S.low, S.keep, fun m hm => (appU_ne (fun p hp e => hm (by rw [← e]; exact rmU_keys hp))).symm, fun _ _ => rfl, S.dfs⟩
      -- each way
      have way : ∀ e s2 φ2 h2 a2 w2, (match (generalizing := false) e with
          | .nm => backV D lh s.c (joinV.H0 lh s) s2 fun cs2 => chkL (lh.inv (seeS s.ρ s.H lh.see) [] cs2) .tt
          | e => K e (rebS lh s s2 (joinV.rmSl lh s))).H → SRel D base w0 ⟨B.c0, B.φ0, joinV.H0 lh s, s.ρ⟩ n φ2 h2 s2 a2 w2 → QX D.kd Q φ2 h2 e a2 w2 := by
        intro e s2 φ2 h2 a2 w2 hk S2
        have other : (K e (rebS lh s s2 (joinV.rmSl lh s))).H → QX D.kd Q φ2 h2 e a2 w2 := fun hk => hK e _ φ2 h2 a2 w2 hk (S2.rebase (fun m z1 _ z => (appU_ne (fun p hp e => z1 (by rw [← e]; exact rmU_keys hp))).trans (S.dirtyH m z)) (fun t _ _ z => S.dirtyS t z))
        cases e with
        | nm =>
          obtain ⟨ids2, ads2, s3, u3, as3, φ3, h3, z1, z2, z3, z4, z5, z6⟩ := backV_H (ρ0 := dropS (lh.slots ++ lh.drop) s.ρ) (s := s) hk S2 hhd hd hlt S.low (fun n hn hne hdn => rfl) (fun t v ht => by
            obtain ⟨w1, w2, w3⟩ := dropS_sub ht
            exact ⟨w2, w3, w1⟩) (fun ids ads h1 h2 h3 => by
            obtain ⟨h4, _⟩ := chkL_H h3
            obtain ⟨s1, u, azs, hi, _⟩ := headV_H hv h1 h2 h4
            exact ⟨s1, u, azs, hi⟩)
          obtain ⟨h4, _⟩ := chkL_H z1
          obtain ⟨s1', u', azs', hi', hfv⟩ := headV_H hv z2 z3 h4
          rw [z4] at hi'; injection hi' with hi'; injection hi' with e1 e2; injection e2 with e2 e3; subst e1; subst e2; subst e3
          obtain ⟨y1, y2, y3⟩ := u_keys z4
          refine hK .nm _ φ3 h3 a2 w2 (hfv z6) (z5.rebase (fun m w1 _ w2 => ?_) (fun t w1 w2 w3 => ?_))
          · rw [keysU_mem, not_or] at w1
            rw [y1, appU_ne (fun p hp e => w1.1 ⟨p, hp, e⟩)]
            refine Eq.trans (appU_ne (fun p hp e => w1.2 (by rw [← e]; exact rmU_keys hp))) (S.dirtyH m w2)
          · rw [y2, putSl_ne w1, dropS_or w1 w2]; exact S.dirtyS t w3
        | ex id => exact other hk
        | rt => exact other hk
        | pn v => exact other hk
      obtain ⟨v1, v2⟩ := VT.br_H hbr
      exact ⟨fun hb => hrec n x _ _ _ _ (v1 hb) way φ h a w S', fun hb => hrec n y _ _ _ _ (v2 hb) way φ h a w S'⟩
theorem codeS_ok (hm : P.follows .mixedOrders = true) (hTab : ∀ h h', Le h h' → Tab h → Tab h') (hT : Tab base.h0) (hcons : ConsOK P D Tab cons) {rec : RecV σ} (hrec : RecOK P D base w0 rec) : RecOK P D base w0 (codeS X cons hn rec) := by
  intro n cd s K B Q hv hK φ h a w S
  unfold codeS at hv
  split at hv
  · exact wp_skip (hK .nm s φ h a w hv S)
  · exact wp_label (hK .nm s φ h a w hv S)
  · rename_i id ops
    refine wp_region ?_
    have := opsV_sound hTab hT hcons hK ops.toList 0 s φ h a w (fun k => by simp) hv S
    rw [List.range_eq_range']
    simpa using this
  · rename_i id ops
    cases hst : statB ops ops.toList ops.size ops.toList 0 with
    | false => rw [hst] at hv; exact hv.elim
    | true =>
      rw [hst] at hv; simp only [cond_true] at hv
      exact drawn_sound hm hTab hT hcons (fun s φ h a w hk S' => hK .nm s φ h a w (nameV_H hk S') S') hst hv S
  · rename_i x y
    refine wp_seq (hrec n x s _ B _ hv (fun e s2 φ2 h2 a2 w2 hk S2 => ?_) φ h a w S)
    cases e with
    | nm => exact hrec n y s2 K B Q hk hK φ2 h2 a2 w2 S2
    | ex id => exact hK (.ex id) s2 φ2 h2 a2 w2 hk S2
    | rt => exact hK .rt s2 φ2 h2 a2 w2 hk S2
    | pn v => exact hK (.pn v) s2 φ2 h2 a2 w2 hk S2
  · rename_i q x y
    split at hv
    · rename_i b hq
      have he := evS_ok S.env (x := q) (by cases q <;> trivial) hq
      rw [VR] at he
      have key : (b = true → x.wp P Q a w) ∧ (b = false → y.wp P Q a w) := by
        split at hv
        · exact joinV_ok hrec hv hK S
        · obtain ⟨v1, v2⟩ := VT.br_H hv
          exact ⟨fun hb => hrec n x s K B Q (v1 hb) hK φ h a w S, fun hb => hrec n y s K B Q (v2 hb) hK φ h a w S⟩
      exact wp_cond_split (t := b) (by rw [act_eval]; exact he) key.1 key.2
    · exact hv.elim
  · rename_i id x
    refine wp_block (hrec n x s _ B _ hv (fun e s2 φ2 h2 a2 w2 hk S2 => ?_) φ h a w S)
    cases e with
    | nm => exact hK .nm s2 φ2 h2 a2 w2 hk S2
    | ex id' =>
      have hk : (cond (Nat.beq id' id) (K .nm s2) (K (.ex id') s2)).H := hk
      show (Exit.inBlock id Q) (.exit id') a2 w2
      cases hb : Nat.beq id' id with
      | true =>
        have hid := Nat.eq_of_beq_eq_true hb
        rw [hb] at hk
        unfold Exit.inBlock; simp only [hid, if_true]
        exact hK .nm s2 φ2 h2 a2 w2 hk S2
      | false =>
        have hid : ¬ id' = id := fun e => by subst e; simp at hb
        rw [hb] at hk
        unfold Exit.inBlock; simp only [hid, if_false]
        exact hK (.ex id') s2 φ2 h2 a2 w2 hk S2
    | rt => exact hK .rt s2 φ2 h2 a2 w2 hk S2
    | pn v => exact hK (.pn v) s2 φ2 h2 a2 w2 hk S2
  · rename_i x
    split at hv
    · exact wp_of_loop (loopV_ok hrec hv hK S)
    · exact hv.elim
  · rename_i id
    exact wp_exit (hK (.ex id) s φ h a w hv S)
  · exact wp_ret (hK .rt s φ h a w hv S)
  · exact hv.elim
theorem codeV_ok (hm : P.follows .mixedOrders = true) (hTab : ∀ h h', Le h h' → Tab h → Tab h') (hT : Tab base.h0) (hcons : ConsOK P D Tab cons) : ∀ f, RecOK P D base w0 (codeV X cons hn f)
  | 0 => fun n cd s K B Q hv => hv.elim
  | f + 1 => codeS_ok hm hTab hT hcons (codeV_ok hm hTab hT hcons f)
end
def resV1 (X : Cx P D) (s : VS σ) : ResultVar → Option (SVs σ)
  | .tmp t => s.ρ t
  | .cell q T => match s.ρ q with
    | some (.ptr n o) => match tyInfo P T, s.H n with
      | some (m, _, g, _), some (.box _ l) => match segC D l o m with
        | some (_, sg, _) => packS D (X.kt T) g sg
        | none => none
      | _, _ => none
    | _ => none
def resVL (X : Cx P D) (s : VS σ) : List ResultVar → Option (List (SVs σ))
  | [] => some []
  | r :: l => match resV1 X s r, resVL X s l with
    | some a, some avs => some (a :: avs)
    | _, _ => none
def resV (X : Cx P D) (s : VS σ) (l : List ResultVar) : Option (SVs σ) := match resVL X s l with
  | some [v] => some v
  | some vs => some (.tup vs)
  | none => none
section
variable {X : Cx P D} {B : VB σ} {n : Nat} {φ : Ph} {h : Ghost} {s : VS σ} {a : Act} {w : World}
theorem resV1_ok (S : SRel D base w0 B n φ h s a w) {r : ResultVar} {v : SVs σ} (hr : resV1 X s r = some v) : ∃ V, (resOne a.tmps r).run P w = .ok V w ∧ VR D.kd φ h v V := by
  unfold resV1 at hr
  split at hr
  · rename_i t
    exact ⟨_, by simp only [resOne]; rfl, S.env t v trivial hr⟩
  · rename_i q T
    split at hr
    · rename_i k o hp
      split at hr
      · rename_i m b' g z E l ht hl
        split at hr
        · rename_i pa sg pb hs
          have h1 := S.env q _ trivial hp
          rw [VR] at h1
          obtain ⟨x, h1, h2⟩ := h1
          obtain ⟨x', cs, h3, h4, h5⟩ := S.mem.CF hl
          rw [h1] at h3; injection h3 with h3; injection h3 with h3; injection h3 with h3; injection h3 with h3
          subst h3
          obtain ⟨xs, ss, ys, rfl, h6, h7, h8, h9, h10⟩ := segC_ok hs h4
          obtain ⟨h11, h12⟩ := packS_ok hr h9
          have hcf := CF_part h5 h6
          rw [addr_add, Nat.zero_add] at hcf
          have hrun := run_loadVar (P := P) (w := w) (a := ⟨x, o, none⟩) ht h7 (fun hg => by rw [← h7]; exact h12 hg) hcf
          refine ⟨_, ?_, h11⟩
          have : a.tmps.getD q undef = .pointer (some ⟨x, o, none⟩) := h2
          simp only [resOne, this, asAddr, Sem.run_bind]
          show ((Sem.pure _).run P w).andThen _ = _
          simp only [Sem.run, Result.andThen_ok, hrun]
        · cases hr
      · cases hr
    · cases hr
theorem resVL_ok (S : SRel D base w0 B n φ h s a w) : ∀ {l : List ResultVar} {vs : List (SVs σ)}, resVL X s l = some vs → ∃ Vs, (l.mapM (resOne a.tmps)).run P w = .ok Vs w ∧ LR D.kd φ h vs Vs
  | [], vs, e => by
    unfold resVL at e; injection e with e; subst e
    exact ⟨[], by rw [List.mapM_nil]; rfl, LR_nil.2 rfl⟩
  | r :: l, vs, e => by
    unfold resVL at e
    split at e
    · rename_i v vs' h1 h2
      injection e with e; subst e
      obtain ⟨V, e1, e2⟩ := resV1_ok S h1
      obtain ⟨Vs, e3, e4⟩ := resVL_ok S h2
      refine ⟨V :: Vs, ?_, LR_cons.2 ⟨V, Vs, rfl, e2, e4⟩⟩
      rw [List.mapM_cons]
      simp only [Sem.run_bind, e1, Result.andThen_ok, e3]
      rfl
    · cases e
theorem resV_ok (S : SRel D base w0 B n φ h s a w) {fn : Func} {v : SVs σ} (e : resV X s fn.results.toList = some v) : ∃ V, (results fn a.tmps).run P w = .ok V w ∧ VR D.kd φ h v V := by
  unfold resV at e
  have key : ∀ {vs : List (SVs σ)}, resVL X s fn.results.toList = some vs → ∃ Vs, (results fn a.tmps).run P w = .ok (if h : Vs.toArray.size = 1 then Vs.toArray[0] else .tuple Vs.toArray) w ∧ LR D.kd φ h vs Vs := fun {vs} hv => by
    obtain ⟨Vs, e1, e2⟩ := resVL_ok S hv
    refine ⟨Vs, ?_, e2⟩
    rw [results_eq, Array.mapM_eq_mapM_toList]
    simp only [Sem.run_bind, Sem.run_map, e1, Result.andThen_ok]
    rfl
  split at e
  · rename_i u hu
    injection e with e; subst e
    obtain ⟨Vs, e1, e2⟩ := key hu
    obtain ⟨V, Vs', rfl, e3, e4⟩ := LR_cons.1 e2
    rw [LR_nil] at e4; subst e4
    exact ⟨V, e1, e3⟩
  · rename_i vs hne hu
    injection e with e; subst e
    obtain ⟨Vs, e1, e2⟩ := key hu
    have hl := LR_len e2
    have : ¬ Vs.toArray.size = 1 := fun hs => by
      rw [List.size_toArray, hl] at hs
      match vs, hs with
      | [u], _ => exact hne u rfl
    rw [dif_neg this] at e1
    exact ⟨_, e1, by rw [VR]; exact ⟨Vs, rfl, e2⟩⟩
  · cases e
end
end Gx
namespace Gx
open Go Go.RowKit
set_option linter.unusedSimpArgs false
set_option linter.unusedVariables false
variable {σ : Nat → Type} [∀ i, Inhabited (Ty σ i)] {P : Program} {D : Df (Ty σ)} {base : Bgn} {w0 : World}
def eqVL (rec : SVs σ → SVs σ → List Prop) : List (SVs σ) → List (SVs σ) → List Prop
  | [], [] => []
  | a :: l, b :: r => rec a b ++ eqVL rec l r
  | _, _ => [False]
def eqV : Nat → SVs σ → SVs σ → List Prop
  | 0, _, _ => [False]
  | f + 1, a, b => match a, b with
    | .int k t, .int k' t' => if k = k' then [t = t'] else [False]
    | .bool t, .bool t' => [t = t']
    | .str t, .str t' => [t = t']
    | .fl i x, .fl j y => if e : j = i then [x = e ▸ y] else [False]
    | .rs i x, .rs j y => if e : j = i then [x = e ▸ y] else [False]
    | .agg l, .agg r => eqVL (eqV f) l r
    | .tup l, .tup r => eqVL (eqV f) l r
    | .fn g l, .fn g' r => if g = g' then eqVL (eqV f) l r else [False]
    | .raw v, .raw v' => if rawEq v v' then [] else [False]
    | _, _ => [False]
theorem no_false {p : Prop} (h : Holds [False]) : p := (h False (by simp)).elim
theorem eqVL_ok {rec : SVs σ → SVs σ → List Prop} (hr : ∀ a b, Holds (rec a b) → a = b) : ∀ (l r : List (SVs σ)), Holds (eqVL rec l r) → l = r
  | [], [], _ => rfl
  | [], _ :: _, h => no_false h
  | _ :: _, [], h => no_false h
  | a :: l, b :: r, h => by
    unfold eqVL at h
    rw [hr a b (fun p hp => h p (List.mem_append_left _ hp)), eqVL_ok hr l r (fun p hp => h p (List.mem_append_right _ hp))]
theorem eqV_ok : ∀ (f : Nat) (a b : SVs σ), Holds (eqV f a b) → a = b
  | 0, a, b, h => no_false h
  | f + 1, a, b, h => by
    unfold eqV at h
    split at h
    · split at h
      · rename_i e; subst e; rw [(holds_cons h).1]
      · exact no_false h
    · rw [(holds_cons h).1]
    · rw [(holds_cons h).1]
    · split at h
      · rename_i e; subst e; rw [(holds_cons h).1]
      · exact no_false h
    · split at h
      · rename_i e; subst e; rw [(holds_cons h).1]
      · exact no_false h
    · rw [eqVL_ok (eqV_ok f) _ _ h]
    · rw [eqVL_ok (eqV_ok f) _ _ h]
    · split at h
      · rename_i e; subst e; rw [eqVL_ok (eqV_ok f) _ _ h]
      · exact no_false h
    · split at h
      · rename_i e; rw [rawEq_ok e]
      · exact no_false h
    · exact no_false h
def envV (azs : List (SVs σ)) : Slots σ := fun t => azs[t]?
def retV (X : Cx P D) (con : Con σ) (rl : List ResultVar) (r : SVs σ) (ids' : List (SVs σ)) (s : VS σ) : VT := match s.df, resV X s rl, extIs D (rng con.items.length) con.items (rng con.items.length) s.H with
  | [], some v, some (ids2, rem1, _) => match ext D (rng con.items.length) shF (appU rem1 s.H) con.res v with
    | some (r2, _, _) => chkL (eqVL (eqV shF) ids2 ids' ++ eqV shF r2 r) .tt
    | none => (.ff 25065 [])
  | _, _, _ => (.ff 25066 [])
def vcB (X : Cx P D) (cons : Cons σ) (hn : Hn σ) (fuel : Nat) (fn : Func) (con : Con σ) (azs : List (SVs σ)) (u : Ups σ) (c1 : Nat) (r : SVs σ) (ids' : List (SVs σ)) : VT := match fn.body with
  | none => (.ff 25068 [])
  | some cd => cond (Nat.ble azs.length fn.ntmps) (asmL (factH D (appU u noH) (keysU u []) ++ factS D azs) (codeV X cons hn fuel fn.ntmps cd ⟨envV azs, appU u noH, c1, [], [], []⟩ fun e s => match e with
    | .nm => retV X con fn.results.toList r ids' s
    | .rt => retV X con fn.results.toList r ids' s
    | _ => (.ff 25072 []))) (.ff 25072 [])
def vcF (X : Cx P D) (cons : List (SVs σ) → List (SVs σ) → Cons σ) (hn : List (SVs σ) → List (SVs σ) → Hn σ) (fuel : Nat) (fn : Func) (con : Con σ) : VT :=
  hvIs con.items fun ids => hvL (hv shF) con.args fun ads => asmL (con.pre ads ids) (.both (chkL (con.fact ads ids) .tt) (match ConIn con ids ads, con.spec ads ids with
    | some (azs, u, c1, _), some (r, ids') => vcB X (cons ads ids) (hn ads ids) fuel fn con azs u c1 r ids'
    | _, _ => .tt))
def ConAt (P : Program) (D : Df (Ty σ)) (Tab : Ghost → Prop) (f : Nat) (con : Con σ) (ids ads : List (SVs σ)) : Prop := ∀ azs u c1 nb r ids', okCs con ids ads = true → ConIn con ids ads = some (azs, u, c1, nb) → con.spec ads ids = some (r, ids') → Holds (con.pre ads ids) → Holds (con.fact ads ids) ∧ ∀ v u' c3, ConOut con r ids' c1 = some (v, u', c3) →
  ∀ (w : World) (h : Ghost) (B : Nat → Prop) (φ : Ph) (Vs : List Value), Tab h → VRel D.kd ⟨B, h⟩ w φ h (appU u noH) w → LR D.kd φ h azs Vs → (∀ n, c1 ≤ n → φ n = none) →
    Calls P f Vs.toArray w fun e w' => ∃ φ' h' V, e = .returned V ∧ VRel D.kd ⟨B, h⟩ w φ' h' (appU u' noH) w' ∧ VR D.kd φ' h' v V ∧ ∀ j, j < con.items.length → ∀ x, φ j = some x → φ' j = some x
theorem ConOK.of {Tab : Ghost → Prop} {f : Nat} {con : Con σ} (h : ∀ ids ads, ConAt P D Tab f con ids ads) : ConOK P D Tab f con := fun ids ads => h ids ads
section
variable {Tab : Ghost → Prop} {X : Cx P D} {f : Nat} {fn : Func} {con : Con σ}
theorem enter_rel {φ : Ph} {h : Ghost} {azs : List (SVs σ)} {Vs : List Value} {H : HFs σ} {n c : Nat} {w : World} (R : VRel D.kd base w0 φ h H w) (hv : LR D.kd φ h azs Vs) (hn : azs.length ≤ n) (hd : ∀ m, c ≤ m → φ m = none) :
    SRel D base w0 ⟨c, φ, H, envV azs⟩ n φ h ⟨envV azs, H, c, [], [], []⟩ { tmps := Vs.toArray ++ Array.replicate (n - Vs.toArray.size) undef, defers := [] } w := by
  have hl := LR_len hv
  refine ⟨R, fun t v _ ht => ?_, by simp; omega, hd, Nat.le_refl _, fun _ _ => rfl, fun _ _ => rfl, fun _ _ => rfl, rfl⟩
  obtain ⟨x, h1, h2⟩ := LR_get hv (show azs[t]? = some v from ht)
  have : en ({ tmps := Vs.toArray ++ Array.replicate (n - Vs.toArray.size) undef, defers := [] } : Act) t = x := by
    have hlt : t < Vs.length := (List.getElem?_eq_some_iff.1 h1).1
    simp only [en, Array.getD_eq_getD_getElem?, Array.getElem?_append, List.size_toArray, hlt, if_true]
    simp [h1]
  rw [this]; exact h2
theorem con_at (hm : P.follows .mixedOrders = true) (hTab : ∀ h h', Le h h' → Tab h → Tab h') {cons : List (SVs σ) → List (SVs σ) → Cons σ} {hn : List (SVs σ) → List (SVs σ) → Hn σ} {fuel : Nat} (hf : P.funcs[f]? = some fn) (hv : (vcF X cons hn fuel fn con).H) {ids ads : List (SVs σ)} (hcons : Holds (con.pre ads ids) → ConsOK P D Tab (cons ads ids)) :
    ConAt P D Tab f con ids ads := by
  intro azs u c1 nb r ids' hok hin hsp hpre
  unfold okCs at hok; rw [Bool.and_eq_true] at hok
  have hv := asmL_H (hvL_H (hv_H shF) _ _ _ (hvIs_H _ _ _ hv hok.1) hok.2) hpre
  obtain ⟨hfact, hv⟩ : _ ∧ VT.H _ := hv
  refine ⟨(chkL_H hfact).1, fun vo u' c3 hout w h B φ Vs hT R hV hd => ?_⟩
  rw [hin, hsp] at hv
  have hv : (vcB X (cons ads ids) (hn ads ids) fuel fn con azs u c1 r ids').H := hv
  unfold vcB at hv
  split at hv
  · exact hv.elim
  · rename_i cd hb
    cases hle : Nat.ble azs.length fn.ntmps with
    | false => rw [hle] at hv; exact hv.elim
    | true =>
      rw [hle] at hv; simp only [cond_true] at hv
      have hv := asmL_H hv (holds_app (factH_ok R _) (factS_ok hV))
      have S0 := enter_rel (base := ⟨B, h⟩) (w0 := w) R hV (Nat.le_of_ble_eq_true hle) hd
      refine calls_of_wp hf hb (codeV_ok (base := ⟨B, h⟩) (w0 := w) hm hTab hT (hcons hpre) fuel _ _ _ _ ⟨c1, φ, appU u noH, envV azs⟩ _ hv (fun e s φ2 h2 a2 w2 hk S => ?_) φ h _ w S0)
      have fin : (retV X con fn.results.toList r ids' s).H → a2.defers = [] ∧ ∃ v, (results fn a2.tmps).run P w2 = .ok v w2 ∧ ∃ φ' h' V, Ending.returned v = Ending.returned V ∧ VRel D.kd ⟨B, h⟩ w φ' h' (appU u' noH) w2 ∧ VR D.kd φ' h' vo V ∧ ∀ j, j < con.items.length → ∀ x, φ j = some x → φ' j = some x := fun hk => by
        unfold retV at hk
        split at hk
        · rename_i v2 ids2 rem1 F1 hdf hres hei
          split at hk
          · rename_i r2 rem2 F2 her
            obtain ⟨q, _⟩ := chkL_H hk
            have q1 := eqVL_ok (eqV_ok shF) _ _ (fun p hp => q p (List.mem_append_left _ hp))
            have q2 := eqV_ok shF _ _ (fun p hp => q p (List.mem_append_right _ hp))
            subst q1; subst q2
            obtain ⟨V, hrun, hVV⟩ := resV_ok S hres
            unfold ConOut at hout
            split at hout
            · rename_i u2 c2 ho1
              split at hout
              · rename_i v3 u3 c4 ho2
                injection hout with hout; injection hout with e1 e2; injection e2 with e2 e3; subst e1; subst e2; subst e3
                have hc1 : con.items.length ≤ c1 := by
                  unfold ConIn at hin
                  split at hin
                  · rename_i u0 c0 hin0
                    have z0 := (insIs_keys _ _ _ _ _ _ hin0).1
                    split at hin
                    · rename_i azs' u1 c1' hin1
                      have z1 := (insL_keys (ins_keys shF) _ _ _ _ _ _ hin1).1
                      injection hin with hin; injection hin with e1 e2; injection e2 with e2 e3; injection e3 with e3 e4
                      omega
                    · cases hin
                  · cases hin
                have eL : extL (ext D (rng con.items.length) shF) [con.res] [v2] (appU rem1 s.H) = some ([r2], rem2 ++ [], F2 ++ []) := by
                  unfold extL; rw [her]; unfold extL; rfl
                have iL : insL (ins (rng con.items.length) shF) [con.res] [r2] c2 = some ([v3], u3 ++ [], c4) := by
                  unfold insL; rw [ho2]; unfold insL; rfl
                obtain ⟨_, φ', h', m1, m2, m3, m4, m5⟩ := moveOut S.mem (by unfold rng; exact List.nodup_range) (c := c1) (fun n hn => by unfold rng at hn; have := List.mem_range.1 hn; omega) hei eL ho1 iL
                rw [List.append_nil] at m4
                have hl := m5 [V] (LR_cons.2 ⟨V, [], rfl, hVV, LR_nil.2 rfl⟩)
                obtain ⟨x, xs, e1, e2, _⟩ := LR_cons.1 hl
                injection e1 with e1 _; subst e1
                have hdfs := S.dfs
                rw [hdf] at hdfs
                refine ⟨hdfs, V, hrun, φ', h', V, rfl, ?_, e2, fun j hj x hx => ?_⟩
                · have := m4.right; rwa [List.append_nil] at this
                · rw [m2 j (by omega), S.keep j (by show j < c1; omega)]; exact hx
              · cases hout
            · cases hout
          · exact hk.elim
        · exact hk.elim
      cases e with
      | nm => exact fin hk
      | rt => exact fin hk
      | ex id => exact hk.elim
      | pn v => exact hk.elim
theorem con_ok (hm : P.follows .mixedOrders = true) (hTab : ∀ h h', Le h h' → Tab h → Tab h') {cons : Cons σ} {hn : List (SVs σ) → List (SVs σ) → Hn σ} {fuel : Nat} (hf : P.funcs[f]? = some fn) (hcons : ConsOK P D Tab cons) (hv : (vcF X (fun _ _ => cons) hn fuel fn con).H) : ConOK P D Tab f con :=
  ConOK.of fun ids ads => con_at hm hTab hf hv fun _ => hcons
def lookC (g : Nat) : List (Nat × Con σ) → List (Con σ)
  | [] => []
  | (f, con) :: l => cond (Nat.beq f g) (con :: lookC g l) (lookC g l)
theorem lookC_ok : ∀ {l : List (Nat × Con σ)}, (∀ p ∈ l, ConOK P D Tab p.1 p.2) → ConsOK P D Tab (fun g => lookC g l)
  | [], _ => fun g con h => (by cases h)
  | (f, c0) :: l, hl => fun g con h => by
    have h : con ∈ cond (Nat.beq f g) (c0 :: lookC g l) (lookC g l) := h
    have ih := lookC_ok (l := l) (fun p hp => hl p (List.mem_cons_of_mem _ hp)) g con
    cases hb : Nat.beq f g with
    | false => rw [hb] at h; exact ih h
    | true =>
      rw [hb] at h
      have := Nat.eq_of_beq_eq_true hb; subst this
      rcases List.mem_cons.1 h with e | e
      · subst e; exact hl (f, con) (by simp)
      · exact ih e
end
end Gx
namespace Gx
open Go Go.RowKit
set_option linter.unusedSimpArgs false
set_option linter.unusedSectionVars false
set_option linter.unusedVariables false
def Opens {α : Type} (P : Program) (k : Kd α) (t : TypeId) : Prop :=
  ∀ {H : Type} {enc : TypeId × Value → H} {w : World} {spare : Nat → Bool} {held : Bool} {fuel : Nat} {cs : List Value} {x : DataW H × List MemPlace}, DataW.trod enc P w 0 spare held fuel t cs = some x → ∃ m, k.rep (hp w) m cs
section
variable {P : Program} {t e : TypeId}
theorem inK_wf {k : IntKind} {n : Int} (h : (Lit.int k n).wf = true) : inK k n := by
  simp only [Lit.wf, Bool.and_eq_true, decide_eq_true_eq] at h
  exact h
theorem Opens.int {k : IntKind} (ht : P.underlying t = some (.int k)) : Opens P (Kd.int k) t := fun h => by
  obtain ⟨n, rfl, _, hw⟩ := DataW.trod_int ht h
  exact ⟨n, rfl, inK_wf hw⟩
theorem Opens.bool (ht : P.underlying t = some .bool) : Opens P Kd.bool t := fun h => by
  obtain ⟨b, rfl, _⟩ := DataW.trod_bool ht h
  exact ⟨b, rfl, trivial⟩
theorem Opens.string (ht : P.underlying t = some .string) : Opens P Kd.string t := fun h => by
  obtain ⟨s, rfl, _, hs⟩ := DataW.trod_string ht h
  exact ⟨s, rfl, hs⟩
theorem exists_list {α : Type} {Q : Nat → α → Prop} : ∀ (n : Nat), (∀ i, i < n → ∃ m, Q i m) → ∃ l : List α, l.length = n ∧ ∀ i m, l[i]? = some m → Q i m
  | 0, _ => ⟨[], rfl, fun i m h => by simp at h⟩
  | n + 1, h => by
    obtain ⟨l, hl, hq⟩ := exists_list n fun i hi => h i (by omega)
    obtain ⟨m, hm⟩ := h n (by omega)
    refine ⟨l ++ [m], by simp [hl], fun i y hy => ?_⟩
    rw [List.getElem?_append] at hy
    split at hy
    · exact hq i y hy
    · rename_i hi
      have e : i - l.length = 0 := by
        rcases Nat.eq_zero_or_pos (i - l.length) with h0 | h0
        · exact h0
        · rw [List.getElem?_eq_none (by simp; omega)] at hy; cases hy
      rw [e] at hy
      simp at hy
      subst hy
      have : i = n := by omega
      rw [this]; exact hm
theorem Opens.ints {k : IntKind} {n : Nat} (hn : 0 < n) (ht : P.underlying t = some (.array n e)) (he : P.underlying e = some (.int k)) (hc : P.cellsOf e = 1) (hct : P.cellsOf t = n) : Opens P (kInts k n hn) t := fun {H enc w spare held fuel cs x} h => by
  obtain ⟨xs, m, _, _, hl, hx, hel⟩ := DataW.trod_array ht h
  rw [hct] at hl
  have h1 : ∀ i, i < n → ∃ z : Int, cs[i]? = some (.int k z) ∧ inK k z := fun i hi => by
    have h2 := hel i hi
    rw [hc, Nat.mul_one, List.getElem?_eq_getElem (by omega)] at h2
    obtain ⟨z, hz, _, hw⟩ := DataW.trod_int he h2
    refine ⟨z, ?_, inK_wf hw⟩
    have h3 := congrArg (fun l : List Value => l[0]?) hz
    simpa [List.getElem?_take, List.getElem?_drop] using h3
  obtain ⟨l, hll, hq⟩ := exists_list n h1
  refine ⟨l, ?_, hll, fun z hz => ?_⟩
  · apply List.ext_getElem?
    intro i
    rw [encInts, List.getElem?_map]
    by_cases hi : i < n
    · have h4 := hq i (l[i]'(by omega)) (List.getElem?_eq_getElem _)
      rw [h4.1, List.getElem?_eq_getElem (by omega)]; rfl
    · rw [List.getElem?_eq_none (by omega), List.getElem?_eq_none (by omega)]; rfl
  · obtain ⟨i, hi⟩ := List.mem_iff_getElem?.1 hz
    exact (hq i z hi).2
theorem Opens.set (ht : P.underlying t = some (.array 4 e)) (he : P.underlying e = some (.int .u64)) (hc : P.cellsOf e = 1) (hct : P.cellsOf t = 4) : Opens P kSet t := fun h => by
  obtain ⟨l, hl, hok⟩ := Opens.ints (n := 4) (by omega) ht he hc hct h
  exact ⟨ofWords l, by rw [hl, encSet_of hok], trivial⟩
theorem Opens.slice {α : Type} {k : Kd α} (ht : P.underlying t = some (.slice e)) (hc : P.cellsOf e = k.sz) (ho : Opens P k e) : Opens P k.slice t := fun {H enc w spare held fuel cs x} h => by
  rcases DataW.trod_slice ht h with ⟨rfl, _⟩ | ⟨a, len, cap, elems, rest, n, _, rfl, _, _, hl, hm, hlen, hel, _, _⟩
  · exact ⟨[], none, 0, rfl, Nat.le_refl _, by simp [maxLen], fun hne => (hne rfl).elim⟩
  · rw [hc] at hel
    have h1 : ∀ i, i < len → ∃ m, ∃ seg, k.rep (hp w) m seg ∧ ∀ j v, seg[j]? = some v → gcell (hp w) (a.add (i * k.sz + j)) = some v := fun i hi => by
      have h2 := hel i hi
      rw [List.getElem?_eq_getElem (by omega)] at h2
      obtain ⟨seg, hseg, hd⟩ := Option.bind_eq_some_iff.1 h2
      obtain ⟨m, hr⟩ := ho hd
      refine ⟨m, seg, hr, fun j v hj => ?_⟩
      obtain ⟨_, hlen2, hcell⟩ := World.cells?_some hseg
      have hjl : j < k.sz := by
        have := (List.getElem?_eq_some_iff.1 hj).1
        rw [k.len hr] at this; exact this
      have h5 := hcell j hjl
      rw [hj] at h5
      rw [Addr.add_add] at h5
      show gcell (hp w) _ = _
      unfold gcell hp
      unfold World.cell? at h5
      exact h5
    obtain ⟨l, hll, hq⟩ := exists_list len h1
    refine ⟨l, some a, cap, by rw [hll], by omega, hm, fun _ => ⟨a, rfl, hq⟩⟩
end
end Gx
namespace Gx
open Go Go.RowKit
set_option linter.unusedSimpArgs false
set_option linter.unusedSectionVars false
set_option linter.unusedVariables false
section
variable {P : Program} {t : TypeId}
theorem trod_field {H : Type} {enc : TypeId × Value → H} {w : World} {spare : Nat → Bool} {held : Bool} {fuel : Nat} {cs : List Value} {x : DataW H × List MemPlace} {α : Type} {k : Kd α} {q o ft : Nat} (hf : fieldInfo P t q = some (o, ft)) (hc : P.cellsOf ft = k.sz) (ho : Opens P k ft) (h : DataW.trod enc P w 0 spare held fuel t cs = some x) : ∃ m, k.rep (hp w) m ((cs.drop o).take k.sz) := by
  obtain ⟨fs, fd, hu, hq, rfl, rfl⟩ := fieldInfo_parts hf
  obtain ⟨xs, n, _, _, _, hl, hp⟩ := DataW.trod_struct hu h
  have h1 := hp q fd hq
  have hlt : q < fs.size := (Array.getElem?_eq_some_iff.1 hq).1
  rw [hc, List.getElem?_eq_getElem (by omega)] at h1
  exact ho h1
theorem trod_len {H : Type} {enc : TypeId × Value → H} {w : World} {spare : Nat → Bool} {held : Bool} {fuel : Nat} {cs : List Value} {x : DataW H × List MemPlace} {q o ft : Nat} (hf : fieldInfo P t q = some (o, ft)) (h : DataW.trod enc P w 0 spare held fuel t cs = some x) : cs.length = P.cellsOf t := by
  obtain ⟨fs, fd, hu, hq, rfl, rfl⟩ := fieldInfo_parts hf
  obtain ⟨xs, n, _, _, hl, _, _⟩ := DataW.trod_struct hu h
  exact hl
end
end Gx
namespace Gx
open Go Go.RowKit
set_option linter.unusedSimpArgs false
set_option linter.unusedSectionVars false
set_option linter.unusedVariables false
section
variable {P : Program} {t : TypeId}
theorem parts_of {cs : List Value} {n m : Nat} (h : cs.length = n + m) : cs = (cs.drop 0).take n ++ (cs.drop n).take m := by
  rw [List.drop_zero, List.take_of_length_le (l := cs.drop n) (by simp; omega), List.take_append_drop]
theorem Opens.part {a b : TypeId} (h0 : fieldInfo P t 0 = some (0, a)) (h1 : fieldInfo P t 1 = some (256, b)) (hc : P.cellsOf t = 257) (ha : P.cellsOf a = 256) (hb : P.cellsOf b = 1) (oa : Opens P (kInts .u8 256 (by decide)) a) (ob : Opens P (Kd.int .i64) b) : Opens P kPart t := fun {H enc w spare held fuel cs x} h => by
  obtain ⟨l, e0, ok⟩ := trod_field (k := kInts .u8 256 (by decide)) h0 ha oa h
  obtain ⟨n, e1, hn⟩ := trod_field h1 hb ob h
  have hl := trod_len h0 h
  rw [hc] at hl
  refine ⟨⟨l, n⟩, ?_, ok, hn⟩
  rw [parts_of (n := 256) (m := 1) hl]
  show (cs.drop 0).take (kInts .u8 256 (by decide)).sz ++ (cs.drop 256).take (Kd.int .i64).sz = _
  rw [e0, e1]; rfl
end
end Gx
namespace Gx
open Go Go.RowKit
set_option linter.unusedSimpArgs false
set_option linter.unusedSectionVars false
set_option linter.unusedVariables false
structure NodeM where
  kd : Int
  set : BSet
  na : Int
  nb : Int
  mn : Int
  mx : Int
deriving DecidableEq
instance : Inhabited NodeM := ⟨⟨0, 0, 0, 0, 0, 0⟩⟩
def encNode (x : NodeM) : List Value := [.int .u8 x.kd, .int .u64 (wd x.set 0), .int .u64 (wd x.set 1), .int .u64 (wd x.set 2), .int .u64 (wd x.set 3), .int .i64 x.na, .int .i64 x.nb, .int .i64 x.mn, .int .i64 x.mx]
def okNode (x : NodeM) : Prop := inK .u8 x.kd ∧ inK .i64 x.na ∧ inK .i64 x.nb ∧ inK .i64 x.mn ∧ inK .i64 x.mx
structure PrtM where
  root : Int
  not_ : Bool
deriving DecidableEq
instance : Inhabited PrtM := ⟨⟨0, false⟩⟩
structure TreeM where
  nodes : List NodeM
  parts : List PrtM
instance : Inhabited TreeM := ⟨⟨[], []⟩⟩
section
variable {P : Program} {t : TypeId}
theorem eq_node {T A B K N : TypeId} {b1 b2 : Nat} {z1 z2 z3 z4 : Option Value} {b3 b4 : Nat} (hT : P.underlying T = some (.struct (P.fieldsOf T))) (hp : P.stoodInHeld T = false) (hn : ((P.fieldsOf T).toList.all fun f => f.name != "_") = true) (hL : ((P.fieldsOf T).toList.map fun f => (f.type, f.offset)) = [(K, 0), (A, 1), (N, 5), (N, 6), (N, 7), (N, 8)])
    (hA : P.underlying A = some (.array 4 B)) (hB : P.underlying B = some (.int .u64)) (hN : P.underlying N = some (.int .i64)) (hK : P.underlying K = some (.int .u8)) (tA : tyInfo P A = some (4, b1, true, z1)) (tB : tyInfo P B = some (1, b2, false, z2)) (tN : tyInfo P N = some (1, b3, false, z3)) (tK : tyInfo P K = some (1, b4, false, z4)) : EqK P T encNode okNode :=
  eq_struct hT hp hn hL fun w a b ha hb d => by
    have e : decide (a = b) = (decide (a.kd = b.kd) && (decide (words a.set = words b.set) && (decide (a.na = b.na) && (decide (a.nb = b.nb) && (decide (a.mn = b.mn) && (decide (a.mx = b.mx) && true)))))) := by
      obtain ⟨k, o, n1, n2, n3, n4⟩ := a; obtain ⟨k', o', n1', n2', n3', n4'⟩ := b
      rw [Bool.and_true, Bool.eq_iff_iff]; simp
      intro _ _ _ _ _
      exact ⟨fun h => by rw [h], words_inj⟩
    rw [e]
    refine eqF_cons (part_one (v := .int .u8 a.kd) tK rfl) (part_one (v := .int .u8 b.kd) tK rfl) ?_ (eqF_cons (part_agg (seg := encInts .u64 (words a.set)) tA rfl) (part_agg (seg := encInts .u64 (words b.set)) tA rfl) (eqIn_ints (w := w) hA hB tB (okWords _) (okWords _) (d + 3)) (eqF_cons (part_one (v := .int .i64 a.na) tN rfl) (part_one (v := .int .i64 b.na) tN rfl) ?_ (eqF_cons (part_one (v := .int .i64 a.nb) tN rfl) (part_one (v := .int .i64 b.nb) tN rfl) ?_ (eqF_cons (part_one (v := .int .i64 a.mn) tN rfl) (part_one (v := .int .i64 b.mn) tN rfl) ?_ (eqF_cons (part_one (v := .int .i64 a.mx) tN rfl) (part_one (v := .int .i64 b.mx) tN rfl) ?_ eqF_nil)))))
    · rw [run_equalIn_int w (d + 4) K .u8 .u8 _ _ hK]; congr 1
    all_goals (rw [run_equalIn_int w (d + 4) N .i64 .i64 _ _ hN]; congr 1)
end
structure PieceM where
  sets : List BSet
  follow : List Int
  first : Int
  last : Int
  empty : Bool
instance : Inhabited PieceM := ⟨⟨[], [], 0, 0, false⟩⟩
end Gx
namespace Gx
open Go Go.RowKit
set_option linter.unusedSimpArgs false
set_option linter.unusedVariables false
section
variable {τ : Nat → Type} {kd : ∀ i, Kd (τ i)} {φ : Ph} {h : Ghost} {c : List Value}
theorem toC_int {k : IntKind} {x : Int} (r : (Kd.int k).rep h x c) : C1 kd φ h (.int k x) c := by
  obtain ⟨rfl, r2⟩ := r
  exact ⟨_, rfl, by rw [VR]; exact ⟨rfl, r2⟩, rfl⟩
theorem toC_bool {x : Bool} (r : Kd.bool.rep h x c) : C1 kd φ h (.bool x) c := by
  obtain ⟨rfl, r2⟩ := r
  exact ⟨_, rfl, by rw [VR], rfl⟩
theorem toC_str {x : ByteArray} (r : Kd.string.rep h x c) : C1 kd φ h (.str x) c := by
  obtain ⟨rfl, r2⟩ := r
  exact ⟨_, rfl, by rw [VR]; exact ⟨rfl, r2⟩, rfl⟩
theorem toC_fl {i : Nat} {x : τ i} (r : (kd i).rep h x c) : C1 kd φ h (.fl i x) c := r
theorem toC_rs {i : Nat} {x : List (τ i)} (r : (kd i).slice.rep h x c) : C1 kd φ h (.rs i x) c := by
  obtain ⟨A, n, e, r2⟩ := r
  subst e
  exact ⟨_, rfl, by rw [VR]; exact ⟨A, n, rfl, r2⟩, rfl⟩
def gInt (k : IntKind) : SV τ → Option Int
  | .int k' t => if k' = k then some t else none
  | _ => none
def gBool : SV τ → Option Bool
  | .bool t => some t
  | _ => none
def gStr : SV τ → Option ByteArray
  | .str t => some t
  | _ => none
def gFl (i : Nat) : SV τ → Option (τ i)
  | .fl j x => if e : j = i then some (e ▸ x) else none
  | _ => none
def gRs (i : Nat) : SV τ → Option (List (τ i))
  | .rs j x => if e : j = i then some (e ▸ x) else none
  | .raw (.slice none 0 0) => some []
  | _ => none
theorem gInt_ok {k : IntKind} {v : SV τ} {x : Int} (e : gInt k v = some x) (r : C1 kd φ h v c) : (Kd.int k).rep h x c := by
  unfold gInt at e
  split at e
  · split at e
    · rename_i hk; subst hk; injection e with e; subst e
      obtain ⟨V, rfl, hv, _⟩ := r
      rw [VR] at hv
      exact ⟨by rw [hv.1], hv.2⟩
    · cases e
  · cases e
theorem gBool_ok {v : SV τ} {x : Bool} (e : gBool v = some x) (r : C1 kd φ h v c) : Kd.bool.rep h x c := by
  unfold gBool at e
  split at e
  · injection e with e; subst e
    obtain ⟨V, rfl, hv, _⟩ := r
    rw [VR] at hv
    exact ⟨by rw [hv], trivial⟩
  · cases e
theorem gStr_ok {v : SV τ} {x : ByteArray} (e : gStr v = some x) (r : C1 kd φ h v c) : Kd.string.rep h x c := by
  unfold gStr at e
  split at e
  · injection e with e; subst e
    obtain ⟨V, rfl, hv, _⟩ := r
    rw [VR] at hv
    exact ⟨by rw [hv.1], hv.2⟩
  · cases e
theorem gFl_ok {i : Nat} {v : SV τ} {x : τ i} (e : gFl i v = some x) (r : C1 kd φ h v c) : (kd i).rep h x c := by
  unfold gFl at e
  split at e
  · split at e
    · rename_i hk; subst hk; injection e with e; subst e; exact r
    · cases e
  · cases e
theorem gRs_ok {i : Nat} {v : SV τ} {x : List (τ i)} (e : gRs i v = some x) (r : C1 kd φ h v c) : (kd i).slice.rep h x c := by
  unfold gRs at e
  split at e
  · split at e
    · rename_i hk; subst hk; injection e with e; subst e
      obtain ⟨V, rfl, hv, _⟩ := r
      rw [VR] at hv; exact hv
    · cases e
  · injection e with e; subst e
    obtain ⟨V, rfl, hv, _⟩ := r
    rw [VR] at hv; subst hv
    exact ⟨none, 0, rfl, by simp, by simp [maxLen], fun hne => (hne rfl).elim⟩
  · cases e
end
def wtLs {α : Type} (wt : α → Prop) (xs : List α) : Prop := xs.length ≤ maxLen ∧ ∀ x ∈ xs, wt x
theorem rep_wts {α : Type} {k : Kd α} {wt : α → Prop} (hw : ∀ h x seg, k.rep h x seg → wt x) {h : Ghost} {xs : List α} {c : List Value} (r : k.slice.rep h xs c) : wtLs wt xs := by
  obtain ⟨A, n, e, h1, h2, h3⟩ := r
  refine ⟨by omega, fun x hx => ?_⟩
  obtain ⟨q, hq, rfl⟩ := List.mem_iff_getElem.1 hx
  have : Inhabited α := ⟨xs[q]⟩
  obtain ⟨ad, _, seg, h4, _⟩ := h3.seg (i := (q : Int)) (by omega) (by omega)
  have e : at_ xs (q : Int) = xs[q] := by unfold at_; simp [hq]
  rw [e] at h4
  exact hw h _ _ h4
def kdU : Kd Unit where
  sz := 1
  pos := by omega
  rep := fun _ _ _ => False
  mono := fun _ h => h
  len := fun h => h.elim
  one := fun h => h.elim
section
variable {τ : Nat → Type} {kd : ∀ i, Kd (τ i)} {φ : Ph} {h : Ghost} {seg : List Value} {q : Int}
theorem arrInts_get {k : IntKind} {n : Nat} {hp : 0 < n} {x : List Int} (r : (kInts k n hp).rep h x seg) (h0 : 0 ≤ q) (h1 : q < (n : Int)) : ∃ V, seg[q.toNat]? = some V ∧ V.oneCell' = true ∧ ∀ φ, VR kd φ h (.int k (at_ x q)) V := by
  obtain ⟨rfl, ok⟩ := r
  exact ⟨_, encInts_get ok h0 h1, rfl, fun φ => by rw [VR]; exact ⟨rfl, okInts_at ok h0 h1⟩⟩
theorem arrInts_put {k : IntKind} {n : Nat} {hp : 0 < n} {x x' : List Int} {v : SV τ} {V : Value} (r : (kInts k n hp).rep h x seg) (h0 : 0 ≤ q) (h1 : q < (n : Int)) (he : (match gInt k v with | some t => some (x.set q.toNat t) | none => none) = some x') (hv : VR kd φ h v V) : (kInts k n hp).rep h x' (seg.set q.toNat V) := by
  obtain ⟨rfl, ok⟩ := r
  split at he
  · rename_i t ht
    injection he with he; subst he
    unfold gInt at ht
    split at ht
    · split at ht
      · rename_i hk; subst hk; injection ht with ht; subst ht
        rw [VR] at hv
        obtain ⟨rfl, hv⟩ := hv
        exact ⟨by unfold encInts; rw [List.map_set], okInts_set ok _ hv⟩
      · cases ht
    · cases ht
  · cases he
theorem arrBools_get {n : Nat} {hp : 0 < n} {x : List Bool} (r : (kBools n hp).rep h x seg) (h0 : 0 ≤ q) (h1 : q < (n : Int)) : ∃ V, seg[q.toNat]? = some V ∧ V.oneCell' = true ∧ ∀ φ, VR kd φ h (.bool (at_ x q)) V := by
  obtain ⟨rfl, ok⟩ := r
  exact ⟨_, encBools_get ok h0 h1, rfl, fun φ => by rw [VR]⟩
theorem arrBools_put {n : Nat} {hp : 0 < n} {x x' : List Bool} {v : SV τ} {V : Value} (r : (kBools n hp).rep h x seg) (h0 : 0 ≤ q) (h1 : q < (n : Int)) (he : (match gBool v with | some t => some (x.set q.toNat t) | none => none) = some x') (hv : VR kd φ h v V) : (kBools n hp).rep h x' (seg.set q.toNat V) := by
  obtain ⟨rfl, ok⟩ := r
  split at he
  · rename_i t ht
    injection he with he; subst he
    unfold gBool at ht
    split at ht
    · injection ht with ht; subst ht
      rw [VR] at hv; subst hv
      exact ⟨by unfold encBools; rw [List.map_set], okBools_set ok _ _⟩
    · cases ht
  · cases he
theorem arrSet_get {x : BSet} (r : kSet.rep h x seg) (h0 : 0 ≤ q) (h1 : q < ((4 : Nat) : Int)) : ∃ V, seg[q.toNat]? = some V ∧ V.oneCell' = true ∧ ∀ φ, VR kd φ h (.int .u64 (at_ (words x) q)) V := by
  obtain ⟨rfl, _⟩ := r
  exact arrInts_get (hp := by decide) (h := h) ⟨rfl, okWords x⟩ h0 h1
theorem arrSet_put {x x' : BSet} {v : SV τ} {V : Value} (r : kSet.rep h x seg) (h0 : 0 ≤ q) (h1 : q < ((4 : Nat) : Int)) (he : (match gInt .u64 v with | some t => some (ofWords ((words x).set q.toNat t)) | none => none) = some x') (hv : VR kd φ h v V) : kSet.rep h x' (seg.set q.toNat V) := by
  obtain ⟨rfl, _⟩ := r
  split at he
  · rename_i t ht
    injection he with he; subst he
    obtain ⟨e1, e2⟩ := arrInts_put (k := .u64) (n := 4) (hp := by decide) (x := words x) (x' := (words x).set q.toNat t) (seg := encSet x) (v := v) (h := h) (q := q) ⟨rfl, okWords x⟩ h0 h1 (by rw [ht]) hv
    exact ⟨by rw [e1, encSet_of e2], trivial⟩
  · cases he
end
end Gx
namespace Gx
open Go Go.RowKit
set_option linter.unusedSimpArgs false
set_option linter.unusedVariables false
structure MadeM where
  sets : List BSet
  first : List Int
  last : List Int
  follow : List Int
  empty : List Bool
  not_ : List Bool
instance : Inhabited MadeM := ⟨⟨[], [], [], [], [], []⟩⟩
structure ConsM where
  made : MadeM
  of_ : List Int
  first : Int
instance : Inhabited ConsM := ⟨⟨default, [], 0⟩⟩
structure PlaceM where
  set : BSet
  fol : Int
instance : Inhabited PlaceM := ⟨⟨0, 0⟩⟩
@[reducible] def σF : Nat → Type
  | 0 => BSet
  | 1 => Spot
  | 2 => List Int
  | 3 => NodeM
  | 4 => PrtM
  | 5 => TreeM
  | 6 => PieceM
  | 7 => MadeM
  | 8 => List Int
  | 9 => ConsM
  | 10 => PlaceM
  | 11 => List Bool
  | _ => Unit
abbrev TyF := Ty σF
abbrev SF := SV TyF
def kd5 : Kd BSet := kSet
def wt5 : BSet → Prop := fun _ => True
def kd6 : Kd Spot := Kd.iso (Kd.pair kd5 (Kd.int .u8)) (fun x : Spot => (x.set, x.tag))
def wt6 : Spot → Prop := fun x => inK .u8 x.tag
def kd7 : Kd (List Int) := (Kd.int .i64).slice
def wt7 : List Int → Prop := wtLs (inK .i64)
def kd8 : Kd NodeM := Kd.iso (Kd.pair (Kd.int .u8) (Kd.pair kd5 (Kd.pair (Kd.int .i64) (Kd.pair (Kd.int .i64) (Kd.pair (Kd.int .i64) (Kd.int .i64)))))) (fun x : NodeM => (x.kd, (x.set, (x.na, (x.nb, (x.mn, x.mx))))))
def wt8 : NodeM → Prop := fun x => inK .u8 x.kd ∧ inK .i64 x.na ∧ inK .i64 x.nb ∧ inK .i64 x.mn ∧ inK .i64 x.mx
def kd9 : Kd PrtM := Kd.iso (Kd.pair (Kd.int .i64) Kd.bool) (fun x : PrtM => (x.root, x.not_))
def wt9 : PrtM → Prop := fun x => inK .i64 x.root
def kd10 : Kd TreeM := Kd.iso (Kd.pair (kd8).slice (kd9).slice) (fun x : TreeM => (x.nodes, x.parts))
def wt10 : TreeM → Prop := fun x => wtLs (wt8) x.nodes ∧ wtLs (wt9) x.parts
def kd11 : Kd PieceM := Kd.iso (Kd.pair (kd5).slice (Kd.pair (Kd.int .u64).slice (Kd.pair (Kd.int .u64) (Kd.pair (Kd.int .u64) Kd.bool)))) (fun x : PieceM => (x.sets, (x.follow, (x.first, (x.last, x.empty)))))
def wt11 : PieceM → Prop := fun x => wtLs (wt5) x.sets ∧ wtLs (inK .u64) x.follow ∧ inK .u64 x.first ∧ inK .u64 x.last
def kd12 : Kd MadeM := Kd.iso (Kd.pair (kd5).slice (Kd.pair (Kd.int .u64).slice (Kd.pair (Kd.int .u64).slice (Kd.pair (Kd.int .u64).slice (Kd.pair (Kd.bool).slice (Kd.bool).slice))))) (fun x : MadeM => (x.sets, (x.first, (x.last, (x.follow, (x.empty, x.not_))))))
def wt12 : MadeM → Prop := fun x => wtLs (wt5) x.sets ∧ wtLs (inK .u64) x.first ∧ wtLs (inK .u64) x.last ∧ wtLs (inK .u64) x.follow ∧ wtLs (fun _ => True) x.empty ∧ wtLs (fun _ => True) x.not_
def kd13 : Kd (List Int) := kInts .u64 256 (by decide)
def wt13 : List Int → Prop := okInts .u64 256
def kd14 : Kd ConsM := Kd.iso (Kd.pair kd12 (Kd.pair kd13 (Kd.int .u64))) (fun x : ConsM => (x.made, (x.of_, x.first)))
def wt14 : ConsM → Prop := fun x => wt12 x.made ∧ wt13 x.of_ ∧ inK .u64 x.first
def kd15 : Kd PlaceM := Kd.iso (Kd.pair kd5 (Kd.int .u64)) (fun x : PlaceM => (x.set, x.fol))
def wt15 : PlaceM → Prop := fun x => inK .u64 x.fol
def kd16 : Kd (List Bool) := kBools 256 (by decide)
def wt16 : List Bool → Prop := okBools 256
@[reducible] def kdF : ∀ i, Kd (TyF i)
  | 0 => Kd.int .i64
  | 1 => Kd.int .u8
  | 2 => Kd.int .u64
  | 3 => Kd.bool
  | 4 => Kd.string
  | 5 => kd5
  | 6 => kd6
  | 7 => kd7
  | 8 => kd8
  | 9 => kd9
  | 10 => kd10
  | 11 => kd11
  | 12 => kd12
  | 13 => kd13
  | 14 => kd14
  | 15 => kd15
  | 16 => kd16
  | _ + 17 => kdU
instance inhF : ∀ i, Inhabited (TyF i)
  | 0 => ⟨(0 : Int)⟩
  | 1 => ⟨(0 : Int)⟩
  | 2 => ⟨(0 : Int)⟩
  | 3 => ⟨false⟩
  | 4 => ⟨ByteArray.empty⟩
  | 5 => (inferInstance : Inhabited (BSet))
  | 6 => (inferInstance : Inhabited (Spot))
  | 7 => (inferInstance : Inhabited (List Int))
  | 8 => (inferInstance : Inhabited (NodeM))
  | 9 => (inferInstance : Inhabited (PrtM))
  | 10 => (inferInstance : Inhabited (TreeM))
  | 11 => (inferInstance : Inhabited (PieceM))
  | 12 => (inferInstance : Inhabited (MadeM))
  | 13 => (inferInstance : Inhabited (List Int))
  | 14 => (inferInstance : Inhabited (ConsM))
  | 15 => (inferInstance : Inhabited (PlaceM))
  | 16 => (inferInstance : Inhabited (List Bool))
  | _ + 17 => ⟨()⟩
def opnF : ∀ i, TyF i → List SF
  | 0, x => [.int .i64 x]
  | 1, x => [.int .u8 x]
  | 2, x => [.int .u64 x]
  | 3, x => [.bool x]
  | 4, x => [.str x]
  | 5, x => [.fl 5 x]
  | 6, x => let x : Spot := x; [.fl 5 x.set, .int .u8 x.tag]
  | 7, x => [.rs 0 x]
  | 8, x => let x : NodeM := x; [.int .u8 x.kd, .fl 5 x.set, .int .i64 x.na, .int .i64 x.nb, .int .i64 x.mn, .int .i64 x.mx]
  | 9, x => let x : PrtM := x; [.int .i64 x.root, .bool x.not_]
  | 10, x => let x : TreeM := x; [.rs 8 x.nodes, .rs 9 x.parts]
  | 11, x => let x : PieceM := x; [.rs 5 x.sets, .rs 2 x.follow, .int .u64 x.first, .int .u64 x.last, .bool x.empty]
  | 12, x => let x : MadeM := x; [.rs 5 x.sets, .rs 2 x.first, .rs 2 x.last, .rs 2 x.follow, .rs 3 x.empty, .rs 3 x.not_]
  | 13, x => [.fl 13 x]
  | 14, x => let x : ConsM := x; [.fl 12 x.made, .fl 13 x.of_, .int .u64 x.first]
  | 15, x => let x : PlaceM := x; [.fl 5 x.set, .int .u64 x.fol]
  | 16, x => [.fl 16 x]
  | _ + 17, _ => []
def clsF : ∀ i, List SF → Option (TyF i)
  | 0, [a] => gInt .i64 a
  | 1, [a] => gInt .u8 a
  | 2, [a] => gInt .u64 a
  | 3, [a] => gBool a
  | 4, [a] => gStr a
  | 5, [a] => gFl (τ := TyF) 5 a
  | 6, [a] => gFl (τ := TyF) 6 a
  | 6, [a0, a1] => (match gFl (τ := TyF) 5 a0 with | some a0 => (match gInt .u8 a1 with | some a1 => some (⟨a0, a1⟩ : Spot) | none => none) | none => none)
  | 7, [a] => gRs (τ := TyF) 0 a
  | 8, [a] => gFl (τ := TyF) 8 a
  | 8, [a0, a1, a2, a3, a4, a5] => (match gInt .u8 a0 with | some a0 => (match gFl (τ := TyF) 5 a1 with | some a1 => (match gInt .i64 a2 with | some a2 => (match gInt .i64 a3 with | some a3 => (match gInt .i64 a4 with | some a4 => (match gInt .i64 a5 with | some a5 => some (⟨a0, a1, a2, a3, a4, a5⟩ : NodeM) | none => none) | none => none) | none => none) | none => none) | none => none) | none => none)
  | 9, [a] => gFl (τ := TyF) 9 a
  | 9, [a0, a1] => (match gInt .i64 a0 with | some a0 => (match gBool a1 with | some a1 => some (⟨a0, a1⟩ : PrtM) | none => none) | none => none)
  | 10, [a] => gFl (τ := TyF) 10 a
  | 10, [a0, a1] => (match gRs (τ := TyF) 8 a0 with | some a0 => (match gRs (τ := TyF) 9 a1 with | some a1 => some (⟨a0, a1⟩ : TreeM) | none => none) | none => none)
  | 11, [a] => gFl (τ := TyF) 11 a
  | 11, [a0, a1, a2, a3, a4] => (match gRs (τ := TyF) 5 a0 with | some a0 => (match gRs (τ := TyF) 2 a1 with | some a1 => (match gInt .u64 a2 with | some a2 => (match gInt .u64 a3 with | some a3 => (match gBool a4 with | some a4 => some (⟨a0, a1, a2, a3, a4⟩ : PieceM) | none => none) | none => none) | none => none) | none => none) | none => none)
  | 12, [a] => gFl (τ := TyF) 12 a
  | 12, [a0, a1, a2, a3, a4, a5] => (match gRs (τ := TyF) 5 a0 with | some a0 => (match gRs (τ := TyF) 2 a1 with | some a1 => (match gRs (τ := TyF) 2 a2 with | some a2 => (match gRs (τ := TyF) 2 a3 with | some a3 => (match gRs (τ := TyF) 3 a4 with | some a4 => (match gRs (τ := TyF) 3 a5 with | some a5 => some (⟨a0, a1, a2, a3, a4, a5⟩ : MadeM) | none => none) | none => none) | none => none) | none => none) | none => none) | none => none)
  | 13, [a] => gFl (τ := TyF) 13 a
  | 14, [a] => gFl (τ := TyF) 14 a
  | 14, [a0, a1, a2] => (match gFl (τ := TyF) 12 a0 with | some a0 => (match gFl (τ := TyF) 13 a1 with | some a1 => (match gInt .u64 a2 with | some a2 => some (⟨a0, a1, a2⟩ : ConsM) | none => none) | none => none) | none => none)
  | 14, [a0, a1, a2, a3, a4, a5, a6, a7] => (match gRs (τ := TyF) 5 a0 with | some a0 => (match gRs (τ := TyF) 2 a1 with | some a1 => (match gRs (τ := TyF) 2 a2 with | some a2 => (match gRs (τ := TyF) 2 a3 with | some a3 => (match gRs (τ := TyF) 3 a4 with | some a4 => (match gRs (τ := TyF) 3 a5 with | some a5 => (match gFl (τ := TyF) 13 a6 with | some a6 => (match gInt .u64 a7 with | some a7 => some (⟨⟨a0, a1, a2, a3, a4, a5⟩, a6, a7⟩ : ConsM) | none => none) | none => none) | none => none) | none => none) | none => none) | none => none) | none => none) | none => none)
  | 15, [a] => gFl (τ := TyF) 15 a
  | 15, [a0, a1] => (match gFl (τ := TyF) 5 a0 with | some a0 => (match gInt .u64 a1 with | some a1 => some (⟨a0, a1⟩ : PlaceM) | none => none) | none => none)
  | 16, [a] => gFl (τ := TyF) 16 a
  | _, _ => none
def wtF : ∀ i, TyF i → Prop
  | 0, x => inK .i64 x
  | 1, x => inK .u8 x
  | 2, x => inK .u64 x
  | 3, x => True
  | 4, x => ByteArray.size x ≤ maxLen
  | 5, x => wt5 x
  | 6, x => wt6 x
  | 7, x => wt7 x
  | 8, x => wt8 x
  | 9, x => wt9 x
  | 10, x => wt10 x
  | 11, x => wt11 x
  | 12, x => wt12 x
  | 13, x => wt13 x
  | 14, x => wt14 x
  | 15, x => wt15 x
  | 16, x => wt16 x
  | _ + 17, _ => True
def gfF : Nat → Bool
  | 0 => true
  | 1 => true
  | 2 => true
  | 3 => true
  | 4 => true
  | 5 => true
  | 6 => true
  | 7 => false
  | 8 => true
  | 9 => true
  | 10 => false
  | 11 => false
  | 12 => false
  | 13 => true
  | 14 => false
  | 15 => true
  | 16 => true
  | _ => false
theorem opnF_ok : ∀ i h x seg, (kdF i).rep h x seg → ∀ φ, CR kdF φ h (opnF i x) seg
  | 0, h, x, seg, r => fun φ => CR_single.2 (toC_int r)
  | 1, h, x, seg, r => fun φ => CR_single.2 (toC_int r)
  | 2, h, x, seg, r => fun φ => CR_single.2 (toC_int r)
  | 3, h, x, seg, r => fun φ => CR_single.2 (toC_bool r)
  | 4, h, x, seg, r => fun φ => CR_single.2 (toC_str r)
  | 5, h, x, seg, r => fun φ => CR_single.2 r
  | 6, h, x, seg, r => fun φ => by
    obtain ⟨c0, d0, e0, r0, r1⟩ : Kd.rep kd6 h x seg := r
    exact CR_cons.2 ⟨c0, d0, e0, toC_fl (i := 5) r0, CR_single.2 (toC_int r1)⟩
  | 7, h, x, seg, r => fun φ => CR_single.2 (toC_rs (i := 0) r)
  | 8, h, x, seg, r => fun φ => by
    obtain ⟨c0, d0, e0, r0, ⟨c1, d1, e1, r1, ⟨c2, d2, e2, r2, ⟨c3, d3, e3, r3, ⟨c4, d4, e4, r4, r5⟩⟩⟩⟩⟩ : Kd.rep kd8 h x seg := r
    exact CR_cons.2 ⟨c0, d0, e0, toC_int r0, CR_cons.2 ⟨c1, d1, e1, toC_fl (i := 5) r1, CR_cons.2 ⟨c2, d2, e2, toC_int r2, CR_cons.2 ⟨c3, d3, e3, toC_int r3, CR_cons.2 ⟨c4, d4, e4, toC_int r4, CR_single.2 (toC_int r5)⟩⟩⟩⟩⟩
  | 9, h, x, seg, r => fun φ => by
    obtain ⟨c0, d0, e0, r0, r1⟩ : Kd.rep kd9 h x seg := r
    exact CR_cons.2 ⟨c0, d0, e0, toC_int r0, CR_single.2 (toC_bool r1)⟩
  | 10, h, x, seg, r => fun φ => by
    obtain ⟨c0, d0, e0, r0, r1⟩ : Kd.rep kd10 h x seg := r
    exact CR_cons.2 ⟨c0, d0, e0, toC_rs (i := 8) r0, CR_single.2 (toC_rs (i := 9) r1)⟩
  | 11, h, x, seg, r => fun φ => by
    obtain ⟨c0, d0, e0, r0, ⟨c1, d1, e1, r1, ⟨c2, d2, e2, r2, ⟨c3, d3, e3, r3, r4⟩⟩⟩⟩ : Kd.rep kd11 h x seg := r
    exact CR_cons.2 ⟨c0, d0, e0, toC_rs (i := 5) r0, CR_cons.2 ⟨c1, d1, e1, toC_rs (i := 2) r1, CR_cons.2 ⟨c2, d2, e2, toC_int r2, CR_cons.2 ⟨c3, d3, e3, toC_int r3, CR_single.2 (toC_bool r4)⟩⟩⟩⟩
  | 12, h, x, seg, r => fun φ => by
    obtain ⟨c0, d0, e0, r0, ⟨c1, d1, e1, r1, ⟨c2, d2, e2, r2, ⟨c3, d3, e3, r3, ⟨c4, d4, e4, r4, r5⟩⟩⟩⟩⟩ : Kd.rep kd12 h x seg := r
    exact CR_cons.2 ⟨c0, d0, e0, toC_rs (i := 5) r0, CR_cons.2 ⟨c1, d1, e1, toC_rs (i := 2) r1, CR_cons.2 ⟨c2, d2, e2, toC_rs (i := 2) r2, CR_cons.2 ⟨c3, d3, e3, toC_rs (i := 2) r3, CR_cons.2 ⟨c4, d4, e4, toC_rs (i := 3) r4, CR_single.2 (toC_rs (i := 3) r5)⟩⟩⟩⟩⟩
  | 13, h, x, seg, r => fun φ => CR_single.2 r
  | 14, h, x, seg, r => fun φ => by
    obtain ⟨c0, d0, e0, r0, ⟨c1, d1, e1, r1, r2⟩⟩ : Kd.rep kd14 h x seg := r
    exact CR_cons.2 ⟨c0, d0, e0, toC_fl (i := 12) r0, CR_cons.2 ⟨c1, d1, e1, toC_fl (i := 13) r1, CR_single.2 (toC_int r2)⟩⟩
  | 15, h, x, seg, r => fun φ => by
    obtain ⟨c0, d0, e0, r0, r1⟩ : Kd.rep kd15 h x seg := r
    exact CR_cons.2 ⟨c0, d0, e0, toC_fl (i := 5) r0, CR_single.2 (toC_int r1)⟩
  | 16, h, x, seg, r => fun φ => CR_single.2 r
  | _ + 17, h, x, seg, r => fun φ => CR_nil.2 r.elim
theorem clsF_ok : ∀ i φ h l x seg, clsF i l = some x → CR kdF φ h l seg → (kdF i).rep h x seg := by
  intro i φ h l x seg e r
  unfold clsF at e
  split at e
  · exact gInt_ok e (CR_single.1 r)
  · exact gInt_ok e (CR_single.1 r)
  · exact gInt_ok e (CR_single.1 r)
  · exact gBool_ok e (CR_single.1 r)
  · exact gStr_ok e (CR_single.1 r)
  · exact gFl_ok (i := 5) e (CR_single.1 r)
  · exact gFl_ok (i := 6) e (CR_single.1 r)
  · skip
    split at e; rotate_left
    · cases e
    rename_i b0 h0
    split at e; rotate_left
    · cases e
    rename_i b1 h1
    injection e with e; subst e
    obtain ⟨c0, d0, e0, q0, r⟩ := CR_cons.1 r
    exact (show Kd.rep kd6 h _ seg from ⟨c0, d0, e0, gFl_ok (i := 5) h0 q0, gInt_ok h1 (CR_single.1 r)⟩)
  · exact gRs_ok (i := 0) e (CR_single.1 r)
  · exact gFl_ok (i := 8) e (CR_single.1 r)
  · skip
    split at e; rotate_left
    · cases e
    rename_i b0 h0
    split at e; rotate_left
    · cases e
    rename_i b1 h1
    split at e; rotate_left
    · cases e
    rename_i b2 h2
    split at e; rotate_left
    · cases e
    rename_i b3 h3
    split at e; rotate_left
    · cases e
    rename_i b4 h4
    split at e; rotate_left
    · cases e
    rename_i b5 h5
    injection e with e; subst e
    obtain ⟨c0, d0, e0, q0, r⟩ := CR_cons.1 r
    obtain ⟨c1, d1, e1, q1, r⟩ := CR_cons.1 r
    obtain ⟨c2, d2, e2, q2, r⟩ := CR_cons.1 r
    obtain ⟨c3, d3, e3, q3, r⟩ := CR_cons.1 r
    obtain ⟨c4, d4, e4, q4, r⟩ := CR_cons.1 r
    exact (show Kd.rep kd8 h _ seg from ⟨c0, d0, e0, gInt_ok h0 q0, ⟨c1, d1, e1, gFl_ok (i := 5) h1 q1, ⟨c2, d2, e2, gInt_ok h2 q2, ⟨c3, d3, e3, gInt_ok h3 q3, ⟨c4, d4, e4, gInt_ok h4 q4, gInt_ok h5 (CR_single.1 r)⟩⟩⟩⟩⟩)
  · exact gFl_ok (i := 9) e (CR_single.1 r)
  · skip
    split at e; rotate_left
    · cases e
    rename_i b0 h0
    split at e; rotate_left
    · cases e
    rename_i b1 h1
    injection e with e; subst e
    obtain ⟨c0, d0, e0, q0, r⟩ := CR_cons.1 r
    exact (show Kd.rep kd9 h _ seg from ⟨c0, d0, e0, gInt_ok h0 q0, gBool_ok h1 (CR_single.1 r)⟩)
  · exact gFl_ok (i := 10) e (CR_single.1 r)
  · skip
    split at e; rotate_left
    · cases e
    rename_i b0 h0
    split at e; rotate_left
    · cases e
    rename_i b1 h1
    injection e with e; subst e
    obtain ⟨c0, d0, e0, q0, r⟩ := CR_cons.1 r
    exact (show Kd.rep kd10 h _ seg from ⟨c0, d0, e0, gRs_ok (i := 8) h0 q0, gRs_ok (i := 9) h1 (CR_single.1 r)⟩)
  · exact gFl_ok (i := 11) e (CR_single.1 r)
  · skip
    split at e; rotate_left
    · cases e
    rename_i b0 h0
    split at e; rotate_left
    · cases e
    rename_i b1 h1
    split at e; rotate_left
    · cases e
    rename_i b2 h2
    split at e; rotate_left
    · cases e
    rename_i b3 h3
    split at e; rotate_left
    · cases e
    rename_i b4 h4
    injection e with e; subst e
    obtain ⟨c0, d0, e0, q0, r⟩ := CR_cons.1 r
    obtain ⟨c1, d1, e1, q1, r⟩ := CR_cons.1 r
    obtain ⟨c2, d2, e2, q2, r⟩ := CR_cons.1 r
    obtain ⟨c3, d3, e3, q3, r⟩ := CR_cons.1 r
    exact (show Kd.rep kd11 h _ seg from ⟨c0, d0, e0, gRs_ok (i := 5) h0 q0, ⟨c1, d1, e1, gRs_ok (i := 2) h1 q1, ⟨c2, d2, e2, gInt_ok h2 q2, ⟨c3, d3, e3, gInt_ok h3 q3, gBool_ok h4 (CR_single.1 r)⟩⟩⟩⟩)
  · exact gFl_ok (i := 12) e (CR_single.1 r)
  · skip
    split at e; rotate_left
    · cases e
    rename_i b0 h0
    split at e; rotate_left
    · cases e
    rename_i b1 h1
    split at e; rotate_left
    · cases e
    rename_i b2 h2
    split at e; rotate_left
    · cases e
    rename_i b3 h3
    split at e; rotate_left
    · cases e
    rename_i b4 h4
    split at e; rotate_left
    · cases e
    rename_i b5 h5
    injection e with e; subst e
    obtain ⟨c0, d0, e0, q0, r⟩ := CR_cons.1 r
    obtain ⟨c1, d1, e1, q1, r⟩ := CR_cons.1 r
    obtain ⟨c2, d2, e2, q2, r⟩ := CR_cons.1 r
    obtain ⟨c3, d3, e3, q3, r⟩ := CR_cons.1 r
    obtain ⟨c4, d4, e4, q4, r⟩ := CR_cons.1 r
    exact (show Kd.rep kd12 h _ seg from ⟨c0, d0, e0, gRs_ok (i := 5) h0 q0, ⟨c1, d1, e1, gRs_ok (i := 2) h1 q1, ⟨c2, d2, e2, gRs_ok (i := 2) h2 q2, ⟨c3, d3, e3, gRs_ok (i := 2) h3 q3, ⟨c4, d4, e4, gRs_ok (i := 3) h4 q4, gRs_ok (i := 3) h5 (CR_single.1 r)⟩⟩⟩⟩⟩)
  · exact gFl_ok (i := 13) e (CR_single.1 r)
  · exact gFl_ok (i := 14) e (CR_single.1 r)
  · skip
    split at e; rotate_left
    · cases e
    rename_i b0 h0
    split at e; rotate_left
    · cases e
    rename_i b1 h1
    split at e; rotate_left
    · cases e
    rename_i b2 h2
    injection e with e; subst e
    obtain ⟨c0, d0, e0, q0, r⟩ := CR_cons.1 r
    obtain ⟨c1, d1, e1, q1, r⟩ := CR_cons.1 r
    exact (show Kd.rep kd14 h _ seg from ⟨c0, d0, e0, gFl_ok (i := 12) h0 q0, ⟨c1, d1, e1, gFl_ok (i := 13) h1 q1, gInt_ok h2 (CR_single.1 r)⟩⟩)
  · skip
    split at e; rotate_left
    · cases e
    rename_i b0 h0
    split at e; rotate_left
    · cases e
    rename_i b1 h1
    split at e; rotate_left
    · cases e
    rename_i b2 h2
    split at e; rotate_left
    · cases e
    rename_i b3 h3
    split at e; rotate_left
    · cases e
    rename_i b4 h4
    split at e; rotate_left
    · cases e
    rename_i b5 h5
    split at e; rotate_left
    · cases e
    rename_i b6 h6
    split at e; rotate_left
    · cases e
    rename_i b7 h7
    injection e with e; subst e
    obtain ⟨c0, d0, e0, q0, r⟩ := CR_cons.1 r
    obtain ⟨c1, d1, e1, q1, r⟩ := CR_cons.1 r
    obtain ⟨c2, d2, e2, q2, r⟩ := CR_cons.1 r
    obtain ⟨c3, d3, e3, q3, r⟩ := CR_cons.1 r
    obtain ⟨c4, d4, e4, q4, r⟩ := CR_cons.1 r
    obtain ⟨c5, d5, e5, q5, r⟩ := CR_cons.1 r
    obtain ⟨c6, d6, e6, q6, r⟩ := CR_cons.1 r
    have q7 := CR_single.1 r
    have ec : seg = ((c0 ++ (c1 ++ (c2 ++ (c3 ++ (c4 ++ c5))))) ++ (c6 ++ d6)) := by subst_vars; simp only [List.append_assoc]
    rw [ec]; exact (show Kd.rep kd14 h _ _ from ⟨(c0 ++ (c1 ++ (c2 ++ (c3 ++ (c4 ++ c5))))), (c6 ++ d6), rfl, ⟨c0, (c1 ++ (c2 ++ (c3 ++ (c4 ++ c5)))), rfl, gRs_ok (i := 5) h0 q0, ⟨c1, (c2 ++ (c3 ++ (c4 ++ c5))), rfl, gRs_ok (i := 2) h1 q1, ⟨c2, (c3 ++ (c4 ++ c5)), rfl, gRs_ok (i := 2) h2 q2, ⟨c3, (c4 ++ c5), rfl, gRs_ok (i := 2) h3 q3, ⟨c4, c5, rfl, gRs_ok (i := 3) h4 q4, gRs_ok (i := 3) h5 q5⟩⟩⟩⟩⟩, ⟨c6, d6, rfl, gFl_ok (i := 13) h6 q6, gInt_ok h7 q7⟩⟩)
  · exact gFl_ok (i := 15) e (CR_single.1 r)
  · skip
    split at e; rotate_left
    · cases e
    rename_i b0 h0
    split at e; rotate_left
    · cases e
    rename_i b1 h1
    injection e with e; subst e
    obtain ⟨c0, d0, e0, q0, r⟩ := CR_cons.1 r
    exact (show Kd.rep kd15 h _ seg from ⟨c0, d0, e0, gFl_ok (i := 5) h0 q0, gInt_ok h1 (CR_single.1 r)⟩)
  · exact gFl_ok (i := 16) e (CR_single.1 r)
  · cases e
theorem wtF_ok : ∀ i h x seg, (kdF i).rep h x seg → wtF i x
  | 0, h, x, seg, r => r.2
  | 1, h, x, seg, r => r.2
  | 2, h, x, seg, r => r.2
  | 3, h, x, seg, r => trivial
  | 4, h, x, seg, r => r.2
  | 5, h, x, seg, r => trivial
  | 6, h, x, seg, r => by
    obtain ⟨c0, d0, e0, r0, r1⟩ : Kd.rep kd6 h x seg := r
    exact r1.2
  | 7, h, x, seg, r => rep_wts (wtF_ok 0) r
  | 8, h, x, seg, r => by
    obtain ⟨c0, d0, e0, r0, ⟨c1, d1, e1, r1, ⟨c2, d2, e2, r2, ⟨c3, d3, e3, r3, ⟨c4, d4, e4, r4, r5⟩⟩⟩⟩⟩ : Kd.rep kd8 h x seg := r
    exact ⟨r0.2, r2.2, r3.2, r4.2, r5.2⟩
  | 9, h, x, seg, r => by
    obtain ⟨c0, d0, e0, r0, r1⟩ : Kd.rep kd9 h x seg := r
    exact r0.2
  | 10, h, x, seg, r => by
    obtain ⟨c0, d0, e0, r0, r1⟩ : Kd.rep kd10 h x seg := r
    exact ⟨rep_wts (wtF_ok 8) r0, rep_wts (wtF_ok 9) r1⟩
  | 11, h, x, seg, r => by
    obtain ⟨c0, d0, e0, r0, ⟨c1, d1, e1, r1, ⟨c2, d2, e2, r2, ⟨c3, d3, e3, r3, r4⟩⟩⟩⟩ : Kd.rep kd11 h x seg := r
    exact ⟨rep_wts (wtF_ok 5) r0, rep_wts (wtF_ok 2) r1, r2.2, r3.2⟩
  | 12, h, x, seg, r => by
    obtain ⟨c0, d0, e0, r0, ⟨c1, d1, e1, r1, ⟨c2, d2, e2, r2, ⟨c3, d3, e3, r3, ⟨c4, d4, e4, r4, r5⟩⟩⟩⟩⟩ : Kd.rep kd12 h x seg := r
    exact ⟨rep_wts (wtF_ok 5) r0, rep_wts (wtF_ok 2) r1, rep_wts (wtF_ok 2) r2, rep_wts (wtF_ok 2) r3, rep_wts (wtF_ok 3) r4, rep_wts (wtF_ok 3) r5⟩
  | 13, h, x, seg, r => r.2
  | 14, h, x, seg, r => by
    obtain ⟨c0, d0, e0, r0, ⟨c1, d1, e1, r1, r2⟩⟩ : Kd.rep kd14 h x seg := r
    exact ⟨wtF_ok 12 h _ _ r0, wtF_ok 13 h _ _ r1, r2.2⟩
  | 15, h, x, seg, r => by
    obtain ⟨c0, d0, e0, r0, r1⟩ : Kd.rep kd15 h x seg := r
    exact r1.2
  | 16, h, x, seg, r => r.2
  | _ + 17, h, x, seg, r => trivial
theorem gfF_ok : ∀ i, gfF i = true → ∀ h h' x seg, (kdF i).rep h x seg → (kdF i).rep h' x seg
  | 0, _, h, h', x, seg, r => r
  | 1, _, h, h', x, seg, r => r
  | 2, _, h, h', x, seg, r => r
  | 3, _, h, h', x, seg, r => r
  | 4, _, h, h', x, seg, r => r
  | 5, _, h, h', x, seg, r => r
  | 6, _, h, h', x, seg, r => by
    obtain ⟨c0, d0, e0, r0, r1⟩ : Kd.rep kd6 h x seg := r
    exact (show Kd.rep kd6 h' x seg from ⟨c0, d0, e0, gfF_ok 5 rfl h h' _ _ r0, r1⟩)
  | 7, e, h, h', x, seg, r => by cases e
  | 8, _, h, h', x, seg, r => by
    obtain ⟨c0, d0, e0, r0, ⟨c1, d1, e1, r1, ⟨c2, d2, e2, r2, ⟨c3, d3, e3, r3, ⟨c4, d4, e4, r4, r5⟩⟩⟩⟩⟩ : Kd.rep kd8 h x seg := r
    exact (show Kd.rep kd8 h' x seg from ⟨c0, d0, e0, r0, ⟨c1, d1, e1, gfF_ok 5 rfl h h' _ _ r1, ⟨c2, d2, e2, r2, ⟨c3, d3, e3, r3, ⟨c4, d4, e4, r4, r5⟩⟩⟩⟩⟩)
  | 9, _, h, h', x, seg, r => by
    obtain ⟨c0, d0, e0, r0, r1⟩ : Kd.rep kd9 h x seg := r
    exact (show Kd.rep kd9 h' x seg from ⟨c0, d0, e0, r0, r1⟩)
  | 10, e, h, h', x, seg, r => by cases e
  | 11, e, h, h', x, seg, r => by cases e
  | 12, e, h, h', x, seg, r => by cases e
  | 13, _, h, h', x, seg, r => r
  | 14, e, h, h', x, seg, r => by cases e
  | 15, _, h, h', x, seg, r => by
    obtain ⟨c0, d0, e0, r0, r1⟩ : Kd.rep kd15 h x seg := r
    exact (show Kd.rep kd15 h' x seg from ⟨c0, d0, e0, gfF_ok 5 rfl h h' _ _ r0, r1⟩)
  | 16, _, h, h', x, seg, r => r
  | _ + 17, e, h, h', x, seg, r => by cases e
def arrF : ∀ i, Option (Nat × (TyF i → Int → SF) × (TyF i → Int → SF → Option (TyF i)))
  | 5 => some (4, fun x q => .int .u64 (at_ (words x) q), fun x q v => match gInt .u64 v with | some t => some (ofWords ((words x).set q.toNat t)) | none => none)
  | 13 => some (256, fun (x : List Int) q => .int .u64 (at_ x q), fun (x : List Int) q v => match gInt .u64 v with | some t => some (x.set q.toNat t) | none => none)
  | 16 => some (256, fun (x : List Bool) q => .bool (at_ x q), fun (x : List Bool) q v => match gBool v with | some t => some (x.set q.toNat t) | none => none)
  | _ => none
theorem arrF_get : ∀ i n get put, arrF i = some (n, get, put) → ∀ h x seg q, (kdF i).rep h x seg → 0 ≤ q → q < (n : Int) → ∃ V, seg[q.toNat]? = some V ∧ V.oneCell' = true ∧ ∀ φ, VR kdF φ h (get x q) V := by
  intro i n get put e h x seg q r h0 h1
  unfold arrF at e
  split at e
  · injection e with e; injection e with e1 e2; injection e2 with e2 e3; subst e1; subst e2; subst e3
    exact arrSet_get r h0 h1
  · injection e with e; injection e with e1 e2; injection e2 with e2 e3; subst e1; subst e2; subst e3
    exact arrInts_get r h0 h1
  · injection e with e; injection e with e1 e2; injection e2 with e2 e3; subst e1; subst e2; subst e3
    exact arrBools_get r h0 h1
  · cases e
theorem arrF_put : ∀ i n get put, arrF i = some (n, get, put) → ∀ φ h x x' seg q v V, (kdF i).rep h x seg → 0 ≤ q → q < (n : Int) → put x q v = some x' → VR kdF φ h v V → V.oneCell' = true → (kdF i).rep h x' (seg.set q.toNat V) := by
  intro i n get put e φ h x x' seg q v V r h0 h1 hp hv ho
  unfold arrF at e
  split at e
  · injection e with e; injection e with e1 e2; injection e2 with e2 e3; subst e1; subst e2; subst e3
    exact arrSet_put r h0 h1 hp hv
  · injection e with e; injection e with e1 e2; injection e2 with e2 e3; subst e1; subst e2; subst e3
    exact arrInts_put r h0 h1 hp hv
  · injection e with e; injection e with e1 e2; injection e2 with e2 e3; subst e1; subst e2; subst e3
    exact arrBools_put r h0 h1 hp hv
  · cases e
theorem arrF_len : ∀ i n get put, arrF i = some (n, get, put) → (kdF i).sz = n := by
  intro i n get put e
  unfold arrF at e
  split at e
  · cases e; rfl
  · cases e; rfl
  · cases e; rfl
  · cases e
noncomputable def dqF : ∀ i, DecidableEq (TyF i)
  | 0 => inferInstanceAs (DecidableEq Int)
  | 1 => inferInstanceAs (DecidableEq Int)
  | 2 => inferInstanceAs (DecidableEq Int)
  | 3 => inferInstanceAs (DecidableEq Bool)
  | 4 => inferInstanceAs (DecidableEq ByteArray)
  | 5 => inferInstanceAs (DecidableEq (BSet))
  | 6 => inferInstanceAs (DecidableEq (Spot))
  | 7 => inferInstanceAs (DecidableEq (List Int))
  | 8 => inferInstanceAs (DecidableEq (NodeM))
  | 9 => inferInstanceAs (DecidableEq (PrtM))
  | 13 => inferInstanceAs (DecidableEq (List Int))
  | i => Classical.typeDecidableEq _
def DF_ : Df TyF := ⟨kdF, opnF, clsF, opnF_ok, clsF_ok, wtF, wtF_ok, gfF, gfF_ok, arrF, arrF_get, arrF_put, arrF_len⟩
end Gx
namespace Gx
open Go Go.RowKit
set_option linter.unusedSimpArgs false
set_option linter.unusedVariables false
theorem b_len {α : Type} {wt : α → Prop} {xs : List α} (h : wtLs wt xs) : xs.length ≤ 9223372036854775807 := by
  have := h.1; unfold maxLen at this; omega
theorem b_u64 {x : Int} (h : inK .u64 x) : 0 ≤ x ∧ x ≤ 18446744073709551615 := ⟨u64_lo h, u64_hi h⟩
theorem b_u8 {x : Int} (h : inK .u8 x) : 0 ≤ x ∧ x ≤ 255 := by
  obtain ⟨h1, h2⟩ := h
  simp [IntKind.min, IntKind.max, IntKind.signed, IntKind.bits] at h1 h2
  exact ⟨h1, by omega⟩
theorem b_i64 {x : Int} (h : inK .i64 x) : -9223372036854775808 ≤ x ∧ x ≤ 9223372036854775807 := by
  obtain ⟨h1, h2⟩ := h
  simp [IntKind.min, IntKind.max, IntKind.signed, IntKind.bits] at h1 h2
  exact ⟨h1, by omega⟩
theorem condN {p : Prop} [Decidable p] {t e : Prop} (h1 : ¬ p → t) (h2 : p → e) : cond (!decide p) t e := condI (fun h => h1 (by simpa using h)) (fun h => h2 (by simpa using h))
theorem condNb {b : Bool} {t e : Prop} (h1 : b = false → t) (h2 : b = true → e) : cond (!b) t e := by cases b with
  | true => exact h2 rfl
  | false => exact h1 rfl
def ctzI (x : Int) : Int := (Lib.ctz 64 x.toNat : Nat)
theorem vc_eq {t : VT} {p : Prop} (e : t.H = p) (h : p) : t.H := by rw [e]; exact h
def ZsOK (P : Program) (D : Df TyF) (p : Nat × List SF) : Prop := ∃ n b g z cs, tyInfo P p.1 = some (n, b, g, some z) ∧ z.cells = List.toArray cs ∧ (g = false → n = 1 ∧ cs = [z]) ∧ ∀ φ h, CR D.kd φ h p.2 cs
def ZkOK (P : Program) (D : Df TyF) (p : Nat × (Σ i, TyF i)) : Prop := ∃ n b g z cs, tyInfo P p.1 = some (n, b, g, some z) ∧ z.cells = List.toArray cs ∧ ∀ h, (D.kd p.2.1).rep h p.2.2 cs
def EqOK (P : Program) (D : Df TyF) (dq : ∀ i, DecidableEq (TyF i)) (p : Nat × Nat) : Prop := ∀ h x y sx sy, (D.kd p.2).rep h x sx → (D.kd p.2).rep h y sy → ∀ (e : Env) (w : World) d ty pos af g (a b : Operand) t2, ev e a = .agg (List.toArray sx) → ev e b = .agg (List.toArray sy) →
    (execOp (ev e) ⟨d, .binOp .eql p.1 a b t2, ty, pos, af, g⟩).run P w = .ok (.value (.bool (@decide (x = y) (dq p.2 x y)))) w ∧ (execOp (ev e) ⟨d, .binOp .neq p.1 a b t2, ty, pos, af, g⟩).run P w = .ok (.value (.bool (!(@decide (x = y) (dq p.2 x y))))) w
def lookT0 {α : Type} (t : Nat) : List (Nat × α) → Option α
  | [] => none
  | (u, a) :: l => cond (Nat.beq u t) (some a) (lookT0 t l)
theorem lookT0_mem {α : Type} {t : Nat} {a : α} : ∀ {l : List (Nat × α)}, lookT0 t l = some a → (t, a) ∈ l
  | [], h => by cases h
  | (u, b) :: l, h => by
    unfold lookT0 at h
    cases hb : Nat.beq u t with
    | true => rw [hb] at h; have := Nat.eq_of_beq_eq_true hb; subst this; injection h with h; subst h; simp
    | false => rw [hb] at h; exact List.mem_cons_of_mem _ (lookT0_mem h)
def eqT (t i : Nat) : List (Nat × Nat) → Bool
  | [] => false
  | (u, j) :: l => cond (Nat.beq u t && Nat.beq j i) true (eqT t i l)
theorem eqT_mem {t i : Nat} : ∀ {l : List (Nat × Nat)}, eqT t i l = true → (t, i) ∈ l
  | [], h => by cases h
  | (u, j) :: l, h => by
    unfold eqT at h
    cases hb : (Nat.beq u t && Nat.beq j i) with
    | true =>
      rw [Bool.and_eq_true] at hb
      have h1 := Nat.eq_of_beq_eq_true hb.1; have h2 := Nat.eq_of_beq_eq_true hb.2
      subst h1; subst h2; simp
    | false => rw [hb] at h; exact List.mem_cons_of_mem _ (eqT_mem h)
theorem alls_cons {α : Type} {Q : α → Prop} {a : α} {l : List α} (h : Q a) (hl : ∀ x ∈ l, Q x) : ∀ x ∈ a :: l, Q x := fun x hx => by
  rcases List.mem_cons.1 hx with e | e
  · rw [e]; exact h
  · exact hl x e
theorem alls_nil {α : Type} {Q : α → Prop} : ∀ x ∈ ([] : List α), Q x := fun x hx => by cases hx
noncomputable def mkCx {P : Program} (hm : P.follows .mixedOrders = true) (ktT : List (Nat × Nat)) (zsT : List (Nat × List SF)) (zkT : List (Nat × (Σ i, TyF i))) (eqs : List (Nat × Nat)) (hz : ∀ p ∈ zsT, ZsOK P DF_ p) (hk : ∀ p ∈ zkT, ZkOK P DF_ p) (he : ∀ p ∈ eqs, EqOK P DF_ dqF p) : Cx P DF_ where
  k0 := rfl
  k1 := rfl
  k2 := rfl
  k3 := rfl
  k4 := rfl
  mixed := hm
  kt := fun t => lookT0 t ktT
  zs := fun t => lookT0 t zsT
  zs_ok := fun T l h => hz _ (lookT0_mem h)
  zk := fun t => lookT0 t zkT
  zk_ok := fun T i x h => hk _ (lookT0_mem h)
  deq := dqF
  eqf := fun t i => eqT t i eqs
  eqf_ok := fun T i h => he _ (eqT_mem h)
theorem wd_zero (i : Nat) : wd (0 : BSet) i = 0 := by unfold wd; simp
theorem zero_set {h : Ghost} : (DF_.kd 5).rep h (0 : BSet) [.int .u64 0, .int .u64 0, .int .u64 0, .int .u64 0] := by
  refine ⟨?_, trivial⟩
  show _ = encInts .u64 (words 0)
  unfold words encInts; rw [wd_zero, wd_zero, wd_zero, wd_zero]; rfl
theorem zero_ints {k : IntKind} {n : Nat} {hp : 0 < n} {h : Ghost} (h0 : inK k 0) : (kInts k n hp).rep h (List.replicate n 0) (encInts k (List.replicate n 0)) := ⟨rfl, okInts_rep h0 n⟩
theorem zero_bools {n : Nat} {hp : 0 < n} {h : Ghost} : (kBools n hp).rep h (List.replicate n false) (encBools (List.replicate n false)) := ⟨rfl, okBools_rep n false⟩
theorem zero_slice {α : Type} (k : Kd α) (h : Ghost) : k.slice.rep h [] [.slice none 0 0] := ⟨none, 0, rfl, by simp, by simp [maxLen], fun hne => (hne rfl).elim⟩
theorem dec_dq {i : Nat} {x y : TyF i} (d : Decidable (x = y)) : @decide (x = y) d = @decide (x = y) (dqF i x y) := by congr
theorem EqOK.of {P : Program} {T i : Nat} [dq : DecidableEq (TyF i)] {enc : TyF i → List Value} {ok : TyF i → Prop} (hr : ∀ h x seg, (kdF i).rep h x seg → seg = enc x ∧ ok x) (E : EqK P T enc ok) (hg : P.eqGuardType P.depth T = false) : EqOK P DF_ dqF (T, i) := by
  intro h x y sx sy rx ry e w d ty pos af g a b t2 ha hb
  obtain ⟨rfl, ox⟩ := hr h x sx rx
  obtain ⟨rfl, oy⟩ := hr h y sy ry
  refine ⟨?_, ?_⟩
  · rw [x_eql_agg E ox oy hg ha hb, dec_dq]
  · rw [x_neq_agg E ox oy hg ha hb]
    have : (decide (x ≠ y)) = !(decide (x = y)) := by by_cases h : x = y <;> simp [h]
    rw [this, dec_dq]
theorem EqOK.set {P : Program} {T E b' : Nat} {z : Option Value} (hT : P.underlying T = some (.array 4 E)) (hE : P.underlying E = some (.int .u64)) (ht : tyInfo P E = some (1, b', false, z)) (hg : P.eqGuardType P.depth T = false) : EqOK P DF_ dqF (T, 5) := by
  refine fun h (x : BSet) (y : BSet) sx sy rx ry e w d ty pos af g a b t2 ha hb => ?_
  obtain ⟨rfl, _⟩ : Kd.rep kSet h x sx := rx
  obtain ⟨rfl, _⟩ : Kd.rep kSet h y sy := ry
  have e : decide (x = y) = @decide (x = y) (dqF 5 x y) := dec_dq (i := 5) _
  refine ⟨?_, ?_⟩
  · rw [x_eql_set hT hE ht hg ha hb, e]
  · rw [x_neq_set hT hE ht hg ha hb]
    have e2 : (decide (x ≠ y)) = !(decide (x = y)) := by by_cases h : x = y <;> simp [h]
    rw [e2, e]
theorem rep_node (h : Ghost) (x : NodeM) (seg : List Value) (r : kd8.rep h x seg) : seg = encNode x ∧ okNode x := by
  obtain ⟨c0, d0, e0, ⟨rfl, i0⟩, c1, d1, e1, ⟨rfl, _⟩, c2, d2, e2, ⟨rfl, i2⟩, c3, d3, e3, ⟨rfl, i3⟩, c4, d4, e4, ⟨rfl, i4⟩, ⟨rfl, i5⟩⟩ := r
  subst e4; subst e3; subst e2; subst e1; subst e0
  exact ⟨rfl, i0, i2, i3, i4, i5⟩
end Gx
namespace Go.Proofs.YtgobbgpmdfnfhaaDoor
open Go Go.RowKit Gx
set_option linter.unusedVariables false
set_option maxRecDepth 8000
noncomputable abbrev PX : Program := Tryd.prog
def ktT : List (Nat × Nat) := [(34, 10), (36, 5), (37, 5), (39, 8), (41, 9), (64, 15), (78, 11), (84, 13), (86, 14), (90, 16)]
def zsT : List (Nat × List SF) := [(1, [.raw (.nilFunc)]), (2, [.int .i64 0]), (3, [.int .i64 0]), (4, [.bool false]), (5, [.int .u8 0]), (9, [.str ⟨#[]⟩]), (12, [.int .u64 0]), (13, [.str ⟨#[]⟩, .int .u64 0]), (20, [.raw (.nilIface)]), (21, [.int .i32 0]), (22, [.raw (.slice none 0 0)]), (23, [.raw (.slice none 0 0)]), (24, [.raw (.slice none 0 0)]), (25, [.raw (.slice none 0 0), .raw (.slice none 0 0), .raw (.slice none 0 0), .raw (.slice none 0 0), .raw (.slice none 0 0), .raw (.slice none 0 0)]), (26, [.raw (.slice none 0 0), .raw (.slice none 0 0), .raw (.slice none 0 0), .raw (.slice none 0 0), .raw (.slice none 0 0), .raw (.slice none 0 0)]), (27, [.raw (.nilFunc)]), (28, [.int .i64 0]), (30, [.raw (.nilFunc)]), (31, [.raw (.slice none 0 0)]), (32, [.raw (.slice none 0 0)]), (33, [.raw (.slice none 0 0), .raw (.slice none 0 0)]), (34, [.raw (.slice none 0 0), .raw (.slice none 0 0)]), (35, [.int .u64 0]), (36, [.fl 5 (0 : BSet)]), (37, [.fl 5 (0 : BSet)]), (38, [.int .u8 0, .fl 5 (0 : BSet), .int .i64 0, .int .i64 0, .int .i64 0, .int .i64 0]), (39, [.int .u8 0, .fl 5 (0 : BSet), .int .i64 0, .int .i64 0, .int .i64 0, .int .i64 0]), (40, [.int .i64 0, .bool false]), (41, [.int .i64 0, .bool false]), (42, [.raw (.nilFunc)]), (43, [.raw (.nilFunc)]), (44, [.raw (.nilFunc)]), (45, [.raw (.nilFunc)]), (46, [.raw (.nilFunc)]), (47, [.raw (.nilFunc)]), (48, [.raw (.nilFunc)]), (49, [.raw (.nilFunc)]), (50, [.raw (.pointer none)]), (51, [.raw (.nilFunc)]), (52, [.raw (.nilFunc)]), (53, [.raw (.nilFunc)]), (54, [.raw (.nilFunc)]), (55, [.raw (.nilFunc)]), (56, [.raw (.nilFunc)]), (58, [.raw (.nilFunc)]), (60, [.raw (.nilFunc)]), (61, [.raw (.nilFunc)]), (62, [.raw (.slice none 0 0)]), (63, [.fl 5 (0 : BSet), .int .u64 0]), (64, [.fl 5 (0 : BSet), .int .u64 0]), (65, [.raw (.nilFunc)]), (66, [.raw (.nilFunc)]), (67, [.raw (.nilFunc)]), (71, [.raw (.nilFunc)]), (72, [.raw (.nilFunc)]), (74, [.raw (.nilFunc)]), (75, [.raw (.nilFunc)]), (76, [.raw (.slice none 0 0)]), (77, [.raw (.slice none 0 0), .raw (.slice none 0 0), .int .u64 0, .int .u64 0, .bool false]), (78, [.raw (.slice none 0 0), .raw (.slice none 0 0), .int .u64 0, .int .u64 0, .bool false]), (79, [.raw (.nilFunc)]), (81, [.raw (.nilFunc)]), (82, [.raw (.nilFunc)]), (83, [.raw (.nilFunc)]), (84, [.fl 13 (List.replicate 256 0)]), (85, [.raw (.slice none 0 0), .raw (.slice none 0 0), .raw (.slice none 0 0), .raw (.slice none 0 0), .raw (.slice none 0 0), .raw (.slice none 0 0), .fl 13 (List.replicate 256 0), .int .u64 0]), (86, [.raw (.slice none 0 0), .raw (.slice none 0 0), .raw (.slice none 0 0), .raw (.slice none 0 0), .raw (.slice none 0 0), .raw (.slice none 0 0), .fl 13 (List.replicate 256 0), .int .u64 0]), (87, [.raw (.nilFunc)]), (88, [.raw (.slice none 0 0)]), (89, [.raw (.nilFunc)]), (90, [.fl 16 (List.replicate 256 false)]), (91, [.raw (.nilFunc)]), (92, [.raw (.nilFunc)]), (93, [.int .i64 0, .int .i64 0]), (94, [.int .i64 0, .int .i64 0]), (95, [.raw (.pointer none)]), (96, [.str ⟨#[]⟩, .int .i64 0, .int .i64 0, .raw (.slice none 0 0), .raw (.slice none 0 0)]), (97, [.str ⟨#[]⟩, .int .i64 0, .int .i64 0, .raw (.slice none 0 0), .raw (.slice none 0 0)]), (98, [.raw (.nilFunc)]), (99, [.raw (.slice none 0 0)]), (100, [.raw (.nilFunc)]), (101, [.raw (.nilFunc)]), (102, [.raw (.nilFunc)]), (103, [.raw (.nilFunc)]), (104, [.raw (.nilFunc)]), (105, [.raw (.nilFunc)]), (106, [.raw (.nilFunc)]), (108, [.raw (.nilFunc)]), (109, [.int .u64 0]), (111, [.raw (.map none)]), (112, [.raw (.nilFunc)]), (113, [.int .u8 0, .bool false]), (114, [.int .u8 0, .bool false]), (116, [.raw (.nilFunc)]), (117, [.raw (.nilFunc)]), (118, [.raw (.nilFunc)]), (119, [.raw (.nilFunc)]), (120, [.raw (.nilFunc)]), (121, [.raw (.nilFunc)]), (122, [.raw (.nilFunc)]), (123, [.raw (.nilFunc)]), (125, [.raw (.nilFunc)]), (126, [.raw (.nilFunc)]), (127, [.raw (.nilFunc)]), (128, [.raw (.nilFunc)]), (129, [.raw (.nilFunc)]), (130, [.raw (.nilFunc)]), (131, [.raw (.nilFunc)]), (132, [.raw (.nilFunc)]), (133, [.raw (.nilFunc)]), (134, [.raw (.nilFunc)]), (135, [.raw (.nilFunc)]), (141, [.int .u32 0]), (145, [.raw (.pointer none)])]
def zkT : List (Nat × (Σ i, TyF i)) := [(2, ⟨0, (0 : Int)⟩), (3, ⟨0, (0 : Int)⟩), (4, ⟨3, false⟩), (5, ⟨1, (0 : Int)⟩), (9, ⟨4, (⟨#[]⟩ : ByteArray)⟩), (12, ⟨2, (0 : Int)⟩), (28, ⟨0, (0 : Int)⟩), (34, ⟨10, (⟨[], []⟩ : TreeM)⟩), (35, ⟨2, (0 : Int)⟩), (36, ⟨5, (0 : BSet)⟩), (37, ⟨5, (0 : BSet)⟩), (39, ⟨8, (⟨0, 0, 0, 0, 0, 0⟩ : NodeM)⟩), (41, ⟨9, (⟨0, false⟩ : PrtM)⟩), (64, ⟨15, (⟨0, 0⟩ : PlaceM)⟩), (78, ⟨11, (⟨[], [], 0, 0, false⟩ : PieceM)⟩), (84, ⟨13, (List.replicate 256 0 : List Int)⟩), (99, ⟨7, ([] : List Int)⟩), (109, ⟨2, (0 : Int)⟩)]
theorem zs1 : ZsOK PX DF_ (1, [.raw (.nilFunc)]) := ⟨_, _, _, _, [.nilFunc] ++ [], show tyInfo PX 1 = some (1, 8, false, some (.nilFunc)) by kernel_rfl, by kernel_rfl, (fun _ => ⟨rfl, rfl⟩), fun φ h => CR_cons.2 ⟨([.nilFunc] : List Value), _, rfl, ⟨_, rfl, by rw [VR], rfl⟩, CR_nil.2 rfl⟩⟩
theorem zs2 : ZsOK PX DF_ (2, [.int .i64 0]) := ⟨_, _, _, _, [.int .i64 0] ++ [], show tyInfo PX 2 = some (1, 8, false, some (.int .i64 0)) by kernel_rfl, by kernel_rfl, (fun _ => ⟨rfl, rfl⟩), fun φ h => CR_cons.2 ⟨([.int .i64 0] : List Value), _, rfl, (toC_int ⟨rfl, by constructor <;> decide⟩), CR_nil.2 rfl⟩⟩
theorem zs3 : ZsOK PX DF_ (3, [.int .i64 0]) := ⟨_, _, _, _, [.int .i64 0] ++ [], show tyInfo PX 3 = some (1, 8, false, some (.int .i64 0)) by kernel_rfl, by kernel_rfl, (fun _ => ⟨rfl, rfl⟩), fun φ h => CR_cons.2 ⟨([.int .i64 0] : List Value), _, rfl, (toC_int ⟨rfl, by constructor <;> decide⟩), CR_nil.2 rfl⟩⟩
theorem zs4 : ZsOK PX DF_ (4, [.bool false]) := ⟨_, _, _, _, [.bool false] ++ [], show tyInfo PX 4 = some (1, 1, false, some (.bool false)) by kernel_rfl, by kernel_rfl, (fun _ => ⟨rfl, rfl⟩), fun φ h => CR_cons.2 ⟨([.bool false] : List Value), _, rfl, (toC_bool ⟨rfl, trivial⟩), CR_nil.2 rfl⟩⟩
theorem zs5 : ZsOK PX DF_ (5, [.int .u8 0]) := ⟨_, _, _, _, [.int .u8 0] ++ [], show tyInfo PX 5 = some (1, 1, false, some (.int .u8 0)) by kernel_rfl, by kernel_rfl, (fun _ => ⟨rfl, rfl⟩), fun φ h => CR_cons.2 ⟨([.int .u8 0] : List Value), _, rfl, (toC_int ⟨rfl, by constructor <;> decide⟩), CR_nil.2 rfl⟩⟩
theorem zs9 : ZsOK PX DF_ (9, [.str ⟨#[]⟩]) := ⟨_, _, _, _, [.string ⟨#[]⟩] ++ [], show tyInfo PX 9 = some (1, 16, false, some (.string ⟨#[]⟩)) by kernel_rfl, by kernel_rfl, (fun _ => ⟨rfl, rfl⟩), fun φ h => CR_cons.2 ⟨([.string ⟨#[]⟩] : List Value), _, rfl, (toC_str ⟨rfl, by decide⟩), CR_nil.2 rfl⟩⟩
theorem zs12 : ZsOK PX DF_ (12, [.int .u64 0]) := ⟨_, _, _, _, [.int .u64 0] ++ [], show tyInfo PX 12 = some (1, 8, false, some (.int .u64 0)) by kernel_rfl, by kernel_rfl, (fun _ => ⟨rfl, rfl⟩), fun φ h => CR_cons.2 ⟨([.int .u64 0] : List Value), _, rfl, (toC_int ⟨rfl, by constructor <;> decide⟩), CR_nil.2 rfl⟩⟩
theorem zs13 : ZsOK PX DF_ (13, [.str ⟨#[]⟩, .int .u64 0]) := ⟨_, _, _, _, ([.string ⟨#[]⟩] ++ ([.int .u64 0])) ++ [], show tyInfo PX 13 = some (2, 24, true, some (.agg #[.string ⟨#[]⟩, .int .u64 0])) by kernel_rfl, by kernel_rfl, (fun e => by cases e), fun φ h => CR_cons.2 ⟨([.string ⟨#[]⟩] : List Value), _, rfl, (toC_str ⟨rfl, by decide⟩), CR_cons.2 ⟨([.int .u64 0] : List Value), _, rfl, (toC_int ⟨rfl, by constructor <;> decide⟩), CR_nil.2 rfl⟩⟩⟩
theorem zs20 : ZsOK PX DF_ (20, [.raw (.nilIface)]) := ⟨_, _, _, _, [.nilIface] ++ [], show tyInfo PX 20 = some (1, 16, false, some (.nilIface)) by kernel_rfl, by kernel_rfl, (fun _ => ⟨rfl, rfl⟩), fun φ h => CR_cons.2 ⟨([.nilIface] : List Value), _, rfl, ⟨_, rfl, by rw [VR], rfl⟩, CR_nil.2 rfl⟩⟩
theorem zs21 : ZsOK PX DF_ (21, [.int .i32 0]) := ⟨_, _, _, _, [.int .i32 0] ++ [], show tyInfo PX 21 = some (1, 4, false, some (.int .i32 0)) by kernel_rfl, by kernel_rfl, (fun _ => ⟨rfl, rfl⟩), fun φ h => CR_cons.2 ⟨([.int .i32 0] : List Value), _, rfl, (toC_int ⟨rfl, by constructor <;> decide⟩), CR_nil.2 rfl⟩⟩
theorem zs22 : ZsOK PX DF_ (22, [.raw (.slice none 0 0)]) := ⟨_, _, _, _, [.slice none 0 0] ++ [], show tyInfo PX 22 = some (1, 24, false, some (.slice none 0 0)) by kernel_rfl, by kernel_rfl, (fun _ => ⟨rfl, rfl⟩), fun φ h => CR_cons.2 ⟨([.slice none 0 0] : List Value), _, rfl, ⟨_, rfl, by rw [VR], rfl⟩, CR_nil.2 rfl⟩⟩
theorem zs23 : ZsOK PX DF_ (23, [.raw (.slice none 0 0)]) := ⟨_, _, _, _, [.slice none 0 0] ++ [], show tyInfo PX 23 = some (1, 24, false, some (.slice none 0 0)) by kernel_rfl, by kernel_rfl, (fun _ => ⟨rfl, rfl⟩), fun φ h => CR_cons.2 ⟨([.slice none 0 0] : List Value), _, rfl, ⟨_, rfl, by rw [VR], rfl⟩, CR_nil.2 rfl⟩⟩
theorem zs24 : ZsOK PX DF_ (24, [.raw (.slice none 0 0)]) := ⟨_, _, _, _, [.slice none 0 0] ++ [], show tyInfo PX 24 = some (1, 24, false, some (.slice none 0 0)) by kernel_rfl, by kernel_rfl, (fun _ => ⟨rfl, rfl⟩), fun φ h => CR_cons.2 ⟨([.slice none 0 0] : List Value), _, rfl, ⟨_, rfl, by rw [VR], rfl⟩, CR_nil.2 rfl⟩⟩
theorem zs25 : ZsOK PX DF_ (25, [.raw (.slice none 0 0), .raw (.slice none 0 0), .raw (.slice none 0 0), .raw (.slice none 0 0), .raw (.slice none 0 0), .raw (.slice none 0 0)]) := ⟨_, _, _, _, ([.slice none 0 0] ++ ([.slice none 0 0] ++ ([.slice none 0 0] ++ ([.slice none 0 0] ++ ([.slice none 0 0] ++ ([.slice none 0 0])))))) ++ [], show tyInfo PX 25 = some (6, 144, true, some (.agg #[.slice none 0 0, .slice none 0 0, .slice none 0 0, .slice none 0 0, .slice none 0 0, .slice none 0 0])) by kernel_rfl, by kernel_rfl, (fun e => by cases e), fun φ h => CR_cons.2 ⟨([.slice none 0 0] : List Value), _, rfl, ⟨_, rfl, by rw [VR], rfl⟩, CR_cons.2 ⟨([.slice none 0 0] : List Value), _, rfl, ⟨_, rfl, by rw [VR], rfl⟩, CR_cons.2 ⟨([.slice none 0 0] : List Value), _, rfl, ⟨_, rfl, by rw [VR], rfl⟩, CR_cons.2 ⟨([.slice none 0 0] : List Value), _, rfl, ⟨_, rfl, by rw [VR], rfl⟩, CR_cons.2 ⟨([.slice none 0 0] : List Value), _, rfl, ⟨_, rfl, by rw [VR], rfl⟩, CR_cons.2 ⟨([.slice none 0 0] : List Value), _, rfl, ⟨_, rfl, by rw [VR], rfl⟩, CR_nil.2 rfl⟩⟩⟩⟩⟩⟩⟩
theorem zs26 : ZsOK PX DF_ (26, [.raw (.slice none 0 0), .raw (.slice none 0 0), .raw (.slice none 0 0), .raw (.slice none 0 0), .raw (.slice none 0 0), .raw (.slice none 0 0)]) := ⟨_, _, _, _, ([.slice none 0 0] ++ ([.slice none 0 0] ++ ([.slice none 0 0] ++ ([.slice none 0 0] ++ ([.slice none 0 0] ++ ([.slice none 0 0])))))) ++ [], show tyInfo PX 26 = some (6, 144, true, some (.agg #[.slice none 0 0, .slice none 0 0, .slice none 0 0, .slice none 0 0, .slice none 0 0, .slice none 0 0])) by kernel_rfl, by kernel_rfl, (fun e => by cases e), fun φ h => CR_cons.2 ⟨([.slice none 0 0] : List Value), _, rfl, ⟨_, rfl, by rw [VR], rfl⟩, CR_cons.2 ⟨([.slice none 0 0] : List Value), _, rfl, ⟨_, rfl, by rw [VR], rfl⟩, CR_cons.2 ⟨([.slice none 0 0] : List Value), _, rfl, ⟨_, rfl, by rw [VR], rfl⟩, CR_cons.2 ⟨([.slice none 0 0] : List Value), _, rfl, ⟨_, rfl, by rw [VR], rfl⟩, CR_cons.2 ⟨([.slice none 0 0] : List Value), _, rfl, ⟨_, rfl, by rw [VR], rfl⟩, CR_cons.2 ⟨([.slice none 0 0] : List Value), _, rfl, ⟨_, rfl, by rw [VR], rfl⟩, CR_nil.2 rfl⟩⟩⟩⟩⟩⟩⟩
theorem zs27 : ZsOK PX DF_ (27, [.raw (.nilFunc)]) := ⟨_, _, _, _, [.nilFunc] ++ [], show tyInfo PX 27 = some (1, 8, false, some (.nilFunc)) by kernel_rfl, by kernel_rfl, (fun _ => ⟨rfl, rfl⟩), fun φ h => CR_cons.2 ⟨([.nilFunc] : List Value), _, rfl, ⟨_, rfl, by rw [VR], rfl⟩, CR_nil.2 rfl⟩⟩
theorem zs28 : ZsOK PX DF_ (28, [.int .i64 0]) := ⟨_, _, _, _, [.int .i64 0] ++ [], show tyInfo PX 28 = some (1, 8, false, some (.int .i64 0)) by kernel_rfl, by kernel_rfl, (fun _ => ⟨rfl, rfl⟩), fun φ h => CR_cons.2 ⟨([.int .i64 0] : List Value), _, rfl, (toC_int ⟨rfl, by constructor <;> decide⟩), CR_nil.2 rfl⟩⟩
theorem zs30 : ZsOK PX DF_ (30, [.raw (.nilFunc)]) := ⟨_, _, _, _, [.nilFunc] ++ [], show tyInfo PX 30 = some (1, 8, false, some (.nilFunc)) by kernel_rfl, by kernel_rfl, (fun _ => ⟨rfl, rfl⟩), fun φ h => CR_cons.2 ⟨([.nilFunc] : List Value), _, rfl, ⟨_, rfl, by rw [VR], rfl⟩, CR_nil.2 rfl⟩⟩
theorem zs31 : ZsOK PX DF_ (31, [.raw (.slice none 0 0)]) := ⟨_, _, _, _, [.slice none 0 0] ++ [], show tyInfo PX 31 = some (1, 24, false, some (.slice none 0 0)) by kernel_rfl, by kernel_rfl, (fun _ => ⟨rfl, rfl⟩), fun φ h => CR_cons.2 ⟨([.slice none 0 0] : List Value), _, rfl, ⟨_, rfl, by rw [VR], rfl⟩, CR_nil.2 rfl⟩⟩
theorem zs32 : ZsOK PX DF_ (32, [.raw (.slice none 0 0)]) := ⟨_, _, _, _, [.slice none 0 0] ++ [], show tyInfo PX 32 = some (1, 24, false, some (.slice none 0 0)) by kernel_rfl, by kernel_rfl, (fun _ => ⟨rfl, rfl⟩), fun φ h => CR_cons.2 ⟨([.slice none 0 0] : List Value), _, rfl, ⟨_, rfl, by rw [VR], rfl⟩, CR_nil.2 rfl⟩⟩
theorem zs33 : ZsOK PX DF_ (33, [.raw (.slice none 0 0), .raw (.slice none 0 0)]) := ⟨_, _, _, _, ([.slice none 0 0] ++ ([.slice none 0 0])) ++ [], show tyInfo PX 33 = some (2, 48, true, some (.agg #[.slice none 0 0, .slice none 0 0])) by kernel_rfl, by kernel_rfl, (fun e => by cases e), fun φ h => CR_cons.2 ⟨([.slice none 0 0] : List Value), _, rfl, ⟨_, rfl, by rw [VR], rfl⟩, CR_cons.2 ⟨([.slice none 0 0] : List Value), _, rfl, ⟨_, rfl, by rw [VR], rfl⟩, CR_nil.2 rfl⟩⟩⟩
theorem zs34 : ZsOK PX DF_ (34, [.raw (.slice none 0 0), .raw (.slice none 0 0)]) := ⟨_, _, _, _, ([.slice none 0 0] ++ ([.slice none 0 0])) ++ [], show tyInfo PX 34 = some (2, 48, true, some (.agg #[.slice none 0 0, .slice none 0 0])) by kernel_rfl, by kernel_rfl, (fun e => by cases e), fun φ h => CR_cons.2 ⟨([.slice none 0 0] : List Value), _, rfl, ⟨_, rfl, by rw [VR], rfl⟩, CR_cons.2 ⟨([.slice none 0 0] : List Value), _, rfl, ⟨_, rfl, by rw [VR], rfl⟩, CR_nil.2 rfl⟩⟩⟩
theorem zs35 : ZsOK PX DF_ (35, [.int .u64 0]) := ⟨_, _, _, _, [.int .u64 0] ++ [], show tyInfo PX 35 = some (1, 8, false, some (.int .u64 0)) by kernel_rfl, by kernel_rfl, (fun _ => ⟨rfl, rfl⟩), fun φ h => CR_cons.2 ⟨([.int .u64 0] : List Value), _, rfl, (toC_int ⟨rfl, by constructor <;> decide⟩), CR_nil.2 rfl⟩⟩
theorem zs36 : ZsOK PX DF_ (36, [.fl 5 (0 : BSet)]) := ⟨_, _, _, _, [.int .u64 0, .int .u64 0, .int .u64 0, .int .u64 0] ++ [], show tyInfo PX 36 = some (4, 32, true, some (.agg #[.int .u64 0, .int .u64 0, .int .u64 0, .int .u64 0])) by kernel_rfl, by kernel_rfl, (fun e => by cases e), fun φ h => CR_cons.2 ⟨([.int .u64 0, .int .u64 0, .int .u64 0, .int .u64 0] : List Value), _, rfl, (toC_fl (i := 5) zero_set), CR_nil.2 rfl⟩⟩
theorem zs37 : ZsOK PX DF_ (37, [.fl 5 (0 : BSet)]) := ⟨_, _, _, _, [.int .u64 0, .int .u64 0, .int .u64 0, .int .u64 0] ++ [], show tyInfo PX 37 = some (4, 32, true, some (.agg #[.int .u64 0, .int .u64 0, .int .u64 0, .int .u64 0])) by kernel_rfl, by kernel_rfl, (fun e => by cases e), fun φ h => CR_cons.2 ⟨([.int .u64 0, .int .u64 0, .int .u64 0, .int .u64 0] : List Value), _, rfl, (toC_fl (i := 5) zero_set), CR_nil.2 rfl⟩⟩
theorem zs38 : ZsOK PX DF_ (38, [.int .u8 0, .fl 5 (0 : BSet), .int .i64 0, .int .i64 0, .int .i64 0, .int .i64 0]) := ⟨_, _, _, _, ([.int .u8 0] ++ ([.int .u64 0, .int .u64 0, .int .u64 0, .int .u64 0] ++ ([.int .i64 0] ++ ([.int .i64 0] ++ ([.int .i64 0] ++ ([.int .i64 0])))))) ++ [], show tyInfo PX 38 = some (9, 72, true, some (.agg #[.int .u8 0, .int .u64 0, .int .u64 0, .int .u64 0, .int .u64 0, .int .i64 0, .int .i64 0, .int .i64 0, .int .i64 0])) by kernel_rfl, by kernel_rfl, (fun e => by cases e), fun φ h => CR_cons.2 ⟨([.int .u8 0] : List Value), _, rfl, (toC_int ⟨rfl, by constructor <;> decide⟩), CR_cons.2 ⟨([.int .u64 0, .int .u64 0, .int .u64 0, .int .u64 0] : List Value), _, rfl, (toC_fl (i := 5) zero_set), CR_cons.2 ⟨([.int .i64 0] : List Value), _, rfl, (toC_int ⟨rfl, by constructor <;> decide⟩), CR_cons.2 ⟨([.int .i64 0] : List Value), _, rfl, (toC_int ⟨rfl, by constructor <;> decide⟩), CR_cons.2 ⟨([.int .i64 0] : List Value), _, rfl, (toC_int ⟨rfl, by constructor <;> decide⟩), CR_cons.2 ⟨([.int .i64 0] : List Value), _, rfl, (toC_int ⟨rfl, by constructor <;> decide⟩), CR_nil.2 rfl⟩⟩⟩⟩⟩⟩⟩
theorem zs39 : ZsOK PX DF_ (39, [.int .u8 0, .fl 5 (0 : BSet), .int .i64 0, .int .i64 0, .int .i64 0, .int .i64 0]) := ⟨_, _, _, _, ([.int .u8 0] ++ ([.int .u64 0, .int .u64 0, .int .u64 0, .int .u64 0] ++ ([.int .i64 0] ++ ([.int .i64 0] ++ ([.int .i64 0] ++ ([.int .i64 0])))))) ++ [], show tyInfo PX 39 = some (9, 72, true, some (.agg #[.int .u8 0, .int .u64 0, .int .u64 0, .int .u64 0, .int .u64 0, .int .i64 0, .int .i64 0, .int .i64 0, .int .i64 0])) by kernel_rfl, by kernel_rfl, (fun e => by cases e), fun φ h => CR_cons.2 ⟨([.int .u8 0] : List Value), _, rfl, (toC_int ⟨rfl, by constructor <;> decide⟩), CR_cons.2 ⟨([.int .u64 0, .int .u64 0, .int .u64 0, .int .u64 0] : List Value), _, rfl, (toC_fl (i := 5) zero_set), CR_cons.2 ⟨([.int .i64 0] : List Value), _, rfl, (toC_int ⟨rfl, by constructor <;> decide⟩), CR_cons.2 ⟨([.int .i64 0] : List Value), _, rfl, (toC_int ⟨rfl, by constructor <;> decide⟩), CR_cons.2 ⟨([.int .i64 0] : List Value), _, rfl, (toC_int ⟨rfl, by constructor <;> decide⟩), CR_cons.2 ⟨([.int .i64 0] : List Value), _, rfl, (toC_int ⟨rfl, by constructor <;> decide⟩), CR_nil.2 rfl⟩⟩⟩⟩⟩⟩⟩
theorem zs40 : ZsOK PX DF_ (40, [.int .i64 0, .bool false]) := ⟨_, _, _, _, ([.int .i64 0] ++ ([.bool false])) ++ [], show tyInfo PX 40 = some (2, 16, true, some (.agg #[.int .i64 0, .bool false])) by kernel_rfl, by kernel_rfl, (fun e => by cases e), fun φ h => CR_cons.2 ⟨([.int .i64 0] : List Value), _, rfl, (toC_int ⟨rfl, by constructor <;> decide⟩), CR_cons.2 ⟨([.bool false] : List Value), _, rfl, (toC_bool ⟨rfl, trivial⟩), CR_nil.2 rfl⟩⟩⟩
theorem zs41 : ZsOK PX DF_ (41, [.int .i64 0, .bool false]) := ⟨_, _, _, _, ([.int .i64 0] ++ ([.bool false])) ++ [], show tyInfo PX 41 = some (2, 16, true, some (.agg #[.int .i64 0, .bool false])) by kernel_rfl, by kernel_rfl, (fun e => by cases e), fun φ h => CR_cons.2 ⟨([.int .i64 0] : List Value), _, rfl, (toC_int ⟨rfl, by constructor <;> decide⟩), CR_cons.2 ⟨([.bool false] : List Value), _, rfl, (toC_bool ⟨rfl, trivial⟩), CR_nil.2 rfl⟩⟩⟩
theorem zs42 : ZsOK PX DF_ (42, [.raw (.nilFunc)]) := ⟨_, _, _, _, [.nilFunc] ++ [], show tyInfo PX 42 = some (1, 8, false, some (.nilFunc)) by kernel_rfl, by kernel_rfl, (fun _ => ⟨rfl, rfl⟩), fun φ h => CR_cons.2 ⟨([.nilFunc] : List Value), _, rfl, ⟨_, rfl, by rw [VR], rfl⟩, CR_nil.2 rfl⟩⟩
theorem zs43 : ZsOK PX DF_ (43, [.raw (.nilFunc)]) := ⟨_, _, _, _, [.nilFunc] ++ [], show tyInfo PX 43 = some (1, 8, false, some (.nilFunc)) by kernel_rfl, by kernel_rfl, (fun _ => ⟨rfl, rfl⟩), fun φ h => CR_cons.2 ⟨([.nilFunc] : List Value), _, rfl, ⟨_, rfl, by rw [VR], rfl⟩, CR_nil.2 rfl⟩⟩
theorem zs44 : ZsOK PX DF_ (44, [.raw (.nilFunc)]) := ⟨_, _, _, _, [.nilFunc] ++ [], show tyInfo PX 44 = some (1, 8, false, some (.nilFunc)) by kernel_rfl, by kernel_rfl, (fun _ => ⟨rfl, rfl⟩), fun φ h => CR_cons.2 ⟨([.nilFunc] : List Value), _, rfl, ⟨_, rfl, by rw [VR], rfl⟩, CR_nil.2 rfl⟩⟩
theorem zs45 : ZsOK PX DF_ (45, [.raw (.nilFunc)]) := ⟨_, _, _, _, [.nilFunc] ++ [], show tyInfo PX 45 = some (1, 8, false, some (.nilFunc)) by kernel_rfl, by kernel_rfl, (fun _ => ⟨rfl, rfl⟩), fun φ h => CR_cons.2 ⟨([.nilFunc] : List Value), _, rfl, ⟨_, rfl, by rw [VR], rfl⟩, CR_nil.2 rfl⟩⟩
theorem zs46 : ZsOK PX DF_ (46, [.raw (.nilFunc)]) := ⟨_, _, _, _, [.nilFunc] ++ [], show tyInfo PX 46 = some (1, 8, false, some (.nilFunc)) by kernel_rfl, by kernel_rfl, (fun _ => ⟨rfl, rfl⟩), fun φ h => CR_cons.2 ⟨([.nilFunc] : List Value), _, rfl, ⟨_, rfl, by rw [VR], rfl⟩, CR_nil.2 rfl⟩⟩
theorem zs47 : ZsOK PX DF_ (47, [.raw (.nilFunc)]) := ⟨_, _, _, _, [.nilFunc] ++ [], show tyInfo PX 47 = some (1, 8, false, some (.nilFunc)) by kernel_rfl, by kernel_rfl, (fun _ => ⟨rfl, rfl⟩), fun φ h => CR_cons.2 ⟨([.nilFunc] : List Value), _, rfl, ⟨_, rfl, by rw [VR], rfl⟩, CR_nil.2 rfl⟩⟩
theorem zs48 : ZsOK PX DF_ (48, [.raw (.nilFunc)]) := ⟨_, _, _, _, [.nilFunc] ++ [], show tyInfo PX 48 = some (1, 8, false, some (.nilFunc)) by kernel_rfl, by kernel_rfl, (fun _ => ⟨rfl, rfl⟩), fun φ h => CR_cons.2 ⟨([.nilFunc] : List Value), _, rfl, ⟨_, rfl, by rw [VR], rfl⟩, CR_nil.2 rfl⟩⟩
theorem zs49 : ZsOK PX DF_ (49, [.raw (.nilFunc)]) := ⟨_, _, _, _, [.nilFunc] ++ [], show tyInfo PX 49 = some (1, 8, false, some (.nilFunc)) by kernel_rfl, by kernel_rfl, (fun _ => ⟨rfl, rfl⟩), fun φ h => CR_cons.2 ⟨([.nilFunc] : List Value), _, rfl, ⟨_, rfl, by rw [VR], rfl⟩, CR_nil.2 rfl⟩⟩
theorem zs50 : ZsOK PX DF_ (50, [.raw (.pointer none)]) := ⟨_, _, _, _, [.pointer none] ++ [], show tyInfo PX 50 = some (1, 8, false, some (.pointer none)) by kernel_rfl, by kernel_rfl, (fun _ => ⟨rfl, rfl⟩), fun φ h => CR_cons.2 ⟨([.pointer none] : List Value), _, rfl, ⟨_, rfl, by rw [VR], rfl⟩, CR_nil.2 rfl⟩⟩
theorem zs51 : ZsOK PX DF_ (51, [.raw (.nilFunc)]) := ⟨_, _, _, _, [.nilFunc] ++ [], show tyInfo PX 51 = some (1, 8, false, some (.nilFunc)) by kernel_rfl, by kernel_rfl, (fun _ => ⟨rfl, rfl⟩), fun φ h => CR_cons.2 ⟨([.nilFunc] : List Value), _, rfl, ⟨_, rfl, by rw [VR], rfl⟩, CR_nil.2 rfl⟩⟩
theorem zs52 : ZsOK PX DF_ (52, [.raw (.nilFunc)]) := ⟨_, _, _, _, [.nilFunc] ++ [], show tyInfo PX 52 = some (1, 8, false, some (.nilFunc)) by kernel_rfl, by kernel_rfl, (fun _ => ⟨rfl, rfl⟩), fun φ h => CR_cons.2 ⟨([.nilFunc] : List Value), _, rfl, ⟨_, rfl, by rw [VR], rfl⟩, CR_nil.2 rfl⟩⟩
theorem zs53 : ZsOK PX DF_ (53, [.raw (.nilFunc)]) := ⟨_, _, _, _, [.nilFunc] ++ [], show tyInfo PX 53 = some (1, 8, false, some (.nilFunc)) by kernel_rfl, by kernel_rfl, (fun _ => ⟨rfl, rfl⟩), fun φ h => CR_cons.2 ⟨([.nilFunc] : List Value), _, rfl, ⟨_, rfl, by rw [VR], rfl⟩, CR_nil.2 rfl⟩⟩
theorem zs54 : ZsOK PX DF_ (54, [.raw (.nilFunc)]) := ⟨_, _, _, _, [.nilFunc] ++ [], show tyInfo PX 54 = some (1, 8, false, some (.nilFunc)) by kernel_rfl, by kernel_rfl, (fun _ => ⟨rfl, rfl⟩), fun φ h => CR_cons.2 ⟨([.nilFunc] : List Value), _, rfl, ⟨_, rfl, by rw [VR], rfl⟩, CR_nil.2 rfl⟩⟩
theorem zs55 : ZsOK PX DF_ (55, [.raw (.nilFunc)]) := ⟨_, _, _, _, [.nilFunc] ++ [], show tyInfo PX 55 = some (1, 8, false, some (.nilFunc)) by kernel_rfl, by kernel_rfl, (fun _ => ⟨rfl, rfl⟩), fun φ h => CR_cons.2 ⟨([.nilFunc] : List Value), _, rfl, ⟨_, rfl, by rw [VR], rfl⟩, CR_nil.2 rfl⟩⟩
theorem zs56 : ZsOK PX DF_ (56, [.raw (.nilFunc)]) := ⟨_, _, _, _, [.nilFunc] ++ [], show tyInfo PX 56 = some (1, 8, false, some (.nilFunc)) by kernel_rfl, by kernel_rfl, (fun _ => ⟨rfl, rfl⟩), fun φ h => CR_cons.2 ⟨([.nilFunc] : List Value), _, rfl, ⟨_, rfl, by rw [VR], rfl⟩, CR_nil.2 rfl⟩⟩
theorem zs58 : ZsOK PX DF_ (58, [.raw (.nilFunc)]) := ⟨_, _, _, _, [.nilFunc] ++ [], show tyInfo PX 58 = some (1, 8, false, some (.nilFunc)) by kernel_rfl, by kernel_rfl, (fun _ => ⟨rfl, rfl⟩), fun φ h => CR_cons.2 ⟨([.nilFunc] : List Value), _, rfl, ⟨_, rfl, by rw [VR], rfl⟩, CR_nil.2 rfl⟩⟩
theorem zs60 : ZsOK PX DF_ (60, [.raw (.nilFunc)]) := ⟨_, _, _, _, [.nilFunc] ++ [], show tyInfo PX 60 = some (1, 8, false, some (.nilFunc)) by kernel_rfl, by kernel_rfl, (fun _ => ⟨rfl, rfl⟩), fun φ h => CR_cons.2 ⟨([.nilFunc] : List Value), _, rfl, ⟨_, rfl, by rw [VR], rfl⟩, CR_nil.2 rfl⟩⟩
theorem zs61 : ZsOK PX DF_ (61, [.raw (.nilFunc)]) := ⟨_, _, _, _, [.nilFunc] ++ [], show tyInfo PX 61 = some (1, 8, false, some (.nilFunc)) by kernel_rfl, by kernel_rfl, (fun _ => ⟨rfl, rfl⟩), fun φ h => CR_cons.2 ⟨([.nilFunc] : List Value), _, rfl, ⟨_, rfl, by rw [VR], rfl⟩, CR_nil.2 rfl⟩⟩
theorem zs62 : ZsOK PX DF_ (62, [.raw (.slice none 0 0)]) := ⟨_, _, _, _, [.slice none 0 0] ++ [], show tyInfo PX 62 = some (1, 24, false, some (.slice none 0 0)) by kernel_rfl, by kernel_rfl, (fun _ => ⟨rfl, rfl⟩), fun φ h => CR_cons.2 ⟨([.slice none 0 0] : List Value), _, rfl, ⟨_, rfl, by rw [VR], rfl⟩, CR_nil.2 rfl⟩⟩
theorem zs63 : ZsOK PX DF_ (63, [.fl 5 (0 : BSet), .int .u64 0]) := ⟨_, _, _, _, ([.int .u64 0, .int .u64 0, .int .u64 0, .int .u64 0] ++ ([.int .u64 0])) ++ [], show tyInfo PX 63 = some (5, 40, true, some (.agg #[.int .u64 0, .int .u64 0, .int .u64 0, .int .u64 0, .int .u64 0])) by kernel_rfl, by kernel_rfl, (fun e => by cases e), fun φ h => CR_cons.2 ⟨([.int .u64 0, .int .u64 0, .int .u64 0, .int .u64 0] : List Value), _, rfl, (toC_fl (i := 5) zero_set), CR_cons.2 ⟨([.int .u64 0] : List Value), _, rfl, (toC_int ⟨rfl, by constructor <;> decide⟩), CR_nil.2 rfl⟩⟩⟩
theorem zs64 : ZsOK PX DF_ (64, [.fl 5 (0 : BSet), .int .u64 0]) := ⟨_, _, _, _, ([.int .u64 0, .int .u64 0, .int .u64 0, .int .u64 0] ++ ([.int .u64 0])) ++ [], show tyInfo PX 64 = some (5, 40, true, some (.agg #[.int .u64 0, .int .u64 0, .int .u64 0, .int .u64 0, .int .u64 0])) by kernel_rfl, by kernel_rfl, (fun e => by cases e), fun φ h => CR_cons.2 ⟨([.int .u64 0, .int .u64 0, .int .u64 0, .int .u64 0] : List Value), _, rfl, (toC_fl (i := 5) zero_set), CR_cons.2 ⟨([.int .u64 0] : List Value), _, rfl, (toC_int ⟨rfl, by constructor <;> decide⟩), CR_nil.2 rfl⟩⟩⟩
theorem zs65 : ZsOK PX DF_ (65, [.raw (.nilFunc)]) := ⟨_, _, _, _, [.nilFunc] ++ [], show tyInfo PX 65 = some (1, 8, false, some (.nilFunc)) by kernel_rfl, by kernel_rfl, (fun _ => ⟨rfl, rfl⟩), fun φ h => CR_cons.2 ⟨([.nilFunc] : List Value), _, rfl, ⟨_, rfl, by rw [VR], rfl⟩, CR_nil.2 rfl⟩⟩
theorem zs66 : ZsOK PX DF_ (66, [.raw (.nilFunc)]) := ⟨_, _, _, _, [.nilFunc] ++ [], show tyInfo PX 66 = some (1, 8, false, some (.nilFunc)) by kernel_rfl, by kernel_rfl, (fun _ => ⟨rfl, rfl⟩), fun φ h => CR_cons.2 ⟨([.nilFunc] : List Value), _, rfl, ⟨_, rfl, by rw [VR], rfl⟩, CR_nil.2 rfl⟩⟩
theorem zs67 : ZsOK PX DF_ (67, [.raw (.nilFunc)]) := ⟨_, _, _, _, [.nilFunc] ++ [], show tyInfo PX 67 = some (1, 8, false, some (.nilFunc)) by kernel_rfl, by kernel_rfl, (fun _ => ⟨rfl, rfl⟩), fun φ h => CR_cons.2 ⟨([.nilFunc] : List Value), _, rfl, ⟨_, rfl, by rw [VR], rfl⟩, CR_nil.2 rfl⟩⟩
theorem zs71 : ZsOK PX DF_ (71, [.raw (.nilFunc)]) := ⟨_, _, _, _, [.nilFunc] ++ [], show tyInfo PX 71 = some (1, 8, false, some (.nilFunc)) by kernel_rfl, by kernel_rfl, (fun _ => ⟨rfl, rfl⟩), fun φ h => CR_cons.2 ⟨([.nilFunc] : List Value), _, rfl, ⟨_, rfl, by rw [VR], rfl⟩, CR_nil.2 rfl⟩⟩
theorem zs72 : ZsOK PX DF_ (72, [.raw (.nilFunc)]) := ⟨_, _, _, _, [.nilFunc] ++ [], show tyInfo PX 72 = some (1, 8, false, some (.nilFunc)) by kernel_rfl, by kernel_rfl, (fun _ => ⟨rfl, rfl⟩), fun φ h => CR_cons.2 ⟨([.nilFunc] : List Value), _, rfl, ⟨_, rfl, by rw [VR], rfl⟩, CR_nil.2 rfl⟩⟩
theorem zs74 : ZsOK PX DF_ (74, [.raw (.nilFunc)]) := ⟨_, _, _, _, [.nilFunc] ++ [], show tyInfo PX 74 = some (1, 8, false, some (.nilFunc)) by kernel_rfl, by kernel_rfl, (fun _ => ⟨rfl, rfl⟩), fun φ h => CR_cons.2 ⟨([.nilFunc] : List Value), _, rfl, ⟨_, rfl, by rw [VR], rfl⟩, CR_nil.2 rfl⟩⟩
theorem zs75 : ZsOK PX DF_ (75, [.raw (.nilFunc)]) := ⟨_, _, _, _, [.nilFunc] ++ [], show tyInfo PX 75 = some (1, 8, false, some (.nilFunc)) by kernel_rfl, by kernel_rfl, (fun _ => ⟨rfl, rfl⟩), fun φ h => CR_cons.2 ⟨([.nilFunc] : List Value), _, rfl, ⟨_, rfl, by rw [VR], rfl⟩, CR_nil.2 rfl⟩⟩
theorem zs76 : ZsOK PX DF_ (76, [.raw (.slice none 0 0)]) := ⟨_, _, _, _, [.slice none 0 0] ++ [], show tyInfo PX 76 = some (1, 24, false, some (.slice none 0 0)) by kernel_rfl, by kernel_rfl, (fun _ => ⟨rfl, rfl⟩), fun φ h => CR_cons.2 ⟨([.slice none 0 0] : List Value), _, rfl, ⟨_, rfl, by rw [VR], rfl⟩, CR_nil.2 rfl⟩⟩
theorem zs77 : ZsOK PX DF_ (77, [.raw (.slice none 0 0), .raw (.slice none 0 0), .int .u64 0, .int .u64 0, .bool false]) := ⟨_, _, _, _, ([.slice none 0 0] ++ ([.slice none 0 0] ++ ([.int .u64 0] ++ ([.int .u64 0] ++ ([.bool false]))))) ++ [], show tyInfo PX 77 = some (5, 72, true, some (.agg #[.slice none 0 0, .slice none 0 0, .int .u64 0, .int .u64 0, .bool false])) by kernel_rfl, by kernel_rfl, (fun e => by cases e), fun φ h => CR_cons.2 ⟨([.slice none 0 0] : List Value), _, rfl, ⟨_, rfl, by rw [VR], rfl⟩, CR_cons.2 ⟨([.slice none 0 0] : List Value), _, rfl, ⟨_, rfl, by rw [VR], rfl⟩, CR_cons.2 ⟨([.int .u64 0] : List Value), _, rfl, (toC_int ⟨rfl, by constructor <;> decide⟩), CR_cons.2 ⟨([.int .u64 0] : List Value), _, rfl, (toC_int ⟨rfl, by constructor <;> decide⟩), CR_cons.2 ⟨([.bool false] : List Value), _, rfl, (toC_bool ⟨rfl, trivial⟩), CR_nil.2 rfl⟩⟩⟩⟩⟩⟩
theorem zs78 : ZsOK PX DF_ (78, [.raw (.slice none 0 0), .raw (.slice none 0 0), .int .u64 0, .int .u64 0, .bool false]) := ⟨_, _, _, _, ([.slice none 0 0] ++ ([.slice none 0 0] ++ ([.int .u64 0] ++ ([.int .u64 0] ++ ([.bool false]))))) ++ [], show tyInfo PX 78 = some (5, 72, true, some (.agg #[.slice none 0 0, .slice none 0 0, .int .u64 0, .int .u64 0, .bool false])) by kernel_rfl, by kernel_rfl, (fun e => by cases e), fun φ h => CR_cons.2 ⟨([.slice none 0 0] : List Value), _, rfl, ⟨_, rfl, by rw [VR], rfl⟩, CR_cons.2 ⟨([.slice none 0 0] : List Value), _, rfl, ⟨_, rfl, by rw [VR], rfl⟩, CR_cons.2 ⟨([.int .u64 0] : List Value), _, rfl, (toC_int ⟨rfl, by constructor <;> decide⟩), CR_cons.2 ⟨([.int .u64 0] : List Value), _, rfl, (toC_int ⟨rfl, by constructor <;> decide⟩), CR_cons.2 ⟨([.bool false] : List Value), _, rfl, (toC_bool ⟨rfl, trivial⟩), CR_nil.2 rfl⟩⟩⟩⟩⟩⟩
theorem zs79 : ZsOK PX DF_ (79, [.raw (.nilFunc)]) := ⟨_, _, _, _, [.nilFunc] ++ [], show tyInfo PX 79 = some (1, 8, false, some (.nilFunc)) by kernel_rfl, by kernel_rfl, (fun _ => ⟨rfl, rfl⟩), fun φ h => CR_cons.2 ⟨([.nilFunc] : List Value), _, rfl, ⟨_, rfl, by rw [VR], rfl⟩, CR_nil.2 rfl⟩⟩
theorem zs81 : ZsOK PX DF_ (81, [.raw (.nilFunc)]) := ⟨_, _, _, _, [.nilFunc] ++ [], show tyInfo PX 81 = some (1, 8, false, some (.nilFunc)) by kernel_rfl, by kernel_rfl, (fun _ => ⟨rfl, rfl⟩), fun φ h => CR_cons.2 ⟨([.nilFunc] : List Value), _, rfl, ⟨_, rfl, by rw [VR], rfl⟩, CR_nil.2 rfl⟩⟩
theorem zs82 : ZsOK PX DF_ (82, [.raw (.nilFunc)]) := ⟨_, _, _, _, [.nilFunc] ++ [], show tyInfo PX 82 = some (1, 8, false, some (.nilFunc)) by kernel_rfl, by kernel_rfl, (fun _ => ⟨rfl, rfl⟩), fun φ h => CR_cons.2 ⟨([.nilFunc] : List Value), _, rfl, ⟨_, rfl, by rw [VR], rfl⟩, CR_nil.2 rfl⟩⟩
theorem zs83 : ZsOK PX DF_ (83, [.raw (.nilFunc)]) := ⟨_, _, _, _, [.nilFunc] ++ [], show tyInfo PX 83 = some (1, 8, false, some (.nilFunc)) by kernel_rfl, by kernel_rfl, (fun _ => ⟨rfl, rfl⟩), fun φ h => CR_cons.2 ⟨([.nilFunc] : List Value), _, rfl, ⟨_, rfl, by rw [VR], rfl⟩, CR_nil.2 rfl⟩⟩
theorem zs84 : ZsOK PX DF_ (84, [.fl 13 (List.replicate 256 0)]) := ⟨_, _, _, _, encInts .u64 (List.replicate 256 0) ++ [], show tyInfo PX 84 = some (256, 2048, true, some (.agg #[.int .u64 0, .int .u64 0, .int .u64 0, .int .u64 0, .int .u64 0, .int .u64 0, .int .u64 0, .int .u64 0, .int .u64 0, .int .u64 0, .int .u64 0, .int .u64 0, .int .u64 0, .int .u64 0, .int .u64 0, .int .u64 0, .int .u64 0, .int .u64 0, .int .u64 0, .int .u64 0, .int .u64 0, .int .u64 0, .int .u64 0, .int .u64 0, .int .u64 0, .int .u64 0, .int .u64 0, .int .u64 0, .int .u64 0, .int .u64 0, .int .u64 0, .int .u64 0, .int .u64 0, .int .u64 0, .int .u64 0, .int .u64 0, .int .u64 0, .int .u64 0, .int .u64 0, .int .u64 0, .int .u64 0, .int .u64 0, .int .u64 0, .int .u64 0, .int .u64 0, .int .u64 0, .int .u64 0, .int .u64 0, .int .u64 0, .int .u64 0, .int .u64 0, .int .u64 0, .int .u64 0, .int .u64 0, .int .u64 0, .int .u64 0, .int .u64 0, .int .u64 0, .int .u64 0, .int .u64 0, .int .u64 0, .int .u64 0, .int .u64 0, .int .u64 0, .int .u64 0, .int .u64 0, .int .u64 0, .int .u64 0, .int .u64 0, .int .u64 0, .int .u64 0, .int .u64 0, .int .u64 0, .int .u64 0, .int .u64 0, .int .u64 0, .int .u64 0, .int .u64 0, .int .u64 0, .int .u64 0, .int .u64 0, .int .u64 0, .int .u64 0, .int .u64 0, .int .u64 0, .int .u64 0, .int .u64 0, .int .u64 0, .int .u64 0, .int .u64 0, .int .u64 0, .int .u64 0, .int .u64 0, .int .u64 0, .int .u64 0, .int .u64 0, .int .u64 0, .int .u64 0, .int .u64 0, .int .u64 0, .int .u64 0, .int .u64 0, .int .u64 0, .int .u64 0, .int .u64 0, .int .u64 0, .int .u64 0, .int .u64 0, .int .u64 0, .int .u64 0, .int .u64 0, .int .u64 0, .int .u64 0, .int .u64 0, .int .u64 0, .int .u64 0, .int .u64 0, .int .u64 0, .int .u64 0, .int .u64 0, .int .u64 0, .int .u64 0, .int .u64 0, .int .u64 0, .int .u64 0, .int .u64 0, .int .u64 0, .int .u64 0, .int .u64 0, .int .u64 0, .int .u64 0, .int .u64 0, .int .u64 0, .int .u64 0, .int .u64 0, .int .u64 0, .int .u64 0, .int .u64 0, .int .u64 0, .int .u64 0, .int .u64 0, .int .u64 0, .int .u64 0, .int .u64 0, .int .u64 0, .int .u64 0, .int .u64 0, .int .u64 0, .int .u64 0, .int .u64 0, .int .u64 0, .int .u64 0, .int .u64 0, .int .u64 0, .int .u64 0, .int .u64 0, .int .u64 0, .int .u64 0, .int .u64 0, .int .u64 0, .int .u64 0, .int .u64 0, .int .u64 0, .int .u64 0, .int .u64 0, .int .u64 0, .int .u64 0, .int .u64 0, .int .u64 0, .int .u64 0, .int .u64 0, .int .u64 0, .int .u64 0, .int .u64 0, .int .u64 0, .int .u64 0, .int .u64 0, .int .u64 0, .int .u64 0, .int .u64 0, .int .u64 0, .int .u64 0, .int .u64 0, .int .u64 0, .int .u64 0, .int .u64 0, .int .u64 0, .int .u64 0, .int .u64 0, .int .u64 0, .int .u64 0, .int .u64 0, .int .u64 0, .int .u64 0, .int .u64 0, .int .u64 0, .int .u64 0, .int .u64 0, .int .u64 0, .int .u64 0, .int .u64 0, .int .u64 0, .int .u64 0, .int .u64 0, .int .u64 0, .int .u64 0, .int .u64 0, .int .u64 0, .int .u64 0, .int .u64 0, .int .u64 0, .int .u64 0, .int .u64 0, .int .u64 0, .int .u64 0, .int .u64 0, .int .u64 0, .int .u64 0, .int .u64 0, .int .u64 0, .int .u64 0, .int .u64 0, .int .u64 0, .int .u64 0, .int .u64 0, .int .u64 0, .int .u64 0, .int .u64 0, .int .u64 0, .int .u64 0, .int .u64 0, .int .u64 0, .int .u64 0, .int .u64 0, .int .u64 0, .int .u64 0, .int .u64 0, .int .u64 0, .int .u64 0, .int .u64 0, .int .u64 0, .int .u64 0, .int .u64 0, .int .u64 0, .int .u64 0, .int .u64 0, .int .u64 0, .int .u64 0, .int .u64 0, .int .u64 0, .int .u64 0, .int .u64 0, .int .u64 0, .int .u64 0, .int .u64 0, .int .u64 0])) by kernel_rfl, by kernel_rfl, (fun e => by cases e), fun φ h => CR_cons.2 ⟨(encInts .u64 (List.replicate 256 0) : List Value), _, rfl, (toC_fl (i := 13) (zero_ints (by constructor <;> decide))), CR_nil.2 rfl⟩⟩
theorem zs85 : ZsOK PX DF_ (85, [.raw (.slice none 0 0), .raw (.slice none 0 0), .raw (.slice none 0 0), .raw (.slice none 0 0), .raw (.slice none 0 0), .raw (.slice none 0 0), .fl 13 (List.replicate 256 0), .int .u64 0]) := ⟨_, _, _, _, ([.slice none 0 0] ++ ([.slice none 0 0] ++ ([.slice none 0 0] ++ ([.slice none 0 0] ++ ([.slice none 0 0] ++ ([.slice none 0 0] ++ (encInts .u64 (List.replicate 256 0) ++ ([.int .u64 0])))))))) ++ [], show tyInfo PX 85 = some (263, 2200, true, some (.agg #[.slice none 0 0, .slice none 0 0, .slice none 0 0, .slice none 0 0, .slice none 0 0, .slice none 0 0, .int .u64 0, .int .u64 0, .int .u64 0, .int .u64 0, .int .u64 0, .int .u64 0, .int .u64 0, .int .u64 0, .int .u64 0, .int .u64 0, .int .u64 0, .int .u64 0, .int .u64 0, .int .u64 0, .int .u64 0, .int .u64 0, .int .u64 0, .int .u64 0, .int .u64 0, .int .u64 0, .int .u64 0, .int .u64 0, .int .u64 0, .int .u64 0, .int .u64 0, .int .u64 0, .int .u64 0, .int .u64 0, .int .u64 0, .int .u64 0, .int .u64 0, .int .u64 0, .int .u64 0, .int .u64 0, .int .u64 0, .int .u64 0, .int .u64 0, .int .u64 0, .int .u64 0, .int .u64 0, .int .u64 0, .int .u64 0, .int .u64 0, .int .u64 0, .int .u64 0, .int .u64 0, .int .u64 0, .int .u64 0, .int .u64 0, .int .u64 0, .int .u64 0, .int .u64 0, .int .u64 0, .int .u64 0, .int .u64 0, .int .u64 0, .int .u64 0, .int .u64 0, .int .u64 0, .int .u64 0, .int .u64 0, .int .u64 0, .int .u64 0, .int .u64 0, .int .u64 0, .int .u64 0, .int .u64 0, .int .u64 0, .int .u64 0, .int .u64 0, .int .u64 0, .int .u64 0, .int .u64 0, .int .u64 0, .int .u64 0, .int .u64 0, .int .u64 0, .int .u64 0, .int .u64 0, .int .u64 0, .int .u64 0, .int .u64 0, .int .u64 0, .int .u64 0, .int .u64 0, .int .u64 0, .int .u64 0, .int .u64 0, .int .u64 0, .int .u64 0, .int .u64 0, .int .u64 0, .int .u64 0, .int .u64 0, .int .u64 0, .int .u64 0, .int .u64 0, .int .u64 0, .int .u64 0, .int .u64 0, .int .u64 0, .int .u64 0, .int .u64 0, .int .u64 0, .int .u64 0, .int .u64 0, .int .u64 0, .int .u64 0, .int .u64 0, .int .u64 0, .int .u64 0, .int .u64 0, .int .u64 0, .int .u64 0, .int .u64 0, .int .u64 0, .int .u64 0, .int .u64 0, .int .u64 0, .int .u64 0, .int .u64 0, .int .u64 0, .int .u64 0, .int .u64 0, .int .u64 0, .int .u64 0, .int .u64 0, .int .u64 0, .int .u64 0, .int .u64 0, .int .u64 0, .int .u64 0, .int .u64 0, .int .u64 0, .int .u64 0, .int .u64 0, .int .u64 0, .int .u64 0, .int .u64 0, .int .u64 0, .int .u64 0, .int .u64 0, .int .u64 0, .int .u64 0, .int .u64 0, .int .u64 0, .int .u64 0, .int .u64 0, .int .u64 0, .int .u64 0, .int .u64 0, .int .u64 0, .int .u64 0, .int .u64 0, .int .u64 0, .int .u64 0, .int .u64 0, .int .u64 0, .int .u64 0, .int .u64 0, .int .u64 0, .int .u64 0, .int .u64 0, .int .u64 0, .int .u64 0, .int .u64 0, .int .u64 0, .int .u64 0, .int .u64 0, .int .u64 0, .int .u64 0, .int .u64 0, .int .u64 0, .int .u64 0, .int .u64 0, .int .u64 0, .int .u64 0, .int .u64 0, .int .u64 0, .int .u64 0, .int .u64 0, .int .u64 0, .int .u64 0, .int .u64 0, .int .u64 0, .int .u64 0, .int .u64 0, .int .u64 0, .int .u64 0, .int .u64 0, .int .u64 0, .int .u64 0, .int .u64 0, .int .u64 0, .int .u64 0, .int .u64 0, .int .u64 0, .int .u64 0, .int .u64 0, .int .u64 0, .int .u64 0, .int .u64 0, .int .u64 0, .int .u64 0, .int .u64 0, .int .u64 0, .int .u64 0, .int .u64 0, .int .u64 0, .int .u64 0, .int .u64 0, .int .u64 0, .int .u64 0, .int .u64 0, .int .u64 0, .int .u64 0, .int .u64 0, .int .u64 0, .int .u64 0, .int .u64 0, .int .u64 0, .int .u64 0, .int .u64 0, .int .u64 0, .int .u64 0, .int .u64 0, .int .u64 0, .int .u64 0, .int .u64 0, .int .u64 0, .int .u64 0, .int .u64 0, .int .u64 0, .int .u64 0, .int .u64 0, .int .u64 0, .int .u64 0, .int .u64 0, .int .u64 0, .int .u64 0, .int .u64 0, .int .u64 0, .int .u64 0, .int .u64 0, .int .u64 0, .int .u64 0, .int .u64 0, .int .u64 0, .int .u64 0, .int .u64 0, .int .u64 0, .int .u64 0, .int .u64 0, .int .u64 0, .int .u64 0, .int .u64 0, .int .u64 0])) by kernel_rfl, by kernel_rfl, (fun e => by cases e), fun φ h => CR_cons.2 ⟨([.slice none 0 0] : List Value), _, rfl, ⟨_, rfl, by rw [VR], rfl⟩, CR_cons.2 ⟨([.slice none 0 0] : List Value), _, rfl, ⟨_, rfl, by rw [VR], rfl⟩, CR_cons.2 ⟨([.slice none 0 0] : List Value), _, rfl, ⟨_, rfl, by rw [VR], rfl⟩, CR_cons.2 ⟨([.slice none 0 0] : List Value), _, rfl, ⟨_, rfl, by rw [VR], rfl⟩, CR_cons.2 ⟨([.slice none 0 0] : List Value), _, rfl, ⟨_, rfl, by rw [VR], rfl⟩, CR_cons.2 ⟨([.slice none 0 0] : List Value), _, rfl, ⟨_, rfl, by rw [VR], rfl⟩, CR_cons.2 ⟨(encInts .u64 (List.replicate 256 0) : List Value), _, rfl, (toC_fl (i := 13) (zero_ints (by constructor <;> decide))), CR_cons.2 ⟨([.int .u64 0] : List Value), _, rfl, (toC_int ⟨rfl, by constructor <;> decide⟩), CR_nil.2 rfl⟩⟩⟩⟩⟩⟩⟩⟩⟩
theorem zs86 : ZsOK PX DF_ (86, [.raw (.slice none 0 0), .raw (.slice none 0 0), .raw (.slice none 0 0), .raw (.slice none 0 0), .raw (.slice none 0 0), .raw (.slice none 0 0), .fl 13 (List.replicate 256 0), .int .u64 0]) := ⟨_, _, _, _, ([.slice none 0 0] ++ ([.slice none 0 0] ++ ([.slice none 0 0] ++ ([.slice none 0 0] ++ ([.slice none 0 0] ++ ([.slice none 0 0] ++ (encInts .u64 (List.replicate 256 0) ++ ([.int .u64 0])))))))) ++ [], show tyInfo PX 86 = some (263, 2200, true, some (.agg #[.slice none 0 0, .slice none 0 0, .slice none 0 0, .slice none 0 0, .slice none 0 0, .slice none 0 0, .int .u64 0, .int .u64 0, .int .u64 0, .int .u64 0, .int .u64 0, .int .u64 0, .int .u64 0, .int .u64 0, .int .u64 0, .int .u64 0, .int .u64 0, .int .u64 0, .int .u64 0, .int .u64 0, .int .u64 0, .int .u64 0, .int .u64 0, .int .u64 0, .int .u64 0, .int .u64 0, .int .u64 0, .int .u64 0, .int .u64 0, .int .u64 0, .int .u64 0, .int .u64 0, .int .u64 0, .int .u64 0, .int .u64 0, .int .u64 0, .int .u64 0, .int .u64 0, .int .u64 0, .int .u64 0, .int .u64 0, .int .u64 0, .int .u64 0, .int .u64 0, .int .u64 0, .int .u64 0, .int .u64 0, .int .u64 0, .int .u64 0, .int .u64 0, .int .u64 0, .int .u64 0, .int .u64 0, .int .u64 0, .int .u64 0, .int .u64 0, .int .u64 0, .int .u64 0, .int .u64 0, .int .u64 0, .int .u64 0, .int .u64 0, .int .u64 0, .int .u64 0, .int .u64 0, .int .u64 0, .int .u64 0, .int .u64 0, .int .u64 0, .int .u64 0, .int .u64 0, .int .u64 0, .int .u64 0, .int .u64 0, .int .u64 0, .int .u64 0, .int .u64 0, .int .u64 0, .int .u64 0, .int .u64 0, .int .u64 0, .int .u64 0, .int .u64 0, .int .u64 0, .int .u64 0, .int .u64 0, .int .u64 0, .int .u64 0, .int .u64 0, .int .u64 0, .int .u64 0, .int .u64 0, .int .u64 0, .int .u64 0, .int .u64 0, .int .u64 0, .int .u64 0, .int .u64 0, .int .u64 0, .int .u64 0, .int .u64 0, .int .u64 0, .int .u64 0, .int .u64 0, .int .u64 0, .int .u64 0, .int .u64 0, .int .u64 0, .int .u64 0, .int .u64 0, .int .u64 0, .int .u64 0, .int .u64 0, .int .u64 0, .int .u64 0, .int .u64 0, .int .u64 0, .int .u64 0, .int .u64 0, .int .u64 0, .int .u64 0, .int .u64 0, .int .u64 0, .int .u64 0, .int .u64 0, .int .u64 0, .int .u64 0, .int .u64 0, .int .u64 0, .int .u64 0, .int .u64 0, .int .u64 0, .int .u64 0, .int .u64 0, .int .u64 0, .int .u64 0, .int .u64 0, .int .u64 0, .int .u64 0, .int .u64 0, .int .u64 0, .int .u64 0, .int .u64 0, .int .u64 0, .int .u64 0, .int .u64 0, .int .u64 0, .int .u64 0, .int .u64 0, .int .u64 0, .int .u64 0, .int .u64 0, .int .u64 0, .int .u64 0, .int .u64 0, .int .u64 0, .int .u64 0, .int .u64 0, .int .u64 0, .int .u64 0, .int .u64 0, .int .u64 0, .int .u64 0, .int .u64 0, .int .u64 0, .int .u64 0, .int .u64 0, .int .u64 0, .int .u64 0, .int .u64 0, .int .u64 0, .int .u64 0, .int .u64 0, .int .u64 0, .int .u64 0, .int .u64 0, .int .u64 0, .int .u64 0, .int .u64 0, .int .u64 0, .int .u64 0, .int .u64 0, .int .u64 0, .int .u64 0, .int .u64 0, .int .u64 0, .int .u64 0, .int .u64 0, .int .u64 0, .int .u64 0, .int .u64 0, .int .u64 0, .int .u64 0, .int .u64 0, .int .u64 0, .int .u64 0, .int .u64 0, .int .u64 0, .int .u64 0, .int .u64 0, .int .u64 0, .int .u64 0, .int .u64 0, .int .u64 0, .int .u64 0, .int .u64 0, .int .u64 0, .int .u64 0, .int .u64 0, .int .u64 0, .int .u64 0, .int .u64 0, .int .u64 0, .int .u64 0, .int .u64 0, .int .u64 0, .int .u64 0, .int .u64 0, .int .u64 0, .int .u64 0, .int .u64 0, .int .u64 0, .int .u64 0, .int .u64 0, .int .u64 0, .int .u64 0, .int .u64 0, .int .u64 0, .int .u64 0, .int .u64 0, .int .u64 0, .int .u64 0, .int .u64 0, .int .u64 0, .int .u64 0, .int .u64 0, .int .u64 0, .int .u64 0, .int .u64 0, .int .u64 0, .int .u64 0, .int .u64 0, .int .u64 0, .int .u64 0, .int .u64 0, .int .u64 0, .int .u64 0, .int .u64 0, .int .u64 0, .int .u64 0, .int .u64 0, .int .u64 0, .int .u64 0, .int .u64 0, .int .u64 0, .int .u64 0, .int .u64 0, .int .u64 0, .int .u64 0, .int .u64 0, .int .u64 0, .int .u64 0, .int .u64 0])) by kernel_rfl, by kernel_rfl, (fun e => by cases e), fun φ h => CR_cons.2 ⟨([.slice none 0 0] : List Value), _, rfl, ⟨_, rfl, by rw [VR], rfl⟩, CR_cons.2 ⟨([.slice none 0 0] : List Value), _, rfl, ⟨_, rfl, by rw [VR], rfl⟩, CR_cons.2 ⟨([.slice none 0 0] : List Value), _, rfl, ⟨_, rfl, by rw [VR], rfl⟩, CR_cons.2 ⟨([.slice none 0 0] : List Value), _, rfl, ⟨_, rfl, by rw [VR], rfl⟩, CR_cons.2 ⟨([.slice none 0 0] : List Value), _, rfl, ⟨_, rfl, by rw [VR], rfl⟩, CR_cons.2 ⟨([.slice none 0 0] : List Value), _, rfl, ⟨_, rfl, by rw [VR], rfl⟩, CR_cons.2 ⟨(encInts .u64 (List.replicate 256 0) : List Value), _, rfl, (toC_fl (i := 13) (zero_ints (by constructor <;> decide))), CR_cons.2 ⟨([.int .u64 0] : List Value), _, rfl, (toC_int ⟨rfl, by constructor <;> decide⟩), CR_nil.2 rfl⟩⟩⟩⟩⟩⟩⟩⟩⟩
theorem zs87 : ZsOK PX DF_ (87, [.raw (.nilFunc)]) := ⟨_, _, _, _, [.nilFunc] ++ [], show tyInfo PX 87 = some (1, 8, false, some (.nilFunc)) by kernel_rfl, by kernel_rfl, (fun _ => ⟨rfl, rfl⟩), fun φ h => CR_cons.2 ⟨([.nilFunc] : List Value), _, rfl, ⟨_, rfl, by rw [VR], rfl⟩, CR_nil.2 rfl⟩⟩
theorem zs88 : ZsOK PX DF_ (88, [.raw (.slice none 0 0)]) := ⟨_, _, _, _, [.slice none 0 0] ++ [], show tyInfo PX 88 = some (1, 24, false, some (.slice none 0 0)) by kernel_rfl, by kernel_rfl, (fun _ => ⟨rfl, rfl⟩), fun φ h => CR_cons.2 ⟨([.slice none 0 0] : List Value), _, rfl, ⟨_, rfl, by rw [VR], rfl⟩, CR_nil.2 rfl⟩⟩
theorem zs89 : ZsOK PX DF_ (89, [.raw (.nilFunc)]) := ⟨_, _, _, _, [.nilFunc] ++ [], show tyInfo PX 89 = some (1, 8, false, some (.nilFunc)) by kernel_rfl, by kernel_rfl, (fun _ => ⟨rfl, rfl⟩), fun φ h => CR_cons.2 ⟨([.nilFunc] : List Value), _, rfl, ⟨_, rfl, by rw [VR], rfl⟩, CR_nil.2 rfl⟩⟩
theorem zs90 : ZsOK PX DF_ (90, [.fl 16 (List.replicate 256 false)]) := ⟨_, _, _, _, encBools (List.replicate 256 false) ++ [], show tyInfo PX 90 = some (256, 256, true, some (.agg #[.bool false, .bool false, .bool false, .bool false, .bool false, .bool false, .bool false, .bool false, .bool false, .bool false, .bool false, .bool false, .bool false, .bool false, .bool false, .bool false, .bool false, .bool false, .bool false, .bool false, .bool false, .bool false, .bool false, .bool false, .bool false, .bool false, .bool false, .bool false, .bool false, .bool false, .bool false, .bool false, .bool false, .bool false, .bool false, .bool false, .bool false, .bool false, .bool false, .bool false, .bool false, .bool false, .bool false, .bool false, .bool false, .bool false, .bool false, .bool false, .bool false, .bool false, .bool false, .bool false, .bool false, .bool false, .bool false, .bool false, .bool false, .bool false, .bool false, .bool false, .bool false, .bool false, .bool false, .bool false, .bool false, .bool false, .bool false, .bool false, .bool false, .bool false, .bool false, .bool false, .bool false, .bool false, .bool false, .bool false, .bool false, .bool false, .bool false, .bool false, .bool false, .bool false, .bool false, .bool false, .bool false, .bool false, .bool false, .bool false, .bool false, .bool false, .bool false, .bool false, .bool false, .bool false, .bool false, .bool false, .bool false, .bool false, .bool false, .bool false, .bool false, .bool false, .bool false, .bool false, .bool false, .bool false, .bool false, .bool false, .bool false, .bool false, .bool false, .bool false, .bool false, .bool false, .bool false, .bool false, .bool false, .bool false, .bool false, .bool false, .bool false, .bool false, .bool false, .bool false, .bool false, .bool false, .bool false, .bool false, .bool false, .bool false, .bool false, .bool false, .bool false, .bool false, .bool false, .bool false, .bool false, .bool false, .bool false, .bool false, .bool false, .bool false, .bool false, .bool false, .bool false, .bool false, .bool false, .bool false, .bool false, .bool false, .bool false, .bool false, .bool false, .bool false, .bool false, .bool false, .bool false, .bool false, .bool false, .bool false, .bool false, .bool false, .bool false, .bool false, .bool false, .bool false, .bool false, .bool false, .bool false, .bool false, .bool false, .bool false, .bool false, .bool false, .bool false, .bool false, .bool false, .bool false, .bool false, .bool false, .bool false, .bool false, .bool false, .bool false, .bool false, .bool false, .bool false, .bool false, .bool false, .bool false, .bool false, .bool false, .bool false, .bool false, .bool false, .bool false, .bool false, .bool false, .bool false, .bool false, .bool false, .bool false, .bool false, .bool false, .bool false, .bool false, .bool false, .bool false, .bool false, .bool false, .bool false, .bool false, .bool false, .bool false, .bool false, .bool false, .bool false, .bool false, .bool false, .bool false, .bool false, .bool false, .bool false, .bool false, .bool false, .bool false, .bool false, .bool false, .bool false, .bool false, .bool false, .bool false, .bool false, .bool false, .bool false, .bool false, .bool false, .bool false, .bool false, .bool false, .bool false, .bool false, .bool false, .bool false, .bool false, .bool false, .bool false, .bool false, .bool false, .bool false, .bool false, .bool false, .bool false, .bool false, .bool false, .bool false])) by kernel_rfl, by kernel_rfl, (fun e => by cases e), fun φ h => CR_cons.2 ⟨(encBools (List.replicate 256 false) : List Value), _, rfl, (toC_fl (i := 16) zero_bools), CR_nil.2 rfl⟩⟩
theorem zs91 : ZsOK PX DF_ (91, [.raw (.nilFunc)]) := ⟨_, _, _, _, [.nilFunc] ++ [], show tyInfo PX 91 = some (1, 8, false, some (.nilFunc)) by kernel_rfl, by kernel_rfl, (fun _ => ⟨rfl, rfl⟩), fun φ h => CR_cons.2 ⟨([.nilFunc] : List Value), _, rfl, ⟨_, rfl, by rw [VR], rfl⟩, CR_nil.2 rfl⟩⟩
theorem zs92 : ZsOK PX DF_ (92, [.raw (.nilFunc)]) := ⟨_, _, _, _, [.nilFunc] ++ [], show tyInfo PX 92 = some (1, 8, false, some (.nilFunc)) by kernel_rfl, by kernel_rfl, (fun _ => ⟨rfl, rfl⟩), fun φ h => CR_cons.2 ⟨([.nilFunc] : List Value), _, rfl, ⟨_, rfl, by rw [VR], rfl⟩, CR_nil.2 rfl⟩⟩
theorem zs93 : ZsOK PX DF_ (93, [.int .i64 0, .int .i64 0]) := ⟨_, _, _, _, ([.int .i64 0] ++ ([.int .i64 0])) ++ [], show tyInfo PX 93 = some (2, 16, true, some (.agg #[.int .i64 0, .int .i64 0])) by kernel_rfl, by kernel_rfl, (fun e => by cases e), fun φ h => CR_cons.2 ⟨([.int .i64 0] : List Value), _, rfl, (toC_int ⟨rfl, by constructor <;> decide⟩), CR_cons.2 ⟨([.int .i64 0] : List Value), _, rfl, (toC_int ⟨rfl, by constructor <;> decide⟩), CR_nil.2 rfl⟩⟩⟩
theorem zs94 : ZsOK PX DF_ (94, [.int .i64 0, .int .i64 0]) := ⟨_, _, _, _, ([.int .i64 0] ++ ([.int .i64 0])) ++ [], show tyInfo PX 94 = some (2, 16, true, some (.agg #[.int .i64 0, .int .i64 0])) by kernel_rfl, by kernel_rfl, (fun e => by cases e), fun φ h => CR_cons.2 ⟨([.int .i64 0] : List Value), _, rfl, (toC_int ⟨rfl, by constructor <;> decide⟩), CR_cons.2 ⟨([.int .i64 0] : List Value), _, rfl, (toC_int ⟨rfl, by constructor <;> decide⟩), CR_nil.2 rfl⟩⟩⟩
theorem zs95 : ZsOK PX DF_ (95, [.raw (.pointer none)]) := ⟨_, _, _, _, [.pointer none] ++ [], show tyInfo PX 95 = some (1, 8, false, some (.pointer none)) by kernel_rfl, by kernel_rfl, (fun _ => ⟨rfl, rfl⟩), fun φ h => CR_cons.2 ⟨([.pointer none] : List Value), _, rfl, ⟨_, rfl, by rw [VR], rfl⟩, CR_nil.2 rfl⟩⟩
theorem zs96 : ZsOK PX DF_ (96, [.str ⟨#[]⟩, .int .i64 0, .int .i64 0, .raw (.slice none 0 0), .raw (.slice none 0 0)]) := ⟨_, _, _, _, ([.string ⟨#[]⟩] ++ ([.int .i64 0] ++ ([.int .i64 0] ++ ([.slice none 0 0] ++ ([.slice none 0 0]))))) ++ [], show tyInfo PX 96 = some (5, 80, true, some (.agg #[.string ⟨#[]⟩, .int .i64 0, .int .i64 0, .slice none 0 0, .slice none 0 0])) by kernel_rfl, by kernel_rfl, (fun e => by cases e), fun φ h => CR_cons.2 ⟨([.string ⟨#[]⟩] : List Value), _, rfl, (toC_str ⟨rfl, by decide⟩), CR_cons.2 ⟨([.int .i64 0] : List Value), _, rfl, (toC_int ⟨rfl, by constructor <;> decide⟩), CR_cons.2 ⟨([.int .i64 0] : List Value), _, rfl, (toC_int ⟨rfl, by constructor <;> decide⟩), CR_cons.2 ⟨([.slice none 0 0] : List Value), _, rfl, ⟨_, rfl, by rw [VR], rfl⟩, CR_cons.2 ⟨([.slice none 0 0] : List Value), _, rfl, ⟨_, rfl, by rw [VR], rfl⟩, CR_nil.2 rfl⟩⟩⟩⟩⟩⟩
theorem zs97 : ZsOK PX DF_ (97, [.str ⟨#[]⟩, .int .i64 0, .int .i64 0, .raw (.slice none 0 0), .raw (.slice none 0 0)]) := ⟨_, _, _, _, ([.string ⟨#[]⟩] ++ ([.int .i64 0] ++ ([.int .i64 0] ++ ([.slice none 0 0] ++ ([.slice none 0 0]))))) ++ [], show tyInfo PX 97 = some (5, 80, true, some (.agg #[.string ⟨#[]⟩, .int .i64 0, .int .i64 0, .slice none 0 0, .slice none 0 0])) by kernel_rfl, by kernel_rfl, (fun e => by cases e), fun φ h => CR_cons.2 ⟨([.string ⟨#[]⟩] : List Value), _, rfl, (toC_str ⟨rfl, by decide⟩), CR_cons.2 ⟨([.int .i64 0] : List Value), _, rfl, (toC_int ⟨rfl, by constructor <;> decide⟩), CR_cons.2 ⟨([.int .i64 0] : List Value), _, rfl, (toC_int ⟨rfl, by constructor <;> decide⟩), CR_cons.2 ⟨([.slice none 0 0] : List Value), _, rfl, ⟨_, rfl, by rw [VR], rfl⟩, CR_cons.2 ⟨([.slice none 0 0] : List Value), _, rfl, ⟨_, rfl, by rw [VR], rfl⟩, CR_nil.2 rfl⟩⟩⟩⟩⟩⟩
theorem zs98 : ZsOK PX DF_ (98, [.raw (.nilFunc)]) := ⟨_, _, _, _, [.nilFunc] ++ [], show tyInfo PX 98 = some (1, 8, false, some (.nilFunc)) by kernel_rfl, by kernel_rfl, (fun _ => ⟨rfl, rfl⟩), fun φ h => CR_cons.2 ⟨([.nilFunc] : List Value), _, rfl, ⟨_, rfl, by rw [VR], rfl⟩, CR_nil.2 rfl⟩⟩
theorem zs99 : ZsOK PX DF_ (99, [.raw (.slice none 0 0)]) := ⟨_, _, _, _, [.slice none 0 0] ++ [], show tyInfo PX 99 = some (1, 24, false, some (.slice none 0 0)) by kernel_rfl, by kernel_rfl, (fun _ => ⟨rfl, rfl⟩), fun φ h => CR_cons.2 ⟨([.slice none 0 0] : List Value), _, rfl, ⟨_, rfl, by rw [VR], rfl⟩, CR_nil.2 rfl⟩⟩
theorem zs100 : ZsOK PX DF_ (100, [.raw (.nilFunc)]) := ⟨_, _, _, _, [.nilFunc] ++ [], show tyInfo PX 100 = some (1, 8, false, some (.nilFunc)) by kernel_rfl, by kernel_rfl, (fun _ => ⟨rfl, rfl⟩), fun φ h => CR_cons.2 ⟨([.nilFunc] : List Value), _, rfl, ⟨_, rfl, by rw [VR], rfl⟩, CR_nil.2 rfl⟩⟩
theorem zs101 : ZsOK PX DF_ (101, [.raw (.nilFunc)]) := ⟨_, _, _, _, [.nilFunc] ++ [], show tyInfo PX 101 = some (1, 8, false, some (.nilFunc)) by kernel_rfl, by kernel_rfl, (fun _ => ⟨rfl, rfl⟩), fun φ h => CR_cons.2 ⟨([.nilFunc] : List Value), _, rfl, ⟨_, rfl, by rw [VR], rfl⟩, CR_nil.2 rfl⟩⟩
theorem zs102 : ZsOK PX DF_ (102, [.raw (.nilFunc)]) := ⟨_, _, _, _, [.nilFunc] ++ [], show tyInfo PX 102 = some (1, 8, false, some (.nilFunc)) by kernel_rfl, by kernel_rfl, (fun _ => ⟨rfl, rfl⟩), fun φ h => CR_cons.2 ⟨([.nilFunc] : List Value), _, rfl, ⟨_, rfl, by rw [VR], rfl⟩, CR_nil.2 rfl⟩⟩
theorem zs103 : ZsOK PX DF_ (103, [.raw (.nilFunc)]) := ⟨_, _, _, _, [.nilFunc] ++ [], show tyInfo PX 103 = some (1, 8, false, some (.nilFunc)) by kernel_rfl, by kernel_rfl, (fun _ => ⟨rfl, rfl⟩), fun φ h => CR_cons.2 ⟨([.nilFunc] : List Value), _, rfl, ⟨_, rfl, by rw [VR], rfl⟩, CR_nil.2 rfl⟩⟩
theorem zs104 : ZsOK PX DF_ (104, [.raw (.nilFunc)]) := ⟨_, _, _, _, [.nilFunc] ++ [], show tyInfo PX 104 = some (1, 8, false, some (.nilFunc)) by kernel_rfl, by kernel_rfl, (fun _ => ⟨rfl, rfl⟩), fun φ h => CR_cons.2 ⟨([.nilFunc] : List Value), _, rfl, ⟨_, rfl, by rw [VR], rfl⟩, CR_nil.2 rfl⟩⟩
theorem zs105 : ZsOK PX DF_ (105, [.raw (.nilFunc)]) := ⟨_, _, _, _, [.nilFunc] ++ [], show tyInfo PX 105 = some (1, 8, false, some (.nilFunc)) by kernel_rfl, by kernel_rfl, (fun _ => ⟨rfl, rfl⟩), fun φ h => CR_cons.2 ⟨([.nilFunc] : List Value), _, rfl, ⟨_, rfl, by rw [VR], rfl⟩, CR_nil.2 rfl⟩⟩
theorem zs106 : ZsOK PX DF_ (106, [.raw (.nilFunc)]) := ⟨_, _, _, _, [.nilFunc] ++ [], show tyInfo PX 106 = some (1, 8, false, some (.nilFunc)) by kernel_rfl, by kernel_rfl, (fun _ => ⟨rfl, rfl⟩), fun φ h => CR_cons.2 ⟨([.nilFunc] : List Value), _, rfl, ⟨_, rfl, by rw [VR], rfl⟩, CR_nil.2 rfl⟩⟩
theorem zs108 : ZsOK PX DF_ (108, [.raw (.nilFunc)]) := ⟨_, _, _, _, [.nilFunc] ++ [], show tyInfo PX 108 = some (1, 8, false, some (.nilFunc)) by kernel_rfl, by kernel_rfl, (fun _ => ⟨rfl, rfl⟩), fun φ h => CR_cons.2 ⟨([.nilFunc] : List Value), _, rfl, ⟨_, rfl, by rw [VR], rfl⟩, CR_nil.2 rfl⟩⟩
theorem zs109 : ZsOK PX DF_ (109, [.int .u64 0]) := ⟨_, _, _, _, [.int .u64 0] ++ [], show tyInfo PX 109 = some (1, 8, false, some (.int .u64 0)) by kernel_rfl, by kernel_rfl, (fun _ => ⟨rfl, rfl⟩), fun φ h => CR_cons.2 ⟨([.int .u64 0] : List Value), _, rfl, (toC_int ⟨rfl, by constructor <;> decide⟩), CR_nil.2 rfl⟩⟩
theorem zs111 : ZsOK PX DF_ (111, [.raw (.map none)]) := ⟨_, _, _, _, [.map none] ++ [], show tyInfo PX 111 = some (1, 8, false, some (.map none)) by kernel_rfl, by kernel_rfl, (fun _ => ⟨rfl, rfl⟩), fun φ h => CR_cons.2 ⟨([.map none] : List Value), _, rfl, ⟨_, rfl, by rw [VR], rfl⟩, CR_nil.2 rfl⟩⟩
theorem zs112 : ZsOK PX DF_ (112, [.raw (.nilFunc)]) := ⟨_, _, _, _, [.nilFunc] ++ [], show tyInfo PX 112 = some (1, 8, false, some (.nilFunc)) by kernel_rfl, by kernel_rfl, (fun _ => ⟨rfl, rfl⟩), fun φ h => CR_cons.2 ⟨([.nilFunc] : List Value), _, rfl, ⟨_, rfl, by rw [VR], rfl⟩, CR_nil.2 rfl⟩⟩
theorem zs113 : ZsOK PX DF_ (113, [.int .u8 0, .bool false]) := ⟨_, _, _, _, ([.int .u8 0] ++ ([.bool false])) ++ [], show tyInfo PX 113 = some (2, 2, true, some (.agg #[.int .u8 0, .bool false])) by kernel_rfl, by kernel_rfl, (fun e => by cases e), fun φ h => CR_cons.2 ⟨([.int .u8 0] : List Value), _, rfl, (toC_int ⟨rfl, by constructor <;> decide⟩), CR_cons.2 ⟨([.bool false] : List Value), _, rfl, (toC_bool ⟨rfl, trivial⟩), CR_nil.2 rfl⟩⟩⟩
theorem zs114 : ZsOK PX DF_ (114, [.int .u8 0, .bool false]) := ⟨_, _, _, _, ([.int .u8 0] ++ ([.bool false])) ++ [], show tyInfo PX 114 = some (2, 2, true, some (.agg #[.int .u8 0, .bool false])) by kernel_rfl, by kernel_rfl, (fun e => by cases e), fun φ h => CR_cons.2 ⟨([.int .u8 0] : List Value), _, rfl, (toC_int ⟨rfl, by constructor <;> decide⟩), CR_cons.2 ⟨([.bool false] : List Value), _, rfl, (toC_bool ⟨rfl, trivial⟩), CR_nil.2 rfl⟩⟩⟩
theorem zs116 : ZsOK PX DF_ (116, [.raw (.nilFunc)]) := ⟨_, _, _, _, [.nilFunc] ++ [], show tyInfo PX 116 = some (1, 8, false, some (.nilFunc)) by kernel_rfl, by kernel_rfl, (fun _ => ⟨rfl, rfl⟩), fun φ h => CR_cons.2 ⟨([.nilFunc] : List Value), _, rfl, ⟨_, rfl, by rw [VR], rfl⟩, CR_nil.2 rfl⟩⟩
theorem zs117 : ZsOK PX DF_ (117, [.raw (.nilFunc)]) := ⟨_, _, _, _, [.nilFunc] ++ [], show tyInfo PX 117 = some (1, 8, false, some (.nilFunc)) by kernel_rfl, by kernel_rfl, (fun _ => ⟨rfl, rfl⟩), fun φ h => CR_cons.2 ⟨([.nilFunc] : List Value), _, rfl, ⟨_, rfl, by rw [VR], rfl⟩, CR_nil.2 rfl⟩⟩
theorem zs118 : ZsOK PX DF_ (118, [.raw (.nilFunc)]) := ⟨_, _, _, _, [.nilFunc] ++ [], show tyInfo PX 118 = some (1, 8, false, some (.nilFunc)) by kernel_rfl, by kernel_rfl, (fun _ => ⟨rfl, rfl⟩), fun φ h => CR_cons.2 ⟨([.nilFunc] : List Value), _, rfl, ⟨_, rfl, by rw [VR], rfl⟩, CR_nil.2 rfl⟩⟩
theorem zs119 : ZsOK PX DF_ (119, [.raw (.nilFunc)]) := ⟨_, _, _, _, [.nilFunc] ++ [], show tyInfo PX 119 = some (1, 8, false, some (.nilFunc)) by kernel_rfl, by kernel_rfl, (fun _ => ⟨rfl, rfl⟩), fun φ h => CR_cons.2 ⟨([.nilFunc] : List Value), _, rfl, ⟨_, rfl, by rw [VR], rfl⟩, CR_nil.2 rfl⟩⟩
theorem zs120 : ZsOK PX DF_ (120, [.raw (.nilFunc)]) := ⟨_, _, _, _, [.nilFunc] ++ [], show tyInfo PX 120 = some (1, 8, false, some (.nilFunc)) by kernel_rfl, by kernel_rfl, (fun _ => ⟨rfl, rfl⟩), fun φ h => CR_cons.2 ⟨([.nilFunc] : List Value), _, rfl, ⟨_, rfl, by rw [VR], rfl⟩, CR_nil.2 rfl⟩⟩
theorem zs121 : ZsOK PX DF_ (121, [.raw (.nilFunc)]) := ⟨_, _, _, _, [.nilFunc] ++ [], show tyInfo PX 121 = some (1, 8, false, some (.nilFunc)) by kernel_rfl, by kernel_rfl, (fun _ => ⟨rfl, rfl⟩), fun φ h => CR_cons.2 ⟨([.nilFunc] : List Value), _, rfl, ⟨_, rfl, by rw [VR], rfl⟩, CR_nil.2 rfl⟩⟩
theorem zs122 : ZsOK PX DF_ (122, [.raw (.nilFunc)]) := ⟨_, _, _, _, [.nilFunc] ++ [], show tyInfo PX 122 = some (1, 8, false, some (.nilFunc)) by kernel_rfl, by kernel_rfl, (fun _ => ⟨rfl, rfl⟩), fun φ h => CR_cons.2 ⟨([.nilFunc] : List Value), _, rfl, ⟨_, rfl, by rw [VR], rfl⟩, CR_nil.2 rfl⟩⟩
theorem zs123 : ZsOK PX DF_ (123, [.raw (.nilFunc)]) := ⟨_, _, _, _, [.nilFunc] ++ [], show tyInfo PX 123 = some (1, 8, false, some (.nilFunc)) by kernel_rfl, by kernel_rfl, (fun _ => ⟨rfl, rfl⟩), fun φ h => CR_cons.2 ⟨([.nilFunc] : List Value), _, rfl, ⟨_, rfl, by rw [VR], rfl⟩, CR_nil.2 rfl⟩⟩
theorem zs125 : ZsOK PX DF_ (125, [.raw (.nilFunc)]) := ⟨_, _, _, _, [.nilFunc] ++ [], show tyInfo PX 125 = some (1, 8, false, some (.nilFunc)) by kernel_rfl, by kernel_rfl, (fun _ => ⟨rfl, rfl⟩), fun φ h => CR_cons.2 ⟨([.nilFunc] : List Value), _, rfl, ⟨_, rfl, by rw [VR], rfl⟩, CR_nil.2 rfl⟩⟩
theorem zs126 : ZsOK PX DF_ (126, [.raw (.nilFunc)]) := ⟨_, _, _, _, [.nilFunc] ++ [], show tyInfo PX 126 = some (1, 8, false, some (.nilFunc)) by kernel_rfl, by kernel_rfl, (fun _ => ⟨rfl, rfl⟩), fun φ h => CR_cons.2 ⟨([.nilFunc] : List Value), _, rfl, ⟨_, rfl, by rw [VR], rfl⟩, CR_nil.2 rfl⟩⟩
theorem zs127 : ZsOK PX DF_ (127, [.raw (.nilFunc)]) := ⟨_, _, _, _, [.nilFunc] ++ [], show tyInfo PX 127 = some (1, 8, false, some (.nilFunc)) by kernel_rfl, by kernel_rfl, (fun _ => ⟨rfl, rfl⟩), fun φ h => CR_cons.2 ⟨([.nilFunc] : List Value), _, rfl, ⟨_, rfl, by rw [VR], rfl⟩, CR_nil.2 rfl⟩⟩
theorem zs128 : ZsOK PX DF_ (128, [.raw (.nilFunc)]) := ⟨_, _, _, _, [.nilFunc] ++ [], show tyInfo PX 128 = some (1, 8, false, some (.nilFunc)) by kernel_rfl, by kernel_rfl, (fun _ => ⟨rfl, rfl⟩), fun φ h => CR_cons.2 ⟨([.nilFunc] : List Value), _, rfl, ⟨_, rfl, by rw [VR], rfl⟩, CR_nil.2 rfl⟩⟩
theorem zs129 : ZsOK PX DF_ (129, [.raw (.nilFunc)]) := ⟨_, _, _, _, [.nilFunc] ++ [], show tyInfo PX 129 = some (1, 8, false, some (.nilFunc)) by kernel_rfl, by kernel_rfl, (fun _ => ⟨rfl, rfl⟩), fun φ h => CR_cons.2 ⟨([.nilFunc] : List Value), _, rfl, ⟨_, rfl, by rw [VR], rfl⟩, CR_nil.2 rfl⟩⟩
theorem zs130 : ZsOK PX DF_ (130, [.raw (.nilFunc)]) := ⟨_, _, _, _, [.nilFunc] ++ [], show tyInfo PX 130 = some (1, 8, false, some (.nilFunc)) by kernel_rfl, by kernel_rfl, (fun _ => ⟨rfl, rfl⟩), fun φ h => CR_cons.2 ⟨([.nilFunc] : List Value), _, rfl, ⟨_, rfl, by rw [VR], rfl⟩, CR_nil.2 rfl⟩⟩
theorem zs131 : ZsOK PX DF_ (131, [.raw (.nilFunc)]) := ⟨_, _, _, _, [.nilFunc] ++ [], show tyInfo PX 131 = some (1, 8, false, some (.nilFunc)) by kernel_rfl, by kernel_rfl, (fun _ => ⟨rfl, rfl⟩), fun φ h => CR_cons.2 ⟨([.nilFunc] : List Value), _, rfl, ⟨_, rfl, by rw [VR], rfl⟩, CR_nil.2 rfl⟩⟩
theorem zs132 : ZsOK PX DF_ (132, [.raw (.nilFunc)]) := ⟨_, _, _, _, [.nilFunc] ++ [], show tyInfo PX 132 = some (1, 8, false, some (.nilFunc)) by kernel_rfl, by kernel_rfl, (fun _ => ⟨rfl, rfl⟩), fun φ h => CR_cons.2 ⟨([.nilFunc] : List Value), _, rfl, ⟨_, rfl, by rw [VR], rfl⟩, CR_nil.2 rfl⟩⟩
theorem zs133 : ZsOK PX DF_ (133, [.raw (.nilFunc)]) := ⟨_, _, _, _, [.nilFunc] ++ [], show tyInfo PX 133 = some (1, 8, false, some (.nilFunc)) by kernel_rfl, by kernel_rfl, (fun _ => ⟨rfl, rfl⟩), fun φ h => CR_cons.2 ⟨([.nilFunc] : List Value), _, rfl, ⟨_, rfl, by rw [VR], rfl⟩, CR_nil.2 rfl⟩⟩
theorem zs134 : ZsOK PX DF_ (134, [.raw (.nilFunc)]) := ⟨_, _, _, _, [.nilFunc] ++ [], show tyInfo PX 134 = some (1, 8, false, some (.nilFunc)) by kernel_rfl, by kernel_rfl, (fun _ => ⟨rfl, rfl⟩), fun φ h => CR_cons.2 ⟨([.nilFunc] : List Value), _, rfl, ⟨_, rfl, by rw [VR], rfl⟩, CR_nil.2 rfl⟩⟩
theorem zs135 : ZsOK PX DF_ (135, [.raw (.nilFunc)]) := ⟨_, _, _, _, [.nilFunc] ++ [], show tyInfo PX 135 = some (1, 8, false, some (.nilFunc)) by kernel_rfl, by kernel_rfl, (fun _ => ⟨rfl, rfl⟩), fun φ h => CR_cons.2 ⟨([.nilFunc] : List Value), _, rfl, ⟨_, rfl, by rw [VR], rfl⟩, CR_nil.2 rfl⟩⟩
theorem zs141 : ZsOK PX DF_ (141, [.int .u32 0]) := ⟨_, _, _, _, [.int .u32 0] ++ [], show tyInfo PX 141 = some (1, 4, false, some (.int .u32 0)) by kernel_rfl, by kernel_rfl, (fun _ => ⟨rfl, rfl⟩), fun φ h => CR_cons.2 ⟨([.int .u32 0] : List Value), _, rfl, (toC_int ⟨rfl, by constructor <;> decide⟩), CR_nil.2 rfl⟩⟩
theorem zs145 : ZsOK PX DF_ (145, [.raw (.pointer none)]) := ⟨_, _, _, _, [.pointer none] ++ [], show tyInfo PX 145 = some (1, 8, false, some (.pointer none)) by kernel_rfl, by kernel_rfl, (fun _ => ⟨rfl, rfl⟩), fun φ h => CR_cons.2 ⟨([.pointer none] : List Value), _, rfl, ⟨_, rfl, by rw [VR], rfl⟩, CR_nil.2 rfl⟩⟩
theorem zk2 : ZkOK PX DF_ (2, ⟨0, (0 : Int)⟩) := ⟨_, _, _, _, [.int .i64 0], show tyInfo PX 2 = some (1, 8, false, some (.int .i64 0)) by kernel_rfl, by kernel_rfl, fun h => ⟨rfl, by constructor <;> decide⟩⟩
theorem zk3 : ZkOK PX DF_ (3, ⟨0, (0 : Int)⟩) := ⟨_, _, _, _, [.int .i64 0], show tyInfo PX 3 = some (1, 8, false, some (.int .i64 0)) by kernel_rfl, by kernel_rfl, fun h => ⟨rfl, by constructor <;> decide⟩⟩
theorem zk4 : ZkOK PX DF_ (4, ⟨3, false⟩) := ⟨_, _, _, _, [.bool false], show tyInfo PX 4 = some (1, 1, false, some (.bool false)) by kernel_rfl, by kernel_rfl, fun h => ⟨rfl, trivial⟩⟩
theorem zk5 : ZkOK PX DF_ (5, ⟨1, (0 : Int)⟩) := ⟨_, _, _, _, [.int .u8 0], show tyInfo PX 5 = some (1, 1, false, some (.int .u8 0)) by kernel_rfl, by kernel_rfl, fun h => ⟨rfl, by constructor <;> decide⟩⟩
theorem zk9 : ZkOK PX DF_ (9, ⟨4, (⟨#[]⟩ : ByteArray)⟩) := ⟨_, _, _, _, [.string ⟨#[]⟩], show tyInfo PX 9 = some (1, 16, false, some (.string ⟨#[]⟩)) by kernel_rfl, by kernel_rfl, fun h => ⟨rfl, by decide⟩⟩
theorem zk12 : ZkOK PX DF_ (12, ⟨2, (0 : Int)⟩) := ⟨_, _, _, _, [.int .u64 0], show tyInfo PX 12 = some (1, 8, false, some (.int .u64 0)) by kernel_rfl, by kernel_rfl, fun h => ⟨rfl, by constructor <;> decide⟩⟩
theorem zk28 : ZkOK PX DF_ (28, ⟨0, (0 : Int)⟩) := ⟨_, _, _, _, [.int .i64 0], show tyInfo PX 28 = some (1, 8, false, some (.int .i64 0)) by kernel_rfl, by kernel_rfl, fun h => ⟨rfl, by constructor <;> decide⟩⟩
theorem zk34 : ZkOK PX DF_ (34, ⟨10, (⟨[], []⟩ : TreeM)⟩) := ⟨_, _, _, _, [.slice none 0 0] ++ ([.slice none 0 0]), show tyInfo PX 34 = some (2, 48, true, some (.agg #[.slice none 0 0, .slice none 0 0])) by kernel_rfl, by kernel_rfl, fun h => ⟨([.slice none 0 0] : List Value), _, rfl, zero_slice _ _, zero_slice _ _⟩⟩
theorem zk35 : ZkOK PX DF_ (35, ⟨2, (0 : Int)⟩) := ⟨_, _, _, _, [.int .u64 0], show tyInfo PX 35 = some (1, 8, false, some (.int .u64 0)) by kernel_rfl, by kernel_rfl, fun h => ⟨rfl, by constructor <;> decide⟩⟩
theorem zk36 : ZkOK PX DF_ (36, ⟨5, (0 : BSet)⟩) := ⟨_, _, _, _, [.int .u64 0, .int .u64 0, .int .u64 0, .int .u64 0], show tyInfo PX 36 = some (4, 32, true, some (.agg #[.int .u64 0, .int .u64 0, .int .u64 0, .int .u64 0])) by kernel_rfl, by kernel_rfl, fun h => zero_set⟩
theorem zk37 : ZkOK PX DF_ (37, ⟨5, (0 : BSet)⟩) := ⟨_, _, _, _, [.int .u64 0, .int .u64 0, .int .u64 0, .int .u64 0], show tyInfo PX 37 = some (4, 32, true, some (.agg #[.int .u64 0, .int .u64 0, .int .u64 0, .int .u64 0])) by kernel_rfl, by kernel_rfl, fun h => zero_set⟩
theorem zk39 : ZkOK PX DF_ (39, ⟨8, (⟨0, 0, 0, 0, 0, 0⟩ : NodeM)⟩) := ⟨_, _, _, _, [.int .u8 0] ++ ([.int .u64 0, .int .u64 0, .int .u64 0, .int .u64 0] ++ ([.int .i64 0] ++ ([.int .i64 0] ++ ([.int .i64 0] ++ ([.int .i64 0]))))), show tyInfo PX 39 = some (9, 72, true, some (.agg #[.int .u8 0, .int .u64 0, .int .u64 0, .int .u64 0, .int .u64 0, .int .i64 0, .int .i64 0, .int .i64 0, .int .i64 0])) by kernel_rfl, by kernel_rfl, fun h => ⟨([.int .u8 0] : List Value), _, rfl, ⟨rfl, by constructor <;> decide⟩, ⟨([.int .u64 0, .int .u64 0, .int .u64 0, .int .u64 0] : List Value), _, rfl, zero_set, ⟨([.int .i64 0] : List Value), _, rfl, ⟨rfl, by constructor <;> decide⟩, ⟨([.int .i64 0] : List Value), _, rfl, ⟨rfl, by constructor <;> decide⟩, ⟨([.int .i64 0] : List Value), _, rfl, ⟨rfl, by constructor <;> decide⟩, ⟨rfl, by constructor <;> decide⟩⟩⟩⟩⟩⟩⟩
theorem zk41 : ZkOK PX DF_ (41, ⟨9, (⟨0, false⟩ : PrtM)⟩) := ⟨_, _, _, _, [.int .i64 0] ++ ([.bool false]), show tyInfo PX 41 = some (2, 16, true, some (.agg #[.int .i64 0, .bool false])) by kernel_rfl, by kernel_rfl, fun h => ⟨([.int .i64 0] : List Value), _, rfl, ⟨rfl, by constructor <;> decide⟩, ⟨rfl, trivial⟩⟩⟩
theorem zk64 : ZkOK PX DF_ (64, ⟨15, (⟨0, 0⟩ : PlaceM)⟩) := ⟨_, _, _, _, [.int .u64 0, .int .u64 0, .int .u64 0, .int .u64 0] ++ ([.int .u64 0]), show tyInfo PX 64 = some (5, 40, true, some (.agg #[.int .u64 0, .int .u64 0, .int .u64 0, .int .u64 0, .int .u64 0])) by kernel_rfl, by kernel_rfl, fun h => ⟨([.int .u64 0, .int .u64 0, .int .u64 0, .int .u64 0] : List Value), _, rfl, zero_set, ⟨rfl, by constructor <;> decide⟩⟩⟩
theorem zk78 : ZkOK PX DF_ (78, ⟨11, (⟨[], [], 0, 0, false⟩ : PieceM)⟩) := ⟨_, _, _, _, [.slice none 0 0] ++ ([.slice none 0 0] ++ ([.int .u64 0] ++ ([.int .u64 0] ++ ([.bool false])))), show tyInfo PX 78 = some (5, 72, true, some (.agg #[.slice none 0 0, .slice none 0 0, .int .u64 0, .int .u64 0, .bool false])) by kernel_rfl, by kernel_rfl, fun h => ⟨([.slice none 0 0] : List Value), _, rfl, zero_slice _ _, ⟨([.slice none 0 0] : List Value), _, rfl, zero_slice _ _, ⟨([.int .u64 0] : List Value), _, rfl, ⟨rfl, by constructor <;> decide⟩, ⟨([.int .u64 0] : List Value), _, rfl, ⟨rfl, by constructor <;> decide⟩, ⟨rfl, trivial⟩⟩⟩⟩⟩⟩
theorem zk84 : ZkOK PX DF_ (84, ⟨13, (List.replicate 256 0 : List Int)⟩) := ⟨_, _, _, _, encInts .u64 (List.replicate 256 0), show tyInfo PX 84 = some (256, 2048, true, some (.agg #[.int .u64 0, .int .u64 0, .int .u64 0, .int .u64 0, .int .u64 0, .int .u64 0, .int .u64 0, .int .u64 0, .int .u64 0, .int .u64 0, .int .u64 0, .int .u64 0, .int .u64 0, .int .u64 0, .int .u64 0, .int .u64 0, .int .u64 0, .int .u64 0, .int .u64 0, .int .u64 0, .int .u64 0, .int .u64 0, .int .u64 0, .int .u64 0, .int .u64 0, .int .u64 0, .int .u64 0, .int .u64 0, .int .u64 0, .int .u64 0, .int .u64 0, .int .u64 0, .int .u64 0, .int .u64 0, .int .u64 0, .int .u64 0, .int .u64 0, .int .u64 0, .int .u64 0, .int .u64 0, .int .u64 0, .int .u64 0, .int .u64 0, .int .u64 0, .int .u64 0, .int .u64 0, .int .u64 0, .int .u64 0, .int .u64 0, .int .u64 0, .int .u64 0, .int .u64 0, .int .u64 0, .int .u64 0, .int .u64 0, .int .u64 0, .int .u64 0, .int .u64 0, .int .u64 0, .int .u64 0, .int .u64 0, .int .u64 0, .int .u64 0, .int .u64 0, .int .u64 0, .int .u64 0, .int .u64 0, .int .u64 0, .int .u64 0, .int .u64 0, .int .u64 0, .int .u64 0, .int .u64 0, .int .u64 0, .int .u64 0, .int .u64 0, .int .u64 0, .int .u64 0, .int .u64 0, .int .u64 0, .int .u64 0, .int .u64 0, .int .u64 0, .int .u64 0, .int .u64 0, .int .u64 0, .int .u64 0, .int .u64 0, .int .u64 0, .int .u64 0, .int .u64 0, .int .u64 0, .int .u64 0, .int .u64 0, .int .u64 0, .int .u64 0, .int .u64 0, .int .u64 0, .int .u64 0, .int .u64 0, .int .u64 0, .int .u64 0, .int .u64 0, .int .u64 0, .int .u64 0, .int .u64 0, .int .u64 0, .int .u64 0, .int .u64 0, .int .u64 0, .int .u64 0, .int .u64 0, .int .u64 0, .int .u64 0, .int .u64 0, .int .u64 0, .int .u64 0, .int .u64 0, .int .u64 0, .int .u64 0, .int .u64 0, .int .u64 0, .int .u64 0, .int .u64 0, .int .u64 0, .int .u64 0, .int .u64 0, .int .u64 0, .int .u64 0, .int .u64 0, .int .u64 0, .int .u64 0, .int .u64 0, .int .u64 0, .int .u64 0, .int .u64 0, .int .u64 0, .int .u64 0, .int .u64 0, .int .u64 0, .int .u64 0, .int .u64 0, .int .u64 0, .int .u64 0, .int .u64 0, .int .u64 0, .int .u64 0, .int .u64 0, .int .u64 0, .int .u64 0, .int .u64 0, .int .u64 0, .int .u64 0, .int .u64 0, .int .u64 0, .int .u64 0, .int .u64 0, .int .u64 0, .int .u64 0, .int .u64 0, .int .u64 0, .int .u64 0, .int .u64 0, .int .u64 0, .int .u64 0, .int .u64 0, .int .u64 0, .int .u64 0, .int .u64 0, .int .u64 0, .int .u64 0, .int .u64 0, .int .u64 0, .int .u64 0, .int .u64 0, .int .u64 0, .int .u64 0, .int .u64 0, .int .u64 0, .int .u64 0, .int .u64 0, .int .u64 0, .int .u64 0, .int .u64 0, .int .u64 0, .int .u64 0, .int .u64 0, .int .u64 0, .int .u64 0, .int .u64 0, .int .u64 0, .int .u64 0, .int .u64 0, .int .u64 0, .int .u64 0, .int .u64 0, .int .u64 0, .int .u64 0, .int .u64 0, .int .u64 0, .int .u64 0, .int .u64 0, .int .u64 0, .int .u64 0, .int .u64 0, .int .u64 0, .int .u64 0, .int .u64 0, .int .u64 0, .int .u64 0, .int .u64 0, .int .u64 0, .int .u64 0, .int .u64 0, .int .u64 0, .int .u64 0, .int .u64 0, .int .u64 0, .int .u64 0, .int .u64 0, .int .u64 0, .int .u64 0, .int .u64 0, .int .u64 0, .int .u64 0, .int .u64 0, .int .u64 0, .int .u64 0, .int .u64 0, .int .u64 0, .int .u64 0, .int .u64 0, .int .u64 0, .int .u64 0, .int .u64 0, .int .u64 0, .int .u64 0, .int .u64 0, .int .u64 0, .int .u64 0, .int .u64 0, .int .u64 0, .int .u64 0, .int .u64 0, .int .u64 0, .int .u64 0, .int .u64 0, .int .u64 0, .int .u64 0, .int .u64 0, .int .u64 0, .int .u64 0, .int .u64 0, .int .u64 0, .int .u64 0, .int .u64 0])) by kernel_rfl, by kernel_rfl, fun h => (zero_ints (by constructor <;> decide))⟩
theorem zk99 : ZkOK PX DF_ (99, ⟨7, ([] : List Int)⟩) := ⟨_, _, _, _, [.slice none 0 0], show tyInfo PX 99 = some (1, 24, false, some (.slice none 0 0)) by kernel_rfl, by kernel_rfl, fun h => zero_slice _ _⟩
theorem zk109 : ZkOK PX DF_ (109, ⟨2, (0 : Int)⟩) := ⟨_, _, _, _, [.int .u64 0], show tyInfo PX 109 = some (1, 8, false, some (.int .u64 0)) by kernel_rfl, by kernel_rfl, fun h => ⟨rfl, by constructor <;> decide⟩⟩
theorem eq36 : EqOK PX DF_ dqF (36, 5) := EqOK.set (show PX.underlying 36 = some (.array 4 35) by kernel_rfl) (show PX.underlying 35 = some (.int .u64) by kernel_rfl) (show tyInfo PX 35 = some (1, 8, false, some (.int .u64 0)) by kernel_rfl) (by kernel_rfl)
theorem eq37 : EqOK PX DF_ dqF (37, 5) := EqOK.set (show PX.underlying 37 = some (.array 4 35) by kernel_rfl) (show PX.underlying 35 = some (.int .u64) by kernel_rfl) (show tyInfo PX 35 = some (1, 8, false, some (.int .u64 0)) by kernel_rfl) (by kernel_rfl)
theorem eq39 : EqOK PX DF_ dqF (39, 8) := EqOK.of (i := 8) (enc := encNode) (ok := okNode) (dq := inferInstanceAs (DecidableEq NodeM)) rep_node (eq_node (A := 37) (B := 35) (K := 5) (N := 3) (by kernel_rfl) (by kernel_rfl) (by kernel_rfl) (by kernel_rfl) (show PX.underlying 37 = some (.array 4 35) by kernel_rfl) (show PX.underlying 35 = some (.int .u64) by kernel_rfl) (show PX.underlying 3 = some (.int .i64) by kernel_rfl) (show PX.underlying 5 = some (.int .u8) by kernel_rfl) (show tyInfo PX 37 = some (4, 32, true, some (.agg #[.int .u64 0, .int .u64 0, .int .u64 0, .int .u64 0])) by kernel_rfl) (show tyInfo PX 35 = some (1, 8, false, some (.int .u64 0)) by kernel_rfl) (show tyInfo PX 3 = some (1, 8, false, some (.int .i64 0)) by kernel_rfl) (show tyInfo PX 5 = some (1, 1, false, some (.int .u8 0)) by kernel_rfl)) (by kernel_rfl)
noncomputable def XC : Cx PX DF_ := mkCx (by kernel_rfl) ktT zsT zkT [(36, 5), (37, 5), (39, 8)] (alls_cons zs1 (alls_cons zs2 (alls_cons zs3 (alls_cons zs4 (alls_cons zs5 (alls_cons zs9 (alls_cons zs12 (alls_cons zs13 (alls_cons zs20 (alls_cons zs21 (alls_cons zs22 (alls_cons zs23 (alls_cons zs24 (alls_cons zs25 (alls_cons zs26 (alls_cons zs27 (alls_cons zs28 (alls_cons zs30 (alls_cons zs31 (alls_cons zs32 (alls_cons zs33 (alls_cons zs34 (alls_cons zs35 (alls_cons zs36 (alls_cons zs37 (alls_cons zs38 (alls_cons zs39 (alls_cons zs40 (alls_cons zs41 (alls_cons zs42 (alls_cons zs43 (alls_cons zs44 (alls_cons zs45 (alls_cons zs46 (alls_cons zs47 (alls_cons zs48 (alls_cons zs49 (alls_cons zs50 (alls_cons zs51 (alls_cons zs52 (alls_cons zs53 (alls_cons zs54 (alls_cons zs55 (alls_cons zs56 (alls_cons zs58 (alls_cons zs60 (alls_cons zs61 (alls_cons zs62 (alls_cons zs63 (alls_cons zs64 (alls_cons zs65 (alls_cons zs66 (alls_cons zs67 (alls_cons zs71 (alls_cons zs72 (alls_cons zs74 (alls_cons zs75 (alls_cons zs76 (alls_cons zs77 (alls_cons zs78 (alls_cons zs79 (alls_cons zs81 (alls_cons zs82 (alls_cons zs83 (alls_cons zs84 (alls_cons zs85 (alls_cons zs86 (alls_cons zs87 (alls_cons zs88 (alls_cons zs89 (alls_cons zs90 (alls_cons zs91 (alls_cons zs92 (alls_cons zs93 (alls_cons zs94 (alls_cons zs95 (alls_cons zs96 (alls_cons zs97 (alls_cons zs98 (alls_cons zs99 (alls_cons zs100 (alls_cons zs101 (alls_cons zs102 (alls_cons zs103 (alls_cons zs104 (alls_cons zs105 (alls_cons zs106 (alls_cons zs108 (alls_cons zs109 (alls_cons zs111 (alls_cons zs112 (alls_cons zs113 (alls_cons zs114 (alls_cons zs116 (alls_cons zs117 (alls_cons zs118 (alls_cons zs119 (alls_cons zs120 (alls_cons zs121 (alls_cons zs122 (alls_cons zs123 (alls_cons zs125 (alls_cons zs126 (alls_cons zs127 (alls_cons zs128 (alls_cons zs129 (alls_cons zs130 (alls_cons zs131 (alls_cons zs132 (alls_cons zs133 (alls_cons zs134 (alls_cons zs135 (alls_cons zs141 (alls_cons zs145 (alls_nil))))))))))))))))))))))))))))))))))))))))))))))))))))))))))))))))))))))))))))))))))))))))))))))))))))))))))))))))))) (alls_cons zk2 (alls_cons zk3 (alls_cons zk4 (alls_cons zk5 (alls_cons zk9 (alls_cons zk12 (alls_cons zk28 (alls_cons zk34 (alls_cons zk35 (alls_cons zk36 (alls_cons zk37 (alls_cons zk39 (alls_cons zk41 (alls_cons zk64 (alls_cons zk78 (alls_cons zk84 (alls_cons zk99 (alls_cons zk109 (alls_nil))))))))))))))))))) (alls_cons eq36 (alls_cons eq37 (alls_cons eq39 (alls_nil))))
end Go.Proofs.YtgobbgpmdfnfhaaDoor
namespace Go.Proofs.YtgobbgpmdfnfhaaDoor
open Go Gx Go.Shelf Go.RowKit
set_option linter.unusedVariables false
def tzRen : Ren := ⟨fun | 29 => 40 | n => n, fun | 22 => 35 | 25 => 109 | 54 => 110 | n => n, fun | 1 => 0 | n => n⟩
theorem tzLays : Lays7.n29 Tryd.prog tzRen where
  mixed := by kernel_rfl
  f29 := by kernel_rfl
  t0 := by kernel_rfl
  a0 := fun _ => by kernel_rfl
  z0 := fun _ => by kernel_rfl
  v0 := fun _ => by kernel_rfl
  i0 := by kernel_rfl
  t3 := by kernel_rfl
  a3 := fun _ => by kernel_rfl
  z3 := fun _ => by kernel_rfl
  v3 := fun _ => by kernel_rfl
  i3 := by kernel_rfl
  t4 := by kernel_rfl
  a4 := fun _ => by kernel_rfl
  z4 := fun _ => by kernel_rfl
  v4 := fun _ => by kernel_rfl
  i4 := by kernel_rfl
  t5 := by kernel_rfl
  a5 := fun _ => by kernel_rfl
  z5 := fun _ => by kernel_rfl
  v5 := fun _ => by kernel_rfl
  i5 := by kernel_rfl
  t22 := by kernel_rfl
  a22 := fun _ => by kernel_rfl
  z22 := fun _ => by kernel_rfl
  v22 := fun _ => by kernel_rfl
  i22 := by kernel_rfl
  t25 := by kernel_rfl
  a25 := fun _ => by kernel_rfl
  z25 := fun _ => by kernel_rfl
  v25 := fun _ => by kernel_rfl
  i25 := by kernel_rfl
  t54 := by kernel_rfl
  a54 := fun _ => by kernel_rfl
  z54 := fun _ => by kernel_rfl
  g1 := by kernel_rfl
theorem tz_of (x : Nat) (hx : x < 18446744073709551616) (w : World) (hT : TabAt 0 Lib.deBruijn64tab w) : Calls Tryd.prog 40 #[.int .u64 x] w fun e w' => e = .returned (.int .i64 (Lib.ctz 64 x)) ∧ w' = w :=
  Any7.bits_TrailingZeros64 tzLays x hx w (fun _ => hT)
def tzTab : List Value := Lib.deBruijn64tab.map fun n => .int .u8 (n : Nat)
def TabG (h : Ghost) : Prop := ∀ j, j < 64 → gcell h ⟨0, j, none⟩ = tzTab[j]?
theorem tab_len : tzTab.length = 64 := by decide
theorem tab_some {j : Nat} (hj : j < 64) : ∃ v, tzTab[j]? = some v := ⟨_, List.getElem?_eq_getElem (by rw [tab_len]; exact hj)⟩
theorem tab_mono (h h' : Ghost) (hl : Le h h') (t : TabG h) : TabG h' := fun j hj => by
  have e := t j hj
  obtain ⟨v, hv⟩ := tab_some hj
  rw [hv] at e ⊢
  exact gcell_mono hl e
theorem tab_at {h : Ghost} {w : World} (t : TabG h) (hl : Le h (hp w)) : TabAt 0 Lib.deBruijn64tab w := by
  intro j hj
  have hj' : j < 64 := hj
  have e := t j hj'
  obtain ⟨v, hv⟩ := tab_some hj'
  rw [hv] at e
  rw [gcell_world hl e, ← hv]
  unfold tzTab
  rw [List.getElem?_map, List.getElem?_eq_getElem hj]
  simp [hj]
def conTZ : Con σF where
  args := [.int .u64]
  items := []
  res := .int .i64
  pre := fun _ _ => []
  fact := fun _ _ => []
  spec := fun ads _ => match ads with
    | [.int _ x] => some (.int .i64 (ctzI x), [])
    | _ => none
theorem tz_con : ConOK PX DF_ TabG 40 conTZ := by
  intro ids ads asv u c1 nb r ids' hok hin hsp hpre
  refine ⟨fun p hp => (by cases hp), fun v u' c3 hout w h B φ Vs hT R hV hd => ?_⟩
  unfold okCs at hok; rw [Bool.and_eq_true] at hok
  obtain ⟨h1, h2⟩ := hok
  obtain rfl : ids = [] := by
    cases ids with
    | nil => rfl
    | cons a l => cases h1
  match ads, h2, hin, hsp with
  | [.int k x], h2, hin, hsp =>
    have hk : k = .u64 := by
      simp only [conTZ, okDL, okD, shF, Bool.and_true, decide_eq_true_eq] at h2
      exact h2
    subst hk
    have hin : some ([SV.int .u64 x], [], 0, true) = some (asv, u, c1, nb) := hin
    injection hin with hin; injection hin with e1 e2; injection e2 with e2 e3; injection e3 with e3 e4
    subst e1; subst e2; subst e3
    have hsp : some (SV.int .i64 (ctzI x), []) = some (r, ids') := hsp
    injection hsp with hsp; injection hsp with e1 e2; subst e1; subst e2
    have hout : some (SV.int .i64 (ctzI x), [], 0) = some (v, u', c3) := hout
    injection hout with hout; injection hout with e1 e2; injection e2 with e2 e3; subst e1; subst e2; subst e3
    obtain ⟨V, vs, rfl, hv, hn⟩ := LR_cons.1 hV
    rw [LR_nil] at hn; subst hn
    rw [VR] at hv
    obtain ⟨rfl, i0⟩ := hv
    have h0 := u64_lo i0; have h1' := u64_hi i0
    obtain ⟨n, rfl⟩ := Int.eq_ofNat_of_zero_le h0
    refine (tz_of n (by omega) w (tab_at hT R.ghost)).mono fun e w' he => ?_
    obtain ⟨rfl, rfl⟩ := he
    have hc : Lib.ctz 64 n ≤ 64 := by
      by_cases hn : n = 0
      · subst hn; decide
      · exact Nat.le_of_lt (Lib.lowest_bit 64 n hn (by omega)).2
    refine ⟨φ, h, _, rfl, R, ?_, fun j _ x hx => hx⟩
    rw [VR]
    have e : ((n : Nat) : Int).toNat = n := Int.toNat_natCast n
    unfold ctzI
    rw [e]
    exact ⟨rfl, in_i64 (by omega) (by omega)⟩
  | [], h2, _, _ => cases h2
  | [.bool _], h2, _, _ => cases h2
  | [.str _], h2, _, _ => cases h2
  | [.fl _ _], h2, _, _ => cases h2
  | [.rs _ _], h2, _, _ => cases h2
  | [.nm _], h2, _, _ => cases h2
  | [.ptr _ _], h2, _, _ => cases h2
  | [.pa _ _ _ _], h2, _, _ => cases h2
  | [.el _ _ _ _], h2, _, _ => cases h2
  | [.ea _ _ _], h2, _, _ => cases h2
  | [.agg _], h2, _, _ => cases h2
  | [.tup _], h2, _, _ => cases h2
  | [.fn _ _], h2, _, _ => cases h2
  | [.ifc _ _], h2, _, _ => cases h2
  | [.raw _], h2, _, _ => cases h2
  | _ :: _ :: _, h2, _, _ => simp [conTZ, okDL] at h2
end Go.Proofs.YtgobbgpmdfnfhaaDoor
namespace Gx
open Go Go.RowKit
set_option linter.unusedSimpArgs false
set_option linter.unusedVariables false
theorem ctz_step {p : Int} (h0 : p ≠ 0) (lo : 0 ≤ p) (hi : p ≤ 18446744073709551615) : wbits p.toNat = (ctzI p).toNat :: wbits (iand p (p - 1)).toNat ∧ 0 ≤ ctzI p := by
  have hs := wbits_step (x := p.toNat) (by omega) (by omega)
  have e : (iand p (p - 1)).toNat = p.toNat &&& (p.toNat - 1) := by unfold iand; rw [Int.toNat_natCast]; congr 1; omega
  refine ⟨?_, by unfold ctzI; omega⟩
  rw [hs, e]
  unfold ctzI; rw [Int.toNat_natCast]
def joinsL (xs : List Int) (a b : Int) : List Int := (wbits a.toNat).foldl (fun xs k => xs.set k (ior (at_ xs (k : Int)) b)) xs
theorem joins_len (xs : List Int) (a b : Int) : (joinsL xs a b).length = xs.length := by
  unfold joinsL
  generalize wbits a.toNat = l
  induction l generalizing xs with
  | nil => rfl
  | cons k l ih => rw [List.foldl_cons, ih, List.length_set]
def shl (n : Nat) (x : Int) : Int := IntKind.u64.wrap (x * 2 ^ n)
theorem shl_eq (n : Nat) {x : Int} (h : 0 ≤ x) : shl n x = ((x.toNat * 2 ^ n % 18446744073709551616 : Nat) : Int) := by
  obtain ⟨m, rfl⟩ := Int.eq_ofNat_of_zero_le h
  unfold shl IntKind.wrap
  simp [IntKind.bits, IntKind.signed]
theorem shl_in (n : Nat) {x : Int} (h : 0 ≤ x) : inK .u64 (shl n x) := by rw [shl_eq n h]; exact in_u64 (by omega) (by omega)
theorem shl_bit (n : Nat) {x : Int} (h : 0 ≤ x) (k : Nat) : (shl n x).toNat.testBit k = (decide (k < 64) && (decide (n ≤ k) && x.toNat.testBit (k - n))) := by
  rw [shl_eq n h, Int.toNat_natCast, show (18446744073709551616 : Nat) = 2 ^ 64 by decide, Nat.testBit_mod_two_pow, Nat.testBit_mul_two_pow]
theorem mem_shl {n k : Nat} {x : Int} (h : 0 ≤ x) : k ∈ wbits (shl n x).toNat ↔ k < 64 ∧ n ≤ k ∧ k - n ∈ wbits x.toNat := by
  rw [mem_wbits, mem_wbits, shl_bit n h]
  simp only [Bool.and_eq_true, decide_eq_true_eq]
  constructor
  · rintro ⟨h1, h2, h3, h4⟩; exact ⟨h1, h3, by omega, h4⟩
  · rintro ⟨h1, h2, h3, h4⟩; exact ⟨h1, h1, h2, h4⟩
theorem mem_ior {k : Nat} {x y : Int} : k ∈ wbits (ior x y).toNat ↔ k ∈ wbits x.toNat ∨ k ∈ wbits y.toNat := by
  rw [mem_wbits, mem_wbits, mem_wbits, ior_bit]
  simp only [Bool.or_eq_true]
  constructor
  · rintro ⟨h1, h2 | h2⟩; exact .inl ⟨h1, h2⟩; exact .inr ⟨h1, h2⟩
  · rintro (⟨h1, h2⟩ | ⟨h1, h2⟩); exact ⟨h1, .inl h2⟩; exact ⟨h1, .inr h2⟩
def within (x : Int) (n : Nat) : Prop := ∀ k ∈ wbits x.toNat, k < n
structure PieceOK (p : PieceM) : Prop where
  len : p.follow.length = p.sets.length
  last : within p.last p.sets.length
  first : within p.first p.sets.length
  l0 : inK .u64 p.last
  f0 : inK .u64 p.first
  fol : ∀ x ∈ p.follow, inK .u64 x
def besideS (a b : PieceM) : List BSet := a.sets ++ b.sets
def besideF (a b : PieceM) : List Int := a.follow ++ b.follow.map (shl a.sets.length)
def besM (a b : PieceM) : PieceM := ⟨besideS a b, besideF a b, 0, 0, false⟩
def behindM (a b : PieceM) : PieceM :=
  let f := shl a.sets.length b.first
  let l := shl a.sets.length b.last
  ⟨besideS a b, joinsL (besideF a b) a.last f, cond a.empty (ior a.first f) a.first, cond b.empty (ior l a.last) l, cond a.empty b.empty false⟩
def orM (a b : PieceM) : PieceM :=
  ⟨besideS a b, besideF a b, ior a.first (shl a.sets.length b.first), ior a.last (shl a.sets.length b.last), cond a.empty true b.empty⟩
def noneP (e : Bool) : PieceM := ⟨[], [], 0, 0, e⟩
def timesM (a : PieceM) (l : Int) (n : Nat) : PieceM := (List.range n).foldl (fun o (i : Nat) => behindM o { a with empty := cond a.empty true (decide (l ≤ (i : Int))) }) (noneP true)
def oftenM (a : PieceM) (l m : Int) : PieceM := if m < 0 then ⟨a.sets, joinsL a.follow a.last a.first, a.first, a.last, cond a.empty true (decide (l = 0))⟩ else timesM a l m.toNat
theorem within_shl {n m : Nat} {x : Int} (h0 : 0 ≤ x) (h : within x m) : within (shl n x) (n + m) := fun k hk => by
  obtain ⟨_, h2, h3⟩ := (mem_shl h0).1 hk
  have := h _ h3
  omega
theorem within_mono {n m : Nat} {x : Int} (h : within x n) (hl : n ≤ m) : within x m := fun k hk => Nat.lt_of_lt_of_le (h k hk) hl
theorem within_ior {n : Nat} {x y : Int} (h : within x n) (k : within y n) : within (ior x y) n := fun j hj => (mem_ior.1 hj).elim (h j) (k j)
theorem joins_in {xs : List Int} {a b : Int} (h : ∀ x ∈ xs, inK .u64 x) (hb : inK .u64 b) (hw : within a xs.length) : ∀ x ∈ joinsL xs a b, inK .u64 x := by
  unfold within at hw
  unfold joinsL
  generalize wbits a.toNat = l at hw
  induction l generalizing xs with
  | nil => exact h
  | cons k l ih =>
    rw [List.foldl_cons]
    refine ih (fun x hx => ?_) (fun j hj => by rw [List.length_set]; exact hw j (List.mem_cons_of_mem _ hj))
    rcases List.mem_or_eq_of_mem_set hx with e | e
    · exact h x e
    · rw [e]; exact ior_in (h _ (List.mem_of_getElem? (at_some (by omega) (by have := hw k (by simp); omega)))) hb
section
variable {a b : PieceM}
theorem beside_in (ha : PieceOK a) (hb : PieceOK b) : ∀ x ∈ besideF a b, inK .u64 x := fun x hx => by
  rcases List.mem_append.1 hx with h | h
  · exact ha.fol x h
  · obtain ⟨y, hy, rfl⟩ := List.mem_map.1 h
    exact shl_in _ (u64_lo (hb.fol y hy))
theorem beside_len (ha : PieceOK a) (hb : PieceOK b) : (besideF a b).length = (besideS a b).length := by simp [besideF, besideS, ha.len, hb.len]
theorem behind_ok (ha : PieceOK a) (hb : PieceOK b) : PieceOK (behindM a b) := by
  have l0 : 0 ≤ b.last := u64_lo hb.l0
  have f0 : 0 ≤ b.first := u64_lo hb.f0
  have hl : (besideS a b).length = a.sets.length + b.sets.length := by simp [besideS]
  have wf : within (shl a.sets.length b.first) (besideS a b).length := by rw [hl]; exact within_shl f0 hb.first
  have wl : within (shl a.sets.length b.last) (besideS a b).length := by rw [hl]; exact within_shl l0 hb.last
  have waf : within a.first (besideS a b).length := within_mono ha.first (by omega)
  have wal : within a.last (besideS a b).length := within_mono ha.last (by omega)
  refine ⟨?_, ?_, ?_, ?_, ?_, ?_⟩
  · show (joinsL _ _ _).length = _; rw [joins_len]; exact beside_len ha hb
  · show within (cond b.empty _ _) _
    cases b.empty with
    | true => exact within_ior wl wal
    | false => exact wl
  · show within (cond a.empty _ _) _
    cases a.empty with
    | true => exact within_ior waf wf
    | false => exact waf
  · show inK .u64 (cond b.empty _ _)
    cases b.empty with
    | true => exact ior_in (shl_in _ l0) ha.l0
    | false => exact shl_in _ l0
  · show inK .u64 (cond a.empty _ _)
    cases a.empty with
    | true => exact ior_in ha.f0 (shl_in _ f0)
    | false => exact ha.f0
  · exact joins_in (beside_in ha hb) (shl_in _ f0) (by rw [beside_len ha hb]; exact wal)
theorem or_ok (ha : PieceOK a) (hb : PieceOK b) : PieceOK (orM a b) := by
  have l0 : 0 ≤ b.last := u64_lo hb.l0
  have f0 : 0 ≤ b.first := u64_lo hb.f0
  have hl : (besideS a b).length = a.sets.length + b.sets.length := by simp [besideS]
  have wf : within (shl a.sets.length b.first) (besideS a b).length := by rw [hl]; exact within_shl f0 hb.first
  have wl : within (shl a.sets.length b.last) (besideS a b).length := by rw [hl]; exact within_shl l0 hb.last
  have waf : within a.first (besideS a b).length := within_mono ha.first (by omega)
  have wal : within a.last (besideS a b).length := within_mono ha.last (by omega)
  exact ⟨beside_len ha hb, within_ior wal wl, within_ior waf wf, ior_in ha.l0 (shl_in _ l0), ior_in ha.f0 (shl_in _ f0), beside_in ha hb⟩
theorem z0 : inK .u64 0 := in_u64 (by decide) (by decide)
theorem none_ok (e : Bool) : PieceOK (noneP e) := ⟨rfl, fun k hk => by simp [noneP, wbits] at hk, fun k hk => by simp [noneP, wbits] at hk, z0, z0, fun x hx => by cases hx⟩
theorem empty_ok (ha : PieceOK a) (e : Bool) : PieceOK { a with empty := e } := ⟨ha.len, ha.last, ha.first, ha.l0, ha.f0, ha.fol⟩
theorem times_ok (ha : PieceOK a) (l : Int) (n : Nat) : PieceOK (timesM a l n) ∧ (timesM a l n).sets.length = n * a.sets.length := by
  induction n with
  | zero => exact ⟨none_ok true, by simp [timesM, noneP]⟩
  | succ n ih =>
    have e : timesM a l (n + 1) = behindM (timesM a l n) { a with empty := cond a.empty true (decide (l ≤ (n : Int))) } := by
      unfold timesM; rw [List.range_succ, List.foldl_append]; rfl
    rw [e]
    refine ⟨behind_ok ih.1 (empty_ok ha _), ?_⟩
    show (besideS _ _).length = _
    simp [besideS, ih.2, Nat.add_mul]
theorem times_next (a : PieceM) (l : Int) {i : Int} (h : 0 ≤ i) : timesM a l (i + 1).toNat = behindM (timesM a l i.toNat) { a with empty := cond a.empty true (decide (l ≤ i)) } := by
  obtain ⟨n, rfl⟩ := Int.eq_ofNat_of_zero_le h
  rw [show ((n : Int) + 1).toNat = n + 1 by omega, Int.toNat_natCast]
  unfold timesM; rw [List.range_succ, List.foldl_append]; rfl
theorem often_ok (ha : PieceOK a) (l m : Int) : PieceOK (oftenM a l m) := by
  unfold oftenM
  split
  · exact ⟨by show (joinsL _ _ _).length = _; rw [joins_len]; exact ha.len, ha.last, ha.first, ha.l0, ha.f0, joins_in ha.fol ha.f0 (by rw [ha.len]; exact ha.last)⟩
  · exact (times_ok ha l _).1
end
def setP (s : BSet) : PieceM := ⟨[s], [0], 1, 1, false⟩
def nodeP (l : List PieceM) (n : NodeM) : PieceM :=
  if n.kd = 2 then setP n.set else if n.kd = 3 then behindM (at_ l n.na) (at_ l n.nb) else if n.kd = 4 then orM (at_ l n.na) (at_ l n.nb) else if n.kd = 5 then oftenM (at_ l n.na) n.mn n.mx else noneP true
structure NodeOK (n : NodeM) (k : Nat) : Prop where
  a : n.kd = 3 ∨ n.kd = 4 ∨ n.kd = 5 → 0 ≤ n.na ∧ n.na < (k : Int)
  b : n.kd = 3 ∨ n.kd = 4 → 0 ≤ n.nb ∧ n.nb < (k : Int)
  m : n.kd = 5 → n.mx ≤ 9
def PieceS (p : PieceM) : Prop := PieceOK p ∧ p.sets.length ≤ 63
theorem at_mem_ {α : Type} [Inhabited α] {l : List α} {i : Int} (h0 : 0 ≤ i) (h1 : i < (l.length : Int)) : at_ l i ∈ l := List.mem_of_getElem? (at_some h0 h1)
theorem set_ok (s : BSet) : PieceOK (setP s) := by
  have w : within 1 1 := fun k hk => by
    rw [mem_wbits] at hk
    have e : (1 : Int).toNat = 2 ^ 0 := rfl
    rw [e, Nat.testBit_two_pow] at hk
    have := hk.2
    simp at this; omega
  have i1 : inK .u64 1 := in_u64 (by decide) (by decide)
  exact ⟨rfl, w, w, i1, i1, fun x hx => by simp [setP] at hx; subst hx; exact z0⟩
theorem often_len {a : PieceM} (ha : PieceOK a) (l m : Int) : (oftenM a l m).sets.length = if m < 0 then a.sets.length else m.toNat * a.sets.length := by
  unfold oftenM
  split
  · rfl
  · exact (times_ok ha l _).2
theorem node_ok {l : List PieceM} {n : NodeM} (hl : ∀ p ∈ l, PieceS p) (hn : NodeOK n l.length) : PieceOK (nodeP l n) := by
  have ga : n.kd = 3 ∨ n.kd = 4 ∨ n.kd = 5 → PieceOK (at_ l n.na) := fun h => (hl _ (at_mem_ (hn.a h).1 (hn.a h).2)).1
  have gb : n.kd = 3 ∨ n.kd = 4 → PieceOK (at_ l n.nb) := fun h => (hl _ (at_mem_ (hn.b h).1 (hn.b h).2)).1
  unfold nodeP
  split
  · exact set_ok _
  · split
    · rename_i h; exact behind_ok (ga (.inl h)) (gb (.inl h))
    · split
      · rename_i h; exact or_ok (ga (.inr (.inl h))) (gb (.inr h))
      · split
        · rename_i h; exact often_ok (ga (.inr (.inr h))) _ _
        · exact none_ok true
end Gx
namespace Go.Proofs.YtgobbgpmdfnfhaaDoor
open Go Go.RowKit Gx
set_option linter.unusedVariables false
set_option linter.unusedSimpArgs false
set_option maxRecDepth 8000
noncomputable def con_joins : Con σF where
  args := [.nmI 0, .int .u64, .int .u64]
  items := [.row 35 2]
  res := .tup []
  pre := fun ads ids => match ads, ids with
    | [_, .int _ a, .int _ b], [.rs 2 xs] => [within a xs.length]
    | _, _ => []
  fact := fun ads ids => match ads, ids with
    | [_, .int _ a, .int _ b], [.rs 2 xs] => []
    | _, _ => []
  spec := fun ads ids => match ads, ids with
    | [_, .int _ a, .int _ b], [.rs 2 xs] => some (.tup [], [.rs 2 (joinsL xs a b)])
    | _, _ => none
noncomputable def lh_joins_0 (ads ids : List SF) : LoopH σF where
  slots := [1]
  shs := [.int .u64]
  drop := [6, 7, 8, 9, 10, 11, 12, 13, 14, 15, 16, 17, 18, 19]
  ns := [0]
  its := [.row 35 2]
  see := []
  inv := fun see c0 cs => match ads, ids, see, c0, cs with
    | [_, .int _ a, .int _ b], [.rs 2 xs], _, [.rs 2 ys, .int _ q], [.rs 2 zs, .int _ p] => [joinsL ys q b = joinsL zs p b, within p zs.length]
    | _, _, _, _, _ => []
  meas := fun see c0 cs => match ads, ids, see, c0, cs with
    | [_, .int _ a, .int _ b], [.rs 2 xs], _, [.rs 2 ys, .int _ q], [.rs 2 zs, .int _ p] => p.toNat
    | _, _, _, _, _ => 0
  nsl := []
noncomputable def hn_joins (ads ids : List SF) : Hn σF := ⟨fun t => memB t [], fun t => memB t [], fun i => cond (Nat.beq i 0) (some (lh_joins_0 ads ids)) (none), fun i => none⟩
noncomputable def cs_joins (ads ids : List SF) : List (Nat × Con σF) := [(40, conTZ)]
noncomputable def vt_joins : VT := vcF XC (fun ads ids g => lookC g (cs_joins ads ids)) hn_joins 200 Tryd.f64 con_joins
theorem vc_joins : ∀ (xs0 : List Int) (n1 n2 : Int), within n1 (List.length xs0) → True ∧ (wtLs (fun (x : Int) => inK .u64 x) xs0 → inK .u64 n1 → inK .u64 n2 → joinsL xs0 n1 n2 = joinsL xs0 n1 n2 ∧ within n1 (List.length xs0) ∧ ∀ (xs3 : List Int) (n4 : Int), joinsL xs0 n1 n2 = joinsL xs3 n4 n2 → within n4 (List.length xs3) → wtLs (fun (x : Int) => inK .u64 x) xs3 → inK .u64 n4 → bif !decide (n4 = (0 : Int)) then (0 : Int) ≤ ctzI n4 ∧ ctzI n4 < (↑(List.length xs3) : Int) ∧ (0 : Int) ≤ ctzI n4 ∧ ctzI n4 < (↑(List.length xs3) : Int) ∧ inK .u64 (n4 - (1 : Int)) ∧ joinsL xs0 n1 n2 = joinsL (List.set xs3 (Int.toNat (ctzI n4)) (ior (at_ xs3 (ctzI n4)) n2)) (iand n4 (n4 - (1 : Int))) n2 ∧ within (iand n4 (n4 - (1 : Int))) (List.length (List.set xs3 (Int.toNat (ctzI n4)) (ior (at_ xs3 (ctzI n4)) n2))) ∧ Int.toNat (iand n4 (n4 - (1 : Int))) < Int.toNat n4 ∧ True else xs3 = joinsL xs0 n1 n2 ∧ True) :=
 fun xs0 => fun n1 => fun n2 => fun h0 => ⟨trivial,
 fun h1 => have k1 := b_len h1; fun h2 => have k2 := b_u64 h2; fun h3 => have k3 := b_u64 h3; ⟨(by rfl), ⟨(by assumption),
 fun xs3 => fun n4 => fun h4 => fun h5 => fun h6 => have k6 := b_len h6; fun h7 => have k7 := b_u64 h7; condN (fun h8 => ⟨(by exact (ctz_step h8 k7.1 k7.2).2), ⟨(by obtain ⟨hs, hn⟩ := ctz_step h8 k7.1 k7.2; have hk := h5 (ctzI n4).toNat (by rw [hs]; simp); omega), ⟨(by exact (ctz_step h8 k7.1 k7.2).2), ⟨(by obtain ⟨hs, hn⟩ := ctz_step h8 k7.1 k7.2; have hk := h5 (ctzI n4).toNat (by rw [hs]; simp); omega), ⟨(by exact in_u64 (by omega) (by omega)), ⟨(by obtain ⟨hs, hn⟩ := ctz_step h8 k7.1 k7.2; rw [h4]; unfold joinsL; rw [hs, List.foldl_cons, Int.toNat_of_nonneg hn]), ⟨(by obtain ⟨hs, hn⟩ := ctz_step h8 k7.1 k7.2; intro k hk; rw [List.length_set]; exact h5 k (by rw [hs]; exact List.mem_cons_of_mem _ hk)), ⟨(by have := iand_le' (a := n4) (b := n4 - 1) (by omega); have := iand_nonneg n4 (n4 - 1); omega),
 trivial⟩⟩⟩⟩⟩⟩⟩⟩) (fun h8 => ⟨(by subst h8; exact h4.symm),
 trivial⟩)⟩⟩⟩
theorem ok_joins : ConOK PX DF_ TabG 64 con_joins := con_ok XC.mixed tab_mono (fn := Tryd.f64) (by kernel_rfl) (lookC_ok (l := cs_joins [] []) (alls_cons tz_con (alls_nil))) (vc_eq (show VT.H vt_joins = _ by kernel_rfl) vc_joins)
noncomputable def con_beside : Con σF where
  args := [.fl 11, .fl 11]
  items := []
  res := .tup [.agg [.row 37 5, .row 35 2, .int .u64, .int .u64, .bool], .int .u64, .int .u64]
  pre := fun ads ids => match ads, ids with
    | [.fl 11 a, .fl 11 b], [] => [(PieceM.sets a).length + (PieceM.sets b).length ≤ 1000000, (PieceM.follow a).length + (PieceM.follow b).length ≤ 1000000]
    | _, _ => []
  fact := fun ads ids => match ads, ids with
    | [.fl 11 a, .fl 11 b], [] => []
    | _, _ => []
  spec := fun ads ids => match ads, ids with
    | [.fl 11 a, .fl 11 b], [] => some (.tup [.agg [.rs 5 (besideS a b), .rs 2 (besideF a b), .int .u64 0, .int .u64 0, .bool false], .int .u64 (shl (PieceM.sets a).length (PieceM.first b)), .int .u64 (shl (PieceM.sets a).length (PieceM.last b))], [])
    | _, _ => none
noncomputable def lh_beside_5 (ads ids : List SF) : LoopH σF where
  slots := [31]
  shs := [.int .i64]
  drop := [9, 32, 33, 34, 35, 36, 37, 38, 39, 40, 41, 42, 43]
  ns := []
  its := [.box 78 [.row 37 5, .row 35 2, .int .u64, .int .u64, .bool]]
  see := []
  inv := fun see c0 cs => match ads, ids, see, c0, cs with
    | [.fl 11 a, .fl 11 b], [], _, _, [.agg [.rs 5 ss, .rs 2 fs, .int _ u0, .int _ u1, .bool e], .int _ i] => [fs = PieceM.follow a ++ ((PieceM.follow b).take i.toNat).map (shl (PieceM.sets a).length), 0 ≤ i, i ≤ (PieceM.follow b).length, ss = besideS a b, u0 = 0, u1 = 0, e = false]
    | _, _, _, _, _ => []
  meas := fun see c0 cs => match ads, ids, see, c0, cs with
    | [.fl 11 a, .fl 11 b], [], _, _, [.agg [.rs 5 ss, .rs 2 fs, .int _ u0, .int _ u1, .bool e], .int _ i] => (PieceM.follow b).length - i.toNat
    | _, _, _, _, _ => 0
  nsl := [4]
noncomputable def hn_beside (ads ids : List SF) : Hn σF := ⟨fun t => memB t [39, 48, 52], fun t => memB t [], fun i => cond (Nat.beq i 5) (some (lh_beside_5 ads ids)) (none), fun i => none⟩
noncomputable def cs_beside (ads ids : List SF) : List (Nat × Con σF) := []
noncomputable def vt_beside : VT := vcF XC (fun ads ids g => lookC g (cs_beside ads ids)) hn_beside 200 Tryd.f37 con_beside
theorem vc_beside : ∀ (v0 v1 : PieceM), List.length (PieceM.sets v0) + List.length (PieceM.sets v1) ≤ (1000000 : Nat) → List.length (PieceM.follow v0) + List.length (PieceM.follow v1) ≤ (1000000 : Nat) → True ∧ (wt11 v0 → wt11 v1 → ((0 : Int) + (↑(List.length (PieceM.sets v0)) : Int)) * (32 : Int) ≤ (140737488355328 : Int) ∧ (0 : Int) + (↑(List.length (PieceM.sets v0)) : Int) ≤ (9223372036854775807 : Int) ∧ ((↑(List.length (PieceM.sets v0)) : Int) + (↑(List.length (PieceM.sets v1)) : Int)) * (32 : Int) ≤ (140737488355328 : Int) ∧ (↑(List.length (PieceM.sets v0)) : Int) + (↑(List.length (PieceM.sets v1)) : Int) ≤ (9223372036854775807 : Int) ∧ ((0 : Int) + (↑(List.length (PieceM.follow v0)) : Int)) * (8 : Int) ≤ (140737488355328 : Int) ∧ (0 : Int) + (↑(List.length (PieceM.follow v0)) : Int) ≤ (9223372036854775807 : Int) ∧ PieceM.follow v0 = PieceM.follow v0 ++ List.map (shl (List.length (PieceM.sets v0))) (List.take (Int.toNat (0 : Int)) (PieceM.follow v1)) ∧ (0 : Int) ≤ (0 : Int) ∧ (0 : Int) ≤ (↑(List.length (PieceM.follow v1)) : Int) ∧ PieceM.sets v0 ++ PieceM.sets v1 = besideS v0 v1 ∧ (0 : Int) = (0 : Int) ∧ (0 : Int) = (0 : Int) ∧ false = false ∧ ∀ (xs2 : List BSet) (xs3 : List Int) (n4 n5 : Int) (b6 : Bool) (n7 : Int), xs3 = PieceM.follow v0 ++ List.map (shl (List.length (PieceM.sets v0))) (List.take (Int.toNat n7) (PieceM.follow v1)) → (0 : Int) ≤ n7 → n7 ≤ (↑(List.length (PieceM.follow v1)) : Int) → xs2 = besideS v0 v1 → n4 = (0 : Int) → n5 = (0 : Int) → b6 = false → wtLs wt5 xs2 → wtLs (fun (x : Int) => inK .u64 x) xs3 → inK .u64 n4 → inK .u64 n5 → inK .i64 n7 → bif decide (n7 < (↑(List.length (PieceM.follow v1)) : Int)) then (0 : Int) ≤ n7 ∧ n7 < (↑(List.length (PieceM.follow v1)) : Int) ∧ (0 : Int) ≤ (↑(List.length (PieceM.sets v0)) : Int) ∧ ((↑(List.length xs3) : Int) + (1 : Int)) * (8 : Int) ≤ (140737488355328 : Int) ∧ (↑(List.length xs3) : Int) + (1 : Int) ≤ (9223372036854775807 : Int) ∧ inK .i64 (n7 + (1 : Int)) ∧ xs3 ++ [IntKind.wrap .u64 (at_ (PieceM.follow v1) n7 * (2 : Int) ^ Int.toNat (↑(List.length (PieceM.sets v0)) : Int))] = PieceM.follow v0 ++ List.map (shl (List.length (PieceM.sets v0))) (List.take (Int.toNat (n7 + (1 : Int))) (PieceM.follow v1)) ∧ (0 : Int) ≤ n7 + (1 : Int) ∧ n7 + (1 : Int) ≤ (↑(List.length (PieceM.follow v1)) : Int) ∧ xs2 = besideS v0 v1 ∧ n4 = (0 : Int) ∧ n5 = (0 : Int) ∧ b6 = false ∧ List.length (PieceM.follow v1) - Int.toNat (n7 + (1 : Int)) < List.length (PieceM.follow v1) - Int.toNat n7 ∧ True else (0 : Int) ≤ (↑(List.length (PieceM.sets v0)) : Int) ∧ (0 : Int) ≤ (↑(List.length (PieceM.sets v0)) : Int) ∧ xs2 = besideS v0 v1 ∧ xs3 = besideF v0 v1 ∧ n4 = (0 : Int) ∧ n5 = (0 : Int) ∧ b6 = false ∧ IntKind.wrap .u64 (PieceM.first v1 * (2 : Int) ^ Int.toNat (↑(List.length (PieceM.sets v0)) : Int)) = shl (List.length (PieceM.sets v0)) (PieceM.first v1) ∧ IntKind.wrap .u64 (PieceM.last v1 * (2 : Int) ^ Int.toNat (↑(List.length (PieceM.sets v0)) : Int)) = shl (List.length (PieceM.sets v0)) (PieceM.last v1) ∧ True) :=
 fun v0 => fun v1 => fun h0 => fun h1 => ⟨trivial,
 fun h2 => fun h3 => ⟨(by omega), ⟨(by omega), ⟨(by omega), ⟨(by omega), ⟨(by omega), ⟨(by omega), ⟨(by (simp; done)), ⟨(by omega), ⟨(by omega), ⟨(by rfl), ⟨(by rfl), ⟨(by rfl), ⟨(by rfl),
 fun xs2 => fun xs3 => fun n4 => fun n5 => fun b6 => fun n7 => fun h4 => fun h5 => fun h6 => fun h7 => fun h8 => fun h9 => fun h10 => fun h11 => have k11 := b_len h11; fun h12 => have k12 := b_len h12; fun h13 => have k13 := b_u64 h13; fun h14 => have k14 := b_u64 h14; fun h15 => have k15 := b_i64 h15; condD (fun h16 => ⟨(by assumption), ⟨(by assumption), ⟨(by omega), ⟨(by have e := congrArg List.length h4; simp at e; omega), ⟨(by have e := congrArg List.length h4; simp at e; omega), ⟨(by exact in_i64 (by omega) (by omega)), ⟨(by rw [h4, take_next _ h5 h16, List.map_append]; simp [shl]), ⟨(by omega), ⟨(by assumption), ⟨(by assumption), ⟨(by assumption), ⟨(by assumption), ⟨(by assumption), ⟨(by omega),
 trivial⟩⟩⟩⟩⟩⟩⟩⟩⟩⟩⟩⟩⟩⟩) (fun h16 => ⟨(by omega), ⟨(by omega), ⟨(by assumption), ⟨(by rw [h4, List.take_of_length_le (by omega)]; rfl), ⟨(by assumption), ⟨(by assumption), ⟨(by assumption), ⟨(by simp [shl]), ⟨(by simp [shl]),
 trivial⟩⟩⟩⟩⟩⟩⟩⟩⟩)⟩⟩⟩⟩⟩⟩⟩⟩⟩⟩⟩⟩⟩⟩
theorem ok_beside : ConOK PX DF_ TabG 37 con_beside := con_ok XC.mixed tab_mono (fn := Tryd.f37) (by kernel_rfl) (lookC_ok (l := cs_beside [] []) (alls_nil)) (vc_eq (show VT.H vt_beside = _ by kernel_rfl) vc_beside)
noncomputable def con_besideZ : Con σF where
  args := [.fl 11, .fl 11]
  items := []
  res := .tup [.fl 11, .int .u64, .int .u64]
  pre := fun ads ids => match ads, ids with
    | [.fl 11 a, .fl 11 b], [] => [(PieceM.sets a).length + (PieceM.sets b).length ≤ 1000000, (PieceM.follow a).length + (PieceM.follow b).length ≤ 1000000]
    | _, _ => []
  fact := fun ads ids => match ads, ids with
    | [.fl 11 a, .fl 11 b], [] => []
    | _, _ => []
  spec := fun ads ids => match ads, ids with
    | [.fl 11 a, .fl 11 b], [] => some (.tup [.fl 11 (besM a b), .int .u64 (shl (PieceM.sets a).length (PieceM.first b)), .int .u64 (shl (PieceM.sets a).length (PieceM.last b))], [])
    | _, _ => none
noncomputable def lh_besideZ_5 (ads ids : List SF) : LoopH σF where
  slots := [31]
  shs := [.int .i64]
  drop := [9, 32, 33, 34, 35, 36, 37, 38, 39, 40, 41, 42, 43]
  ns := []
  its := [.box 78 [.row 37 5, .row 35 2, .int .u64, .int .u64, .bool]]
  see := []
  inv := fun see c0 cs => match ads, ids, see, c0, cs with
    | [.fl 11 a, .fl 11 b], [], _, _, [.agg [.rs 5 ss, .rs 2 fs, .int _ u0, .int _ u1, .bool e], .int _ i] => [fs = PieceM.follow a ++ ((PieceM.follow b).take i.toNat).map (shl (PieceM.sets a).length), 0 ≤ i, i ≤ (PieceM.follow b).length, ss = besideS a b, u0 = 0, u1 = 0, e = false]
    | _, _, _, _, _ => []
  meas := fun see c0 cs => match ads, ids, see, c0, cs with
    | [.fl 11 a, .fl 11 b], [], _, _, [.agg [.rs 5 ss, .rs 2 fs, .int _ u0, .int _ u1, .bool e], .int _ i] => (PieceM.follow b).length - i.toNat
    | _, _, _, _, _ => 0
  nsl := [4]
noncomputable def hn_besideZ (ads ids : List SF) : Hn σF := ⟨fun t => memB t [39, 48, 52], fun t => memB t [], fun i => cond (Nat.beq i 5) (some (lh_besideZ_5 ads ids)) (none), fun i => none⟩
noncomputable def cs_besideZ (ads ids : List SF) : List (Nat × Con σF) := []
noncomputable def vt_besideZ : VT := vcF XC (fun ads ids g => lookC g (cs_besideZ ads ids)) hn_besideZ 200 Tryd.f37 con_besideZ
theorem vc_besideZ : ∀ (v0 v1 : PieceM), List.length (PieceM.sets v0) + List.length (PieceM.sets v1) ≤ (1000000 : Nat) → List.length (PieceM.follow v0) + List.length (PieceM.follow v1) ≤ (1000000 : Nat) → True ∧ (wt11 v0 → wt11 v1 → ((0 : Int) + (↑(List.length (PieceM.sets v0)) : Int)) * (32 : Int) ≤ (140737488355328 : Int) ∧ (0 : Int) + (↑(List.length (PieceM.sets v0)) : Int) ≤ (9223372036854775807 : Int) ∧ ((↑(List.length (PieceM.sets v0)) : Int) + (↑(List.length (PieceM.sets v1)) : Int)) * (32 : Int) ≤ (140737488355328 : Int) ∧ (↑(List.length (PieceM.sets v0)) : Int) + (↑(List.length (PieceM.sets v1)) : Int) ≤ (9223372036854775807 : Int) ∧ ((0 : Int) + (↑(List.length (PieceM.follow v0)) : Int)) * (8 : Int) ≤ (140737488355328 : Int) ∧ (0 : Int) + (↑(List.length (PieceM.follow v0)) : Int) ≤ (9223372036854775807 : Int) ∧ PieceM.follow v0 = PieceM.follow v0 ++ List.map (shl (List.length (PieceM.sets v0))) (List.take (Int.toNat (0 : Int)) (PieceM.follow v1)) ∧ (0 : Int) ≤ (0 : Int) ∧ (0 : Int) ≤ (↑(List.length (PieceM.follow v1)) : Int) ∧ PieceM.sets v0 ++ PieceM.sets v1 = besideS v0 v1 ∧ (0 : Int) = (0 : Int) ∧ (0 : Int) = (0 : Int) ∧ false = false ∧ ∀ (xs2 : List BSet) (xs3 : List Int) (n4 n5 : Int) (b6 : Bool) (n7 : Int), xs3 = PieceM.follow v0 ++ List.map (shl (List.length (PieceM.sets v0))) (List.take (Int.toNat n7) (PieceM.follow v1)) → (0 : Int) ≤ n7 → n7 ≤ (↑(List.length (PieceM.follow v1)) : Int) → xs2 = besideS v0 v1 → n4 = (0 : Int) → n5 = (0 : Int) → b6 = false → wtLs wt5 xs2 → wtLs (fun (x : Int) => inK .u64 x) xs3 → inK .u64 n4 → inK .u64 n5 → inK .i64 n7 → bif decide (n7 < (↑(List.length (PieceM.follow v1)) : Int)) then (0 : Int) ≤ n7 ∧ n7 < (↑(List.length (PieceM.follow v1)) : Int) ∧ (0 : Int) ≤ (↑(List.length (PieceM.sets v0)) : Int) ∧ ((↑(List.length xs3) : Int) + (1 : Int)) * (8 : Int) ≤ (140737488355328 : Int) ∧ (↑(List.length xs3) : Int) + (1 : Int) ≤ (9223372036854775807 : Int) ∧ inK .i64 (n7 + (1 : Int)) ∧ xs3 ++ [IntKind.wrap .u64 (at_ (PieceM.follow v1) n7 * (2 : Int) ^ Int.toNat (↑(List.length (PieceM.sets v0)) : Int))] = PieceM.follow v0 ++ List.map (shl (List.length (PieceM.sets v0))) (List.take (Int.toNat (n7 + (1 : Int))) (PieceM.follow v1)) ∧ (0 : Int) ≤ n7 + (1 : Int) ∧ n7 + (1 : Int) ≤ (↑(List.length (PieceM.follow v1)) : Int) ∧ xs2 = besideS v0 v1 ∧ n4 = (0 : Int) ∧ n5 = (0 : Int) ∧ b6 = false ∧ List.length (PieceM.follow v1) - Int.toNat (n7 + (1 : Int)) < List.length (PieceM.follow v1) - Int.toNat n7 ∧ True else (0 : Int) ≤ (↑(List.length (PieceM.sets v0)) : Int) ∧ (0 : Int) ≤ (↑(List.length (PieceM.sets v0)) : Int) ∧ { sets := xs2, follow := xs3, first := n4, last := n5, empty := b6 : PieceM } = besM v0 v1 ∧ IntKind.wrap .u64 (PieceM.first v1 * (2 : Int) ^ Int.toNat (↑(List.length (PieceM.sets v0)) : Int)) = shl (List.length (PieceM.sets v0)) (PieceM.first v1) ∧ IntKind.wrap .u64 (PieceM.last v1 * (2 : Int) ^ Int.toNat (↑(List.length (PieceM.sets v0)) : Int)) = shl (List.length (PieceM.sets v0)) (PieceM.last v1) ∧ True) :=
 fun v0 => fun v1 => fun h0 => fun h1 => ⟨trivial,
 fun h2 => fun h3 => ⟨(by omega), ⟨(by omega), ⟨(by omega), ⟨(by omega), ⟨(by omega), ⟨(by omega), ⟨(by (simp; done)), ⟨(by omega), ⟨(by omega), ⟨(by rfl), ⟨(by rfl), ⟨(by rfl), ⟨(by rfl),
 fun xs2 => fun xs3 => fun n4 => fun n5 => fun b6 => fun n7 => fun h4 => fun h5 => fun h6 => fun h7 => fun h8 => fun h9 => fun h10 => fun h11 => have k11 := b_len h11; fun h12 => have k12 := b_len h12; fun h13 => have k13 := b_u64 h13; fun h14 => have k14 := b_u64 h14; fun h15 => have k15 := b_i64 h15; condD (fun h16 => ⟨(by assumption), ⟨(by assumption), ⟨(by omega), ⟨(by have e := congrArg List.length h4; simp at e; omega), ⟨(by have e := congrArg List.length h4; simp at e; omega), ⟨(by exact in_i64 (by omega) (by omega)), ⟨(by rw [h4, take_next _ h5 h16, List.map_append]; simp [shl]), ⟨(by omega), ⟨(by assumption), ⟨(by assumption), ⟨(by assumption), ⟨(by assumption), ⟨(by assumption), ⟨(by omega),
 trivial⟩⟩⟩⟩⟩⟩⟩⟩⟩⟩⟩⟩⟩⟩) (fun h16 => ⟨(by omega), ⟨(by omega), ⟨(by unfold besM; congr 1; rw [h4, List.take_of_length_le (by omega)]; rfl), ⟨(by simp [shl]), ⟨(by simp [shl]),
 trivial⟩⟩⟩⟩⟩)⟩⟩⟩⟩⟩⟩⟩⟩⟩⟩⟩⟩⟩⟩
theorem ok_besideZ : ConOK PX DF_ TabG 37 con_besideZ := con_ok XC.mixed tab_mono (fn := Tryd.f37) (by kernel_rfl) (lookC_ok (l := cs_besideZ [] []) (alls_nil)) (vc_eq (show VT.H vt_besideZ = _ by kernel_rfl) vc_besideZ)
noncomputable def con_behind : Con σF where
  args := [.fl 11, .fl 11]
  items := []
  res := .fl 11
  pre := fun ads ids => match ads, ids with
    | [.fl 11 a, .fl 11 b], [] => [(PieceM.sets a).length + (PieceM.sets b).length ≤ 1000000, PieceOK a, PieceOK b]
    | _, _ => []
  fact := fun ads ids => match ads, ids with
    | [.fl 11 a, .fl 11 b], [] => []
    | _, _ => []
  spec := fun ads ids => match ads, ids with
    | [.fl 11 a, .fl 11 b], [] => some (.fl 11 (behindM a b), [])
    | _, _ => none
noncomputable def hn_behind (ads ids : List SF) : Hn σF := ⟨fun t => memB t [], fun t => memB t [], fun i => none, fun i => none⟩
noncomputable def cs_behind (ads ids : List SF) : List (Nat × Con σF) := [(37, con_beside), (64, con_joins)]
noncomputable def vt_behind : VT := vcF XC (fun ads ids g => lookC g (cs_behind ads ids)) hn_behind 200 Tryd.f54 con_behind
theorem vc_behind : ∀ (v0 v1 : PieceM), List.length (PieceM.sets v0) + List.length (PieceM.sets v1) ≤ (1000000 : Nat) → PieceOK v0 → PieceOK v1 → True ∧ (wt11 v0 → wt11 v1 → List.length (PieceM.sets v0) + List.length (PieceM.sets v1) ≤ (1000000 : Nat) ∧ List.length (PieceM.follow v0) + List.length (PieceM.follow v1) ≤ (1000000 : Nat) ∧ within (PieceM.last v0) (List.length (besideF v0 v1)) ∧ bif PieceM.empty v0 then bif PieceM.empty v0 then bif PieceM.empty v1 then { sets := besideS v0 v1, follow := joinsL (besideF v0 v1) (PieceM.last v0) (shl (List.length (PieceM.sets v0)) (PieceM.first v1)), first := ior (PieceM.first v0) (shl (List.length (PieceM.sets v0)) (PieceM.first v1)), last := ior (shl (List.length (PieceM.sets v0)) (PieceM.last v1)) (PieceM.last v0), empty := PieceM.empty v1 : PieceM } = behindM v0 v1 ∧ True else { sets := besideS v0 v1, follow := joinsL (besideF v0 v1) (PieceM.last v0) (shl (List.length (PieceM.sets v0)) (PieceM.first v1)), first := ior (PieceM.first v0) (shl (List.length (PieceM.sets v0)) (PieceM.first v1)), last := shl (List.length (PieceM.sets v0)) (PieceM.last v1), empty := PieceM.empty v1 : PieceM } = behindM v0 v1 ∧ True else bif PieceM.empty v1 then { sets := besideS v0 v1, follow := joinsL (besideF v0 v1) (PieceM.last v0) (shl (List.length (PieceM.sets v0)) (PieceM.first v1)), first := PieceM.first v0, last := ior (shl (List.length (PieceM.sets v0)) (PieceM.last v1)) (PieceM.last v0), empty := PieceM.empty v1 : PieceM } = behindM v0 v1 ∧ True else { sets := besideS v0 v1, follow := joinsL (besideF v0 v1) (PieceM.last v0) (shl (List.length (PieceM.sets v0)) (PieceM.first v1)), first := PieceM.first v0, last := shl (List.length (PieceM.sets v0)) (PieceM.last v1), empty := PieceM.empty v1 : PieceM } = behindM v0 v1 ∧ True else bif PieceM.empty v0 then bif PieceM.empty v1 then { sets := besideS v0 v1, follow := joinsL (besideF v0 v1) (PieceM.last v0) (shl (List.length (PieceM.sets v0)) (PieceM.first v1)), first := ior (PieceM.first v0) (shl (List.length (PieceM.sets v0)) (PieceM.first v1)), last := ior (shl (List.length (PieceM.sets v0)) (PieceM.last v1)) (PieceM.last v0), empty := false : PieceM } = behindM v0 v1 ∧ True else { sets := besideS v0 v1, follow := joinsL (besideF v0 v1) (PieceM.last v0) (shl (List.length (PieceM.sets v0)) (PieceM.first v1)), first := ior (PieceM.first v0) (shl (List.length (PieceM.sets v0)) (PieceM.first v1)), last := shl (List.length (PieceM.sets v0)) (PieceM.last v1), empty := false : PieceM } = behindM v0 v1 ∧ True else bif PieceM.empty v1 then { sets := besideS v0 v1, follow := joinsL (besideF v0 v1) (PieceM.last v0) (shl (List.length (PieceM.sets v0)) (PieceM.first v1)), first := PieceM.first v0, last := ior (shl (List.length (PieceM.sets v0)) (PieceM.last v1)) (PieceM.last v0), empty := false : PieceM } = behindM v0 v1 ∧ True else { sets := besideS v0 v1, follow := joinsL (besideF v0 v1) (PieceM.last v0) (shl (List.length (PieceM.sets v0)) (PieceM.first v1)), first := PieceM.first v0, last := shl (List.length (PieceM.sets v0)) (PieceM.last v1), empty := false : PieceM } = behindM v0 v1 ∧ True) :=
 fun v0 => fun v1 => fun h0 => fun h1 => fun h2 => ⟨trivial,
 fun h3 => fun h4 => ⟨(by assumption), ⟨(by have a := h1.len; have b := h2.len; omega), ⟨(by refine within_mono h1.last ?_; rw [beside_len h1 h2]; simp [besideS]),
 condI (fun h5 => condI (fun h6 => condI (fun h7 => ⟨(by simp_all [behindM]),
 trivial⟩) (fun h7 => ⟨(by simp_all [behindM]),
 trivial⟩)) (fun h6 => condI (fun h8 => ⟨(by simp_all [behindM]),
 trivial⟩) (fun h8 => ⟨(by simp_all [behindM]),
 trivial⟩))) (fun h5 => condI (fun h9 => condI (fun h10 => ⟨(by simp_all [behindM]),
 trivial⟩) (fun h10 => ⟨(by simp_all [behindM]),
 trivial⟩)) (fun h9 => condI (fun h11 => ⟨(by simp_all [behindM]),
 trivial⟩) (fun h11 => ⟨(by simp_all [behindM]),
 trivial⟩)))⟩⟩⟩⟩
theorem ok_behind : ConOK PX DF_ TabG 54 con_behind := con_ok XC.mixed tab_mono (fn := Tryd.f54) (by kernel_rfl) (lookC_ok (l := cs_behind [] []) (alls_cons ok_beside (alls_cons ok_joins (alls_nil)))) (vc_eq (show VT.H vt_behind = _ by kernel_rfl) vc_behind)
noncomputable def con_or : Con σF where
  args := [.fl 11, .fl 11]
  items := []
  res := .fl 11
  pre := fun ads ids => match ads, ids with
    | [.fl 11 a, .fl 11 b], [] => [(PieceM.sets a).length + (PieceM.sets b).length ≤ 1000000, PieceOK a, PieceOK b]
    | _, _ => []
  fact := fun ads ids => match ads, ids with
    | [.fl 11 a, .fl 11 b], [] => []
    | _, _ => []
  spec := fun ads ids => match ads, ids with
    | [.fl 11 a, .fl 11 b], [] => some (.fl 11 (orM a b), [])
    | _, _ => none
noncomputable def hn_or (ads ids : List SF) : Hn σF := ⟨fun t => memB t [], fun t => memB t [], fun i => none, fun i => none⟩
noncomputable def cs_or (ads ids : List SF) : List (Nat × Con σF) := [(37, con_beside)]
noncomputable def vt_or : VT := vcF XC (fun ads ids g => lookC g (cs_or ads ids)) hn_or 200 Tryd.f55 con_or
theorem vc_or : ∀ (v0 v1 : PieceM), List.length (PieceM.sets v0) + List.length (PieceM.sets v1) ≤ (1000000 : Nat) → PieceOK v0 → PieceOK v1 → True ∧ (wt11 v0 → wt11 v1 → List.length (PieceM.sets v0) + List.length (PieceM.sets v1) ≤ (1000000 : Nat) ∧ List.length (PieceM.follow v0) + List.length (PieceM.follow v1) ≤ (1000000 : Nat) ∧ bif PieceM.empty v0 then { sets := besideS v0 v1, follow := besideF v0 v1, first := ior (PieceM.first v0) (shl (List.length (PieceM.sets v0)) (PieceM.first v1)), last := ior (PieceM.last v0) (shl (List.length (PieceM.sets v0)) (PieceM.last v1)), empty := true : PieceM } = Gx.orM v0 v1 ∧ True else { sets := besideS v0 v1, follow := besideF v0 v1, first := ior (PieceM.first v0) (shl (List.length (PieceM.sets v0)) (PieceM.first v1)), last := ior (PieceM.last v0) (shl (List.length (PieceM.sets v0)) (PieceM.last v1)), empty := PieceM.empty v1 : PieceM } = Gx.orM v0 v1 ∧ True) :=
 fun v0 => fun v1 => fun h0 => fun h1 => fun h2 => ⟨trivial,
 fun h3 => fun h4 => ⟨(by assumption), ⟨(by have a := h1.len; have b := h2.len; omega),
 condI (fun h5 => ⟨(by simp_all [Gx.orM]),
 trivial⟩) (fun h5 => ⟨(by simp_all [Gx.orM]),
 trivial⟩)⟩⟩⟩
theorem ok_or : ConOK PX DF_ TabG 55 con_or := con_ok XC.mixed tab_mono (fn := Tryd.f55) (by kernel_rfl) (lookC_ok (l := cs_or [] []) (alls_cons ok_beside (alls_nil))) (vc_eq (show VT.H vt_or = _ by kernel_rfl) vc_or)
noncomputable def con_often : Con σF where
  args := [.fl 11, .int .i64, .int .i64]
  items := []
  res := .fl 11
  pre := fun ads ids => match ads, ids with
    | [.fl 11 a, .int _ l, .int _ m], [] => [m.toNat * (PieceM.sets a).length ≤ 1000000, (PieceM.sets a).length ≤ 1000000, PieceOK a]
    | _, _ => []
  fact := fun ads ids => match ads, ids with
    | [.fl 11 a, .int _ l, .int _ m], [] => []
    | _, _ => []
  spec := fun ads ids => match ads, ids with
    | [.fl 11 a, .int _ l, .int _ m], [] => some (.fl 11 (oftenM a l m), [])
    | _, _ => none
noncomputable def lh_often_8 (ads ids : List SF) : LoopH σF where
  slots := [45]
  shs := [.int .i64]
  drop := [11, 12, 46, 47, 48, 49, 50, 51, 52, 53, 54, 55, 56, 57, 58, 59, 60]
  ns := []
  its := [.box 78 [.fl 11]]
  see := []
  inv := fun see c0 cs => match ads, ids, see, c0, cs with
    | [.fl 11 a, .int _ l, .int _ m], [], _, _, [.agg [.fl 11 o], .int _ i] => [o = timesM a l i.toNat, 0 ≤ i, i ≤ m]
    | _, _, _, _, _ => []
  meas := fun see c0 cs => match ads, ids, see, c0, cs with
    | [.fl 11 a, .int _ l, .int _ m], [], _, _, [.agg [.fl 11 o], .int _ i] => m.toNat - i.toNat
    | _, _, _, _, _ => 0
  nsl := [10]
noncomputable def hn_often (ads ids : List SF) : Hn σF := ⟨fun t => memB t [], fun t => memB t [], fun i => cond (Nat.beq i 8) (some (lh_often_8 ads ids)) (none), fun i => none⟩
noncomputable def cs_often (ads ids : List SF) : List (Nat × Con σF) := [(37, con_beside), (64, con_joins), (54, con_behind)]
noncomputable def vt_often : VT := vcF XC (fun ads ids g => lookC g (cs_often ads ids)) hn_often 200 Tryd.f56 con_often
theorem vc_often : ∀ (v0 : PieceM) (n1 n2 : Int), Int.toNat n2 * List.length (PieceM.sets v0) ≤ (1000000 : Nat) → List.length (PieceM.sets v0) ≤ (1000000 : Nat) → PieceOK v0 → True ∧ (wt11 v0 → inK .i64 n1 → inK .i64 n2 → bif decide (n2 < (0 : Int)) then List.length (PieceM.sets v0) + (0 : Nat) ≤ (1000000 : Nat) ∧ List.length (PieceM.follow v0) + (0 : Nat) ≤ (1000000 : Nat) ∧ within (PieceM.last v0) (List.length (besideF v0 { sets := [], follow := [], first := (0 : Int), last := (0 : Int), empty := false : PieceM })) ∧ bif PieceM.empty v0 then { sets := besideS v0 { sets := [], follow := [], first := (0 : Int), last := (0 : Int), empty := false : PieceM }, follow := joinsL (besideF v0 { sets := [], follow := [], first := (0 : Int), last := (0 : Int), empty := false : PieceM }) (PieceM.last v0) (PieceM.first v0), first := PieceM.first v0, last := PieceM.last v0, empty := true : PieceM } = oftenM v0 n1 n2 ∧ True else { sets := besideS v0 { sets := [], follow := [], first := (0 : Int), last := (0 : Int), empty := false : PieceM }, follow := joinsL (besideF v0 { sets := [], follow := [], first := (0 : Int), last := (0 : Int), empty := false : PieceM }) (PieceM.last v0) (PieceM.first v0), first := PieceM.first v0, last := PieceM.last v0, empty := decide (n1 = (0 : Int)) : PieceM } = oftenM v0 n1 n2 ∧ True else { sets := [], follow := [], first := (0 : Int), last := (0 : Int), empty := true : PieceM } = timesM v0 n1 (Int.toNat (0 : Int)) ∧ (0 : Int) ≤ (0 : Int) ∧ (0 : Int) ≤ n2 ∧ ∀ (v3 : PieceM) (n4 : Int), v3 = timesM v0 n1 (Int.toNat n4) → (0 : Int) ≤ n4 → n4 ≤ n2 → wt11 v3 → inK .i64 n4 → bif decide (n4 < n2) then bif PieceM.empty v0 then List.length (PieceM.sets v3) + List.length (PieceM.sets { sets := PieceM.sets v0, follow := PieceM.follow v0, first := PieceM.first v0, last := PieceM.last v0, empty := true : PieceM }) ≤ (1000000 : Nat) ∧ PieceOK v3 ∧ PieceOK { sets := PieceM.sets v0, follow := PieceM.follow v0, first := PieceM.first v0, last := PieceM.last v0, empty := true : PieceM } ∧ inK .i64 (n4 + (1 : Int)) ∧ behindM v3 { sets := PieceM.sets v0, follow := PieceM.follow v0, first := PieceM.first v0, last := PieceM.last v0, empty := true : PieceM } = timesM v0 n1 (Int.toNat (n4 + (1 : Int))) ∧ (0 : Int) ≤ n4 + (1 : Int) ∧ n4 + (1 : Int) ≤ n2 ∧ Int.toNat n2 - Int.toNat (n4 + (1 : Int)) < Int.toNat n2 - Int.toNat n4 ∧ True else List.length (PieceM.sets v3) + List.length (PieceM.sets { sets := PieceM.sets v0, follow := PieceM.follow v0, first := PieceM.first v0, last := PieceM.last v0, empty := decide (n1 ≤ n4) : PieceM }) ≤ (1000000 : Nat) ∧ PieceOK v3 ∧ PieceOK { sets := PieceM.sets v0, follow := PieceM.follow v0, first := PieceM.first v0, last := PieceM.last v0, empty := decide (n1 ≤ n4) : PieceM } ∧ inK .i64 (n4 + (1 : Int)) ∧ behindM v3 { sets := PieceM.sets v0, follow := PieceM.follow v0, first := PieceM.first v0, last := PieceM.last v0, empty := decide (n1 ≤ n4) : PieceM } = timesM v0 n1 (Int.toNat (n4 + (1 : Int))) ∧ (0 : Int) ≤ n4 + (1 : Int) ∧ n4 + (1 : Int) ≤ n2 ∧ Int.toNat n2 - Int.toNat (n4 + (1 : Int)) < Int.toNat n2 - Int.toNat n4 ∧ True else v3 = oftenM v0 n1 n2 ∧ True) :=
 fun v0 => fun n1 => fun n2 => fun h0 => fun h1 => fun h2 => ⟨trivial,
 fun h3 => fun h4 => have k4 := b_i64 h4; fun h5 => have k5 := b_i64 h5; condD (fun h6 => ⟨(by assumption), ⟨(by have a := h2.len; simp; omega), ⟨(by refine within_mono h2.last ?_; simp [besideF, h2.len]),
 condI (fun h7 => ⟨(by simp_all [oftenM, besideS, besideF]),
 trivial⟩) (fun h7 => ⟨(by simp_all [oftenM, besideS, besideF]),
 trivial⟩)⟩⟩⟩) (fun h6 => ⟨(by rfl), ⟨(by omega), ⟨(by omega),
 fun v3 => fun n4 => fun h8 => fun h9 => fun h10 => fun h11 => fun h12 => have k12 := b_i64 h12; condD (fun h13 => condI (fun h14 => ⟨(by have e := (times_ok h2 n1 n4.toNat).2; rw [← h8] at e; have := Nat.mul_le_mul_right (PieceM.sets v0).length (show n4.toNat + 1 ≤ n2.toNat by omega); rw [Nat.add_mul] at this; show v3.sets.length + v0.sets.length ≤ _; omega), ⟨(by rw [h8]; exact (times_ok h2 _ _).1), ⟨(by exact empty_ok h2 _), ⟨(by exact in_i64 (by omega) (by omega)), ⟨(by rw [times_next _ _ (by omega), h8]; simp_all), ⟨(by omega), ⟨(by assumption), ⟨(by omega),
 trivial⟩⟩⟩⟩⟩⟩⟩⟩) (fun h14 => ⟨(by have e := (times_ok h2 n1 n4.toNat).2; rw [← h8] at e; have := Nat.mul_le_mul_right (PieceM.sets v0).length (show n4.toNat + 1 ≤ n2.toNat by omega); rw [Nat.add_mul] at this; show v3.sets.length + v0.sets.length ≤ _; omega), ⟨(by rw [h8]; exact (times_ok h2 _ _).1), ⟨(by exact empty_ok h2 _), ⟨(by exact in_i64 (by omega) (by omega)), ⟨(by rw [times_next _ _ (by omega), h8]; simp_all), ⟨(by omega), ⟨(by assumption), ⟨(by omega),
 trivial⟩⟩⟩⟩⟩⟩⟩⟩)) (fun h13 => ⟨(by have e : n4 = n2 := (by omega); subst e; rw [h8]; unfold oftenM; rw [if_neg h6]),
 trivial⟩)⟩⟩⟩)⟩
theorem ok_often : ConOK PX DF_ TabG 56 con_often := con_ok XC.mixed tab_mono (fn := Tryd.f56) (by kernel_rfl) (lookC_ok (l := cs_often [] []) (alls_cons ok_beside (alls_cons ok_joins (alls_cons ok_behind (alls_nil))))) (vc_eq (show VT.H vt_often = _ by kernel_rfl) vc_often)
noncomputable def con_node : Con σF where
  args := [.nmI 0, .fl 8]
  items := [.row 78 11]
  res := .fl 11
  pre := fun ads ids => match ads, ids with
    | [_, .fl 8 n], [.rs 11 l] => [∀ p ∈ l, PieceS p, NodeOK n l.length]
    | _, _ => []
  fact := fun ads ids => match ads, ids with
    | [_, .fl 8 n], [.rs 11 l] => []
    | _, _ => []
  spec := fun ads ids => match ads, ids with
    | [_, .fl 8 n], [.rs 11 l] => some (.fl 11 (nodeP l n), [.rs 11 l])
    | _, _ => none
noncomputable def hn_node (ads ids : List SF) : Hn σF := ⟨fun t => memB t [], fun t => memB t [], fun i => none, fun i => none⟩
noncomputable def cs_node (ads ids : List SF) : List (Nat × Con σF) := [(54, con_behind), (55, con_or), (56, con_often)]
noncomputable def vt_node : VT := vcF XC (fun ads ids g => lookC g (cs_node ads ids)) hn_node 200 Tryd.f36 con_node
theorem vc_node : ∀ (xs0 : List PieceM) (v1 : NodeM), (∀ (p : PieceM), p ∈ xs0 → PieceS p) → NodeOK v1 (List.length xs0) → True ∧ (wtLs wt11 xs0 → wt8 v1 → bif decide (NodeM.kd v1 = (2 : Int)) then xs0 = xs0 ∧ { sets := [NodeM.set v1], follow := [(0 : Int)], first := (1 : Int), last := (1 : Int), empty := false : PieceM } = nodeP xs0 v1 ∧ True else bif decide (NodeM.kd v1 = (3 : Int)) then (0 : Int) ≤ NodeM.na v1 ∧ NodeM.na v1 < (↑(List.length xs0) : Int) ∧ (0 : Int) ≤ NodeM.nb v1 ∧ NodeM.nb v1 < (↑(List.length xs0) : Int) ∧ List.length (PieceM.sets (at_ xs0 (NodeM.na v1))) + List.length (PieceM.sets (at_ xs0 (NodeM.nb v1))) ≤ (1000000 : Nat) ∧ PieceOK (at_ xs0 (NodeM.na v1)) ∧ PieceOK (at_ xs0 (NodeM.nb v1)) ∧ xs0 = xs0 ∧ behindM (at_ xs0 (NodeM.na v1)) (at_ xs0 (NodeM.nb v1)) = nodeP xs0 v1 ∧ True else bif decide (NodeM.kd v1 = (4 : Int)) then (0 : Int) ≤ NodeM.na v1 ∧ NodeM.na v1 < (↑(List.length xs0) : Int) ∧ (0 : Int) ≤ NodeM.nb v1 ∧ NodeM.nb v1 < (↑(List.length xs0) : Int) ∧ List.length (PieceM.sets (at_ xs0 (NodeM.na v1))) + List.length (PieceM.sets (at_ xs0 (NodeM.nb v1))) ≤ (1000000 : Nat) ∧ PieceOK (at_ xs0 (NodeM.na v1)) ∧ PieceOK (at_ xs0 (NodeM.nb v1)) ∧ xs0 = xs0 ∧ Gx.orM (at_ xs0 (NodeM.na v1)) (at_ xs0 (NodeM.nb v1)) = nodeP xs0 v1 ∧ True else bif decide (NodeM.kd v1 = (5 : Int)) then (0 : Int) ≤ NodeM.na v1 ∧ NodeM.na v1 < (↑(List.length xs0) : Int) ∧ Int.toNat (NodeM.mx v1) * List.length (PieceM.sets (at_ xs0 (NodeM.na v1))) ≤ (1000000 : Nat) ∧ List.length (PieceM.sets (at_ xs0 (NodeM.na v1))) ≤ (1000000 : Nat) ∧ PieceOK (at_ xs0 (NodeM.na v1)) ∧ xs0 = xs0 ∧ oftenM (at_ xs0 (NodeM.na v1)) (NodeM.mn v1) (NodeM.mx v1) = nodeP xs0 v1 ∧ True else xs0 = xs0 ∧ { sets := [], follow := [], first := (0 : Int), last := (0 : Int), empty := true : PieceM } = nodeP xs0 v1 ∧ True) :=
 fun xs0 => fun v1 => fun h0 => fun h1 => ⟨trivial,
 fun h2 => have k2 := b_len h2; fun h3 => condD (fun h4 => ⟨(by rfl), ⟨(by simp_all [nodeP, setP, noneP]),
 trivial⟩⟩) (fun h4 => condD (fun h5 => ⟨(by obtain ⟨a0, a1⟩ := h1.a (by omega); omega), ⟨(by obtain ⟨a0, a1⟩ := h1.a (by omega); omega), ⟨(by obtain ⟨b0, b1⟩ := h1.b (by omega); omega), ⟨(by obtain ⟨b0, b1⟩ := h1.b (by omega); omega), ⟨(by obtain ⟨a0, a1⟩ := h1.a (by omega); have sa := (h0 _ (at_mem_ a0 a1)).2; obtain ⟨b0, b1⟩ := h1.b (by omega); have sb := (h0 _ (at_mem_ b0 b1)).2; omega), ⟨(by obtain ⟨a0, a1⟩ := h1.a (by omega); exact (h0 _ (at_mem_ a0 a1)).1), ⟨(by obtain ⟨b0, b1⟩ := h1.b (by omega); exact (h0 _ (at_mem_ b0 b1)).1), ⟨(by rfl), ⟨(by simp_all [nodeP, setP, noneP]),
 trivial⟩⟩⟩⟩⟩⟩⟩⟩⟩) (fun h5 => condD (fun h6 => ⟨(by obtain ⟨a0, a1⟩ := h1.a (by omega); omega), ⟨(by obtain ⟨a0, a1⟩ := h1.a (by omega); omega), ⟨(by obtain ⟨b0, b1⟩ := h1.b (by omega); omega), ⟨(by obtain ⟨b0, b1⟩ := h1.b (by omega); omega), ⟨(by obtain ⟨a0, a1⟩ := h1.a (by omega); have sa := (h0 _ (at_mem_ a0 a1)).2; obtain ⟨b0, b1⟩ := h1.b (by omega); have sb := (h0 _ (at_mem_ b0 b1)).2; omega), ⟨(by obtain ⟨a0, a1⟩ := h1.a (by omega); exact (h0 _ (at_mem_ a0 a1)).1), ⟨(by obtain ⟨b0, b1⟩ := h1.b (by omega); exact (h0 _ (at_mem_ b0 b1)).1), ⟨(by rfl), ⟨(by simp_all [nodeP, setP, noneP]),
 trivial⟩⟩⟩⟩⟩⟩⟩⟩⟩) (fun h6 => condD (fun h7 => ⟨(by obtain ⟨a0, a1⟩ := h1.a (by omega); omega), ⟨(by obtain ⟨a0, a1⟩ := h1.a (by omega); omega), ⟨(by obtain ⟨a0, a1⟩ := h1.a (by omega); have sa := (h0 _ (at_mem_ a0 a1)).2; have := h1.m (by omega); exact Nat.le_trans (Nat.mul_le_mul (show Int.toNat (NodeM.mx v1) ≤ 9 by omega) sa) (by decide)), ⟨(by obtain ⟨a0, a1⟩ := h1.a (by omega); have sa := (h0 _ (at_mem_ a0 a1)).2; omega), ⟨(by obtain ⟨a0, a1⟩ := h1.a (by omega); exact (h0 _ (at_mem_ a0 a1)).1), ⟨(by rfl), ⟨(by simp_all [nodeP, setP, noneP]),
 trivial⟩⟩⟩⟩⟩⟩⟩) (fun h7 => ⟨(by rfl), ⟨(by simp_all [nodeP, setP, noneP]),
 trivial⟩⟩))))⟩
theorem ok_node : ConOK PX DF_ TabG 36 con_node := con_ok XC.mixed tab_mono (fn := Tryd.f36) (by kernel_rfl) (lookC_ok (l := cs_node [] []) (alls_cons ok_behind (alls_cons ok_or (alls_cons ok_often (alls_nil))))) (vc_eq (show VT.H vt_node = _ by kernel_rfl) vc_node)
end Go.Proofs.YtgobbgpmdfnfhaaDoor
namespace Gx
open Go Go.RowKit
set_option linter.unusedSimpArgs false
set_option linter.unusedVariables false
def belowN (n : NodeM) : List Int := if n.kd = 3 ∨ n.kd = 4 then [n.na, n.nb] else if n.kd = 5 then [n.na] else []
def zNode : NodeM := ⟨0, 0, 0, 0, 0, 0⟩
def bareN (n : NodeM) : NodeM := if n.kd = 2 then ⟨0, 0, n.na, n.nb, n.mn, n.mx⟩ else if n.kd = 3 ∨ n.kd = 4 then ⟨0, n.set, 0, 0, n.mn, n.mx⟩ else if n.kd = 5 then ⟨0, n.set, 0, n.nb, 0, 0⟩ else ⟨0, n.set, n.na, n.nb, n.mn, n.mx⟩
def mayB (n : NodeM) : Bool := decide (1 ≤ n.kd) && (decide (n.kd ≤ 5) && (decide (bareN n = zNode) && (if n.mx = -1 then decide (n.mn = 0 ∨ n.mn = 1) else decide (0 ≤ n.mn ∧ n.mn ≤ n.mx ∧ n.mx ≤ 9))))
theorem may_eq (n : NodeM) : mayB n = true ↔ 1 ≤ n.kd ∧ n.kd ≤ 5 ∧ bareN n = zNode ∧ (if n.mx = -1 then n.mn = 0 ∨ n.mn = 1 else 0 ≤ n.mn ∧ n.mn ≤ n.mx ∧ n.mx ≤ 9) := by
  unfold mayB
  simp only [Bool.and_eq_true, decide_eq_true_eq]
  by_cases h : n.mx = -1 <;> simp [h]
def bump (us : List Int) (k : Int) : List Int := us.set k.toNat (at_ us k + 1)
def bumps (us l : List Int) : List Int := l.foldl bump us
def usesN (us : List Int) (l : List NodeM) : List Int := l.foldl (fun us n => bumps us (belowN n)) us
def backB_ (l : List NodeM) (i : Nat) : Prop := ∀ j : Nat, j < i → ∀ k ∈ belowN (at_ l (j : Int)), 0 ≤ k ∧ k < (j : Int)
instance (l : List NodeM) (i : Nat) : Decidable (backB_ l i) := by unfold backB_; infer_instance
def rootsIn (l : List PrtM) (n : Nat) : Prop := ∀ p ∈ l, 0 ≤ p.root ∧ p.root < (n : Int)
instance (l : List PrtM) (n : Nat) : Decidable (rootsIn l n) := by unfold rootsIn; infer_instance
def useT (t : TreeM) : List Int := bumps (usesN (List.replicate t.nodes.length 0) t.nodes) (t.parts.map PrtM.root)
structure RightT (t : TreeM) : Prop where
  p1 : 1 ≤ t.parts.length
  p20 : t.parts.length ≤ 20
  n600 : t.nodes.length ≤ 600
  back : backB_ t.nodes t.nodes.length
  roots : rootsIn t.parts t.nodes.length
  once : ∀ x ∈ useT t, x = 1
  may : ∀ n ∈ t.nodes, mayB n = true
noncomputable def rightB (t : TreeM) : Bool := @decide (RightT t) (Classical.propDecidable _)
theorem rightT_iff {t : TreeM} : rightB t = true ↔ RightT t := by unfold rightB; rw [@decide_eq_true_iff _ (Classical.propDecidable _)]
theorem bump_len (us : List Int) (k : Int) : (bump us k).length = us.length := by unfold bump; rw [List.length_set]
theorem bumps_len (us l : List Int) : (bumps us l).length = us.length := by
  unfold bumps
  induction l generalizing us with
  | nil => rfl
  | cons k l ih => rw [List.foldl_cons, ih, bump_len]
theorem bumps_next (us l : List Int) {i : Int} (h0 : 0 ≤ i) (h1 : i < (l.length : Int)) : bumps us (l.take (i + 1).toNat) = bump (bumps us (l.take i.toNat)) (at_ l i) := by
  unfold bumps; rw [take_next l h0 h1, List.foldl_append]; rfl
theorem usesN_len (us : List Int) (l : List NodeM) : (usesN us l).length = us.length := by
  unfold usesN
  induction l generalizing us with
  | nil => rfl
  | cons k l ih => rw [List.foldl_cons, ih, bumps_len]
theorem usesN_next (us : List Int) (l : List NodeM) {i : Int} (h0 : 0 ≤ i) (h1 : i < (l.length : Int)) : usesN us (l.take (i + 1).toNat) = bumps (usesN us (l.take i.toNat)) (belowN (at_ l i)) := by
  unfold usesN; rw [take_next l h0 h1, List.foldl_append]; rfl
theorem below_len (n : NodeM) : (belowN n).length ≤ 2 := by unfold belowN; split; (exact Nat.le_refl 2); split <;> simp
def topped (us : List Int) (b : Int) : Prop := ∀ x ∈ us, 0 ≤ x ∧ x ≤ b
theorem topped_mono {us : List Int} {a b : Int} (h : topped us a) (hl : a ≤ b) : topped us b := fun x hx => ⟨(h x hx).1, by have := (h x hx).2; omega⟩
theorem topped_at {us : List Int} {b k : Int} (h : topped us b) (h0 : 0 ≤ k) (h1 : k < (us.length : Int)) : 0 ≤ at_ us k ∧ at_ us k ≤ b := h _ (at_mem_ h0 h1)
theorem bump_top {us : List Int} {b k : Int} (h : topped us b) (h0 : 0 ≤ k) (h1 : k < (us.length : Int)) : topped (bump us k) (b + 1) := fun x hx => by
  rcases List.mem_or_eq_of_mem_set hx with e | e
  · have := h x e; omega
  · have := topped_at h h0 h1; omega
theorem top_zero (n : Nat) : topped (List.replicate n 0) 0 := fun x hx => by rw [List.eq_of_mem_replicate hx]; omega
def idxF {α : Type} (p : α → Bool) (xs : List α) : Int := if xs.any p then (xs.findIdx p : Nat) else -1
theorem idxF_none {α : Type} {p : α → Bool} {xs : List α} (h : xs.any p = false) : idxF p xs = -1 := by unfold idxF; rw [h]; rfl
theorem any_next {α : Type} [Inhabited α] {p : α → Bool} {xs : List α} {i : Int} (h0 : 0 ≤ i) (h1 : i < (xs.length : Int)) (h : (xs.take i.toNat).any p = false) (hp : p (at_ xs i) = false) : (xs.take (i + 1).toNat).any p = false := by
  rw [take_next xs h0 h1, List.any_append, h]; simp [hp]
theorem idxF_at {α : Type} [Inhabited α] {p : α → Bool} {xs : List α} {i : Int} (h0 : 0 ≤ i) (h1 : i < (xs.length : Int)) (h : (xs.take i.toNat).any p = false) (hp : p (at_ xs i) = true) : idxF p xs = i := by
  obtain ⟨n, rfl⟩ := Int.eq_ofNat_of_zero_le h0
  have hn : n < xs.length := by omega
  rw [Int.toNat_natCast] at h
  have e : at_ xs (n : Int) = xs[n] := by unfold at_; simp [hn]
  rw [e] at hp
  have ha : xs.any p = true := List.any_eq_true.2 ⟨_, List.getElem_mem hn, hp⟩
  unfold idxF; rw [ha]; simp only [if_true]
  congr 1
  rw [List.findIdx_eq hn]
  refine ⟨hp, fun j hj => ?_⟩
  have := List.any_eq_false.1 h (xs[j]'(by omega)) (by rw [List.mem_take_iff_getElem]; exact ⟨j, by omega, rfl⟩)
  simpa using this
theorem idxF_ge {α : Type} (p : α → Bool) (xs : List α) : decide (0 ≤ idxF p xs) = xs.any p := by
  unfold idxF
  cases h : xs.any p with
  | true => simp
  | false => rfl
theorem rightB_no {t : TreeM} (h : ¬ RightT t) : rightB t = false := by
  cases e : rightB t with
  | false => rfl
  | true => exact absurd (rightT_iff.1 e) h
theorem back_at {l : List NodeM} {i : Nat} {n k : Int} (h : backB_ l i) (h0 : 0 ≤ n) (h1 : n < (i : Int)) (hk : k ∈ belowN (at_ l n)) : 0 ≤ k ∧ k < n := by
  have := h n.toNat (by omega) k (by rw [Int.toNat_of_nonneg h0]; exact hk)
  omega
theorem back_next {l : List NodeM} {i : Int} (h : backB_ l i.toNat) (h0 : 0 ≤ i) (hk : ∀ k ∈ belowN (at_ l i), 0 ≤ k ∧ k < i) : backB_ l (i + 1).toNat := fun j hj k hkj => by
  by_cases e : j < i.toNat
  · exact h j e k hkj
  · have e2 : (j : Int) = i := by omega
    rw [e2] at hkj ⊢
    exact hk k hkj
theorem useT_at {t : TreeM} {xs1 xs5 : List Int} {n2 n6 : Int} (h4 : xs1 = usesN (List.replicate t.nodes.length 0) (t.nodes.take n2.toNat)) (h11 : ¬ n2 < (t.nodes.length : Int)) (h22 : xs5 = bumps xs1 ((t.parts.map PrtM.root).take n6.toNat)) (h29 : ¬ n6 < (t.parts.length : Int)) : xs5 = useT t := by
  rw [h22, h4, List.take_of_length_le (by omega), List.take_of_length_le (by rw [List.length_map]; omega)]; rfl
theorem right_end {t : TreeM} {xs : List Int} (h1 : ¬ (t.parts.length : Int) < 1) (h2 : ¬ (20 : Int) < t.parts.length) (h3 : ¬ (600 : Int) < t.nodes.length) {n2 n6 : Int} (h7 : backB_ t.nodes n2.toNat) (h11 : n2 = (t.nodes.length : Int)) (h25 : rootsIn (t.parts.take n6.toNat) t.nodes.length) (h29 : n6 = (t.parts.length : Int)) (hx : xs = useT t) :
    rightB t = (!(xs.any fun n => !decide (n = 1)) && !(t.nodes.any fun n => !mayB n)) := by
  subst h11; subst h29; subst hx
  rw [Int.toNat_natCast] at h7 h25
  rw [List.take_of_length_le (Nat.le_refl _)] at h25
  rw [Bool.eq_iff_iff, rightT_iff]
  constructor
  · intro r
    rw [Bool.and_eq_true]
    constructor
    · rw [Bool.not_eq_true', List.any_eq_false]; intro x hx; simp [r.once x hx]
    · rw [Bool.not_eq_true', List.any_eq_false]; intro x hx; simp [r.may x hx]
  · intro h
    rw [Bool.and_eq_true, Bool.not_eq_true', Bool.not_eq_true', List.any_eq_false, List.any_eq_false] at h
    exact ⟨by omega, by omega, by omega, h7, h25, fun x hx => by simpa using h.1 x hx, fun x hx => by simpa using h.2 x hx⟩
end Gx
