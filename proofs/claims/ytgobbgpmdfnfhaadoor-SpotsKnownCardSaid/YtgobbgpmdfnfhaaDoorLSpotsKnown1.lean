/- My own library for walks through the translated code, and the walks of the functions that the law SpotsKnown comes to, part 2; no conditions but those that each contract tells. -/
import Derived.Defers
import Derived.Test.YtgobbgpmdfnfhaaDoorProg
import Derived.Shelf.Spec.TrailingZeros
import Derived.KernelRfl
import Derived.Laws.StandIn
import Derived.ProofKit
import Derived.OpenShut
import Derived.ShutString
import Derived.ChangeOld
import Derived.Below
import Derived.DataElems
import Derived.Test.YtgobbgpmdfnfhaaDoorTie
import Derived.Test.YtgobbgpmdfnfhaaDoorCards
import Derived.LaidMore
import Derived.Stop.Joined
import Derived.MakeChecks
import Derived.Test.YtgobbgpmdfnfhaaDoorLSpotsKnown0
namespace Gx
open Go Go.RowKit
set_option linter.unusedSimpArgs false
set_option linter.unusedVariables false
def LoopWP (P : Program) (x : Code) (Q : Exit → Act → World → Prop) (a : Act) (w : World) : Prop :=
  ∀ (b : Frame) (k : List Item) (cs : List Frame), ∃ e a' w', Q e a' w' ∧ Arrives P (lone (b.at a (.code x :: .inLoop x :: k)) cs w) b k cs e a' w'
theorem wp_of_loop {P : Program} {x : Code} {Q : Exit → Act → World → Prop} {a : Act} {w : World} (h : LoopWP P x Q a w) : (Code.loop x).wp P Q a w := fun b k cs =>
  let ⟨e, a', w', q, r⟩ := h b k cs; ⟨e, a', w', q, .of_steps (.one step_loop) r⟩
theorem loop_round {P : Program} {x : Code} {Q : Exit → Act → World → Prop} {a : Act} {w : World} (h : x.wp P (Exit.then (LoopWP P x Q) Q) a w) : LoopWP P x Q a w := by
  intro b k cs
  obtain ⟨e, a₁, w₁, hq, harr⟩ := h b (.inLoop x :: k) cs
  cases e with
  | normal =>
    obtain ⟨e₂, a₂, w₂, hq₂, harr₂⟩ := hq b k cs
    exact ⟨e₂, a₂, w₂, hq₂, .of_steps (Steps.trans harr (.one step_inLoop)) harr₂⟩
  | exit id => exact ⟨_, a₁, w₁, hq, .pass (x := .inLoop x) rfl (fun _ _ => .inl (by simp)) harr⟩
  | goto l => exact ⟨_, a₁, w₁, hq, .pass (x := .inLoop x) rfl (fun _ _ => .inl (by simp)) harr⟩
  | ret => exact ⟨_, a₁, w₁, hq, .pass (x := .inLoop x) rfl (fun _ _ => .inl (by simp)) harr⟩
  | panic ch => exact ⟨_, a₁, w₁, hq, .pass (x := .inLoop x) rfl (fun _ _ => .inl (by simp)) harr⟩
  | outgrown => exact ⟨_, a₁, w₁, hq, .pass (x := .inLoop x) rfl (fun _ _ => .inl (by simp)) harr⟩
def resA1 (P : Program) (H : Tr BO) (ρ : En) : ResultVar → Option AV
  | .tmp t => ρ.get t
  | .cell a t => match ρ.get a with
    | some p => ldA P H t p
    | none => none
def resL (P : Program) (H : Tr BO) (ρ : En) : List ResultVar → Option (List AV)
  | [] => some []
  | r :: l => match resA1 P H ρ r, resL P H ρ l with
    | some a, some avs => some (a :: avs)
    | _, _ => none
def resA (P : Program) (H : Tr BO) (ρ : En) (l : List ResultVar) : Option AV := match resL P H ρ l with
  | some [v] => some v
  | some vs => some (.tup vs)
  | none => none
section
variable {P : Program} {base : Nat} {w0 : World} {φ φ' : Ph} {w w' : World}
theorem resA1_ok {H : Tr BO} {ρ : En} {a : Act} {r : ResultVar} {v : AV} (R : Rel base w0 φ H.get w) (he : ERel φ ρ.get (en a) (fun _ => True)) (h : resA1 P H ρ r = some v) : ∃ V, (resOne a.tmps r).run P w = .ok V w ∧ v.c φ = some V := by
  unfold resA1 at h
  split at h
  · rename_i t
    exact ⟨_, by simp only [resOne]; rfl, he t v trivial h⟩
  · rename_i q t
    split at h
    · rename_i p hp
      have h1 := he q p trivial hp
      obtain ⟨n, b', gg, z, ad, seg, ht, hA, hn, hg, hcf, hv⟩ := ldA_ok R h1 h
      have hr := run_loadVar (P := P) (w := w) (a := ad) ht hn hg hcf
      refine ⟨_, ?_, hv⟩
      have : a.tmps.getD q undef = .pointer (some ad) := hA
      simp only [resOne, this, asAddr, Sem.run_bind]
      show ((Sem.pure ad).run P w).andThen _ = _
      simp only [Sem.run, Result.andThen_ok, hr]
    · cases h
theorem resL_ok {H : Tr BO} {ρ : En} {a : Act} (R : Rel base w0 φ H.get w) (he : ERel φ ρ.get (en a) (fun _ => True)) : ∀ {l : List ResultVar} {vs : List AV}, resL P H ρ l = some vs → ∃ Vs, (l.mapM (resOne a.tmps)).run P w = .ok Vs w ∧ AV.cl φ vs = some Vs
  | [], vs, h => by
    unfold resL at h; injection h with h; subst h
    exact ⟨[], by rw [List.mapM_nil]; rfl, by unfold AV.cl; rfl⟩
  | r :: l, vs, h => by
    unfold resL at h
    split at h
    · rename_i v vs' h1 h2
      injection h with h; subst h
      obtain ⟨V, e1, e2⟩ := resA1_ok (P := P) R he h1
      obtain ⟨Vs, e3, e4⟩ := resL_ok R he h2
      refine ⟨V :: Vs, ?_, AV.cl_mk e2 e4⟩
      rw [List.mapM_cons]
      simp only [Sem.run_bind, e1, Result.andThen_ok, e3]
      rfl
    · cases h
theorem resA_ok {H : Tr BO} {ρ : En} {a : Act} {fn : Func} {v : AV} (R : Rel base w0 φ H.get w) (he : ERel φ ρ.get (en a) (fun _ => True)) (h : resA P H ρ fn.results.toList = some v) : ∃ V, (results fn a.tmps).run P w = .ok V w ∧ v.c φ = some V := by
  unfold resA at h
  have key : ∀ {vs : List AV}, resL P H ρ fn.results.toList = some vs → ∃ Vs, (results fn a.tmps).run P w = .ok (if h : Vs.toArray.size = 1 then Vs.toArray[0] else .tuple Vs.toArray) w ∧ AV.cl φ vs = some Vs := fun {vs} hv => by
    obtain ⟨Vs, e1, e2⟩ := resL_ok (P := P) R he hv
    refine ⟨Vs, ?_, e2⟩
    rw [results_eq, Array.mapM_eq_mapM_toList]
    simp only [Sem.run_bind, Sem.run_map, e1, Result.andThen_ok]
    rfl
  split at h
  · rename_i u hu
    injection h with h; subst h
    obtain ⟨Vs, e1, e2⟩ := key hu
    obtain ⟨V, Vs', rfl, e3, e4⟩ := AV.cl_cons e2
    unfold AV.cl at e4; injection e4 with e4; subst e4
    exact ⟨V, e1, e3⟩
  · rename_i vs hne hu
    injection h with h; subst h
    obtain ⟨Vs, e1, e2⟩ := key hu
    have hl := AV.cl_len e2
    have : ¬ Vs.toArray.size = 1 := fun hs => by
      rw [List.size_toArray, hl] at hs
      match vs, hs with
      | [u], _ => exact hne u rfl
    rw [dif_neg this] at e1
    exact ⟨_, e1, by unfold AV.c; rw [e2]; rfl⟩
  · cases h
end
end Gx
namespace Gx
open Go Go.RowKit
set_option linter.unusedSimpArgs false
set_option linter.unusedVariables false
def recO (t : Tmp) (ty : TypeId) (pos : String) : Oper := ⟨some t, .call ⟨.builtin .recover, #[], #[]⟩, ty, pos, #[], none⟩
section
variable {P : Program}
def recGives : FrameMode → Option (Value × FrameMode)
  | .returning => some (.nilIface, .returning)
  | .panicking [{ v, recovered := false, goexit := false }] => some (v, .panicking [{ v, recovered := true }])
  | _ => none
theorem run_recover {t : Tmp} {ty : TypeId} {pos : String} {ρ : Operand → Value} {w : World} : (execOp ρ (recO t ty pos)).run P w = .ok .recover w := by
  simp [execOp, recO, resolve, invoke, builtin, go_sem]
theorem step_recover {f : FuncId} {a : Act} {t : Tmp} {ty : TypeId} {pos : String} {k : List Item} {c₀ : Frame} {cs : List Frame} {w : World} {u u' : FrameMode} {V : Value} (hu : c₀.mode = u) (hg : recGives u = some (V, u')) :
    step P (lone (({ (default : Frame) with fn := f, kind := .deferred } : Frame).at a (.inRegion #[recO t ty pos] [0] :: k)) (c₀ :: cs) w) = .next (lone (({ (default : Frame) with fn := f, kind := .deferred } : Frame).at (a.put (some t) V) (.inRegion #[recO t ty pos] [] :: k)) ({ c₀ with mode := u' } :: cs) w) := by
  have hop := stepG_op (P := P) (b := { (default : Frame) with fn := f, kind := .deferred }) (a := a) (ops := #[recO t ty pos]) (i := 0) (rest := []) (k := k) (cs := c₀ :: cs) (w := w) (o := recO t ty pos) rfl rfl
  refine step_lone_go ?_
  show (stepG P true { frame := (({ (default : Frame) with fn := f, kind := .deferred } : Frame).at a (.inRegion #[recO t ty pos] [0] :: k)), callers := c₀ :: cs, status := .running, dying := none } w).bare = _
  rw [hop]
  have hfin : ∀ v, (({ (default : Frame) with fn := f, kind := .deferred } : Frame).at a (.inRegion #[recO t ty pos] [0] :: k)).finish v = ({ (default : Frame) with fn := f, kind := .deferred } : Frame).at (a.put (some t) v) (.inRegion #[recO t ty pos] [] :: k) := fun v => by
    rw [Frame.finish_at]; rfl
  unfold recGives at hg
  split at hg
  · injection hg with hg; injection hg with h1 h2; subst h1; subst h2
    have hc : ({ c₀ with mode := .returning } : Frame) = c₀ := by cases c₀; simp only at hu; subst hu; rfl
    rw [hc]
    have hr : (tryRecover (({ (default : Frame) with fn := f, kind := .deferred } : Frame).at a (.inRegion #[recO t ty pos] [0] :: k)) (c₀ :: cs)) = none := by
      simp [tryRecover, Frame.at, hu]
    have hro : (({ (default : Frame) with fn := f, kind := .deferred } : Frame).at a (.inRegion #[recO t ty pos] [0] :: k)).roundOf = none := rfl
    simp [stepG.apply, run_recover, hr, hro, hfin, GStep.bare]
    try rfl
  · rename_i v
    injection hg with hg; injection hg with h1 h2; subst h1; subst h2
    have hr : (tryRecover (({ (default : Frame) with fn := f, kind := .deferred } : Frame).at a (.inRegion #[recO t ty pos] [0] :: k)) (c₀ :: cs)) = some (v, { c₀ with mode := .panicking [{ v := v, recovered := true }] } :: cs) := by
      simp [tryRecover, Frame.at, hu]
    have hro : (({ (default : Frame) with fn := f, kind := .deferred } : Frame).at a (.inRegion #[recO t ty pos] [0] :: k)).roundOf = none := rfl
    simp [stepG.apply, run_recover, hr, hro, hfin, GStep.bare]
    try rfl
  · cases hg
theorem callsD_recover {f : FuncId} {fn : Func} {id : Nat} {t : Tmp} {ty : TypeId} {pos : String} {rest : Code} {args : Array Value} {u u' : FrameMode} {w : World} {R : Ending → World → Prop} {V : Value}
    (hf : P.funcs[f]? = some fn) (hb : fn.body = some (.seq (.region id #[recO t ty pos] false) rest)) (hg : recGives u = some (V, u'))
    (h : rest.wp P (bodyPost P fn R) (({ tmps := args ++ Array.replicate (fn.ntmps - args.size) undef, defers := [] } : Act).put (some t) V) w) : CallsD P f args u w fun e u2 w' => u2 = u' ∧ R e w' := by
  intro c₀ cs hu
  let b : Frame := { (default : Frame) with fn := f, kind := .deferred }
  have henter : Frame.enter P f args .deferred = b.at { tmps := args ++ Array.replicate (fn.ntmps - args.size) undef, defers := [] } [.code (.seq (.region id #[recO t ty pos] false) rest)] := by
    simp [Frame.enter, Frame.at, hf, hb, b]
  have s1 : Steps P (lone (Frame.enter P f args .deferred) (c₀ :: cs) w) (lone (b.at (({ tmps := args ++ Array.replicate (fn.ntmps - args.size) undef, defers := [] } : Act).put (some t) V) [.code rest]) ({ c₀ with mode := u' } :: cs) w) := by
    rw [henter]
    refine .head step_seq (.head step_region ?_)
    have : (List.range (#[recO t ty pos] : Array Oper).size) = [0] := rfl
    rw [this]
    exact .head (step_recover hu hg) (.one step_region_end)
  obtain ⟨e, a', w', hq, harr⟩ := h b [] ({ c₀ with mode := u' } :: cs)
  cases e with
  | normal =>
    obtain ⟨hd, v, hr, hR⟩ := hq
    exact ⟨.returned v, u', w', _, ⟨rfl, hR⟩, Steps.trans s1 (Steps.trans harr (.one step_end)), rfl, rfl, hd, fn, hf, hr⟩
  | ret =>
    obtain ⟨hd, v, hr, hR⟩ := hq
    obtain ⟨todo, hs⟩ := harr
    exact ⟨.returned v, u', w', _, ⟨rfl, hR⟩, Steps.trans s1 hs, rfl, rfl, hd, fn, hf, hr⟩
  | panic chain =>
    obtain ⟨hd, hR⟩ := hq
    obtain ⟨todo, hs⟩ := harr
    exact ⟨.panicked chain, u', w', _, ⟨rfl, hR⟩, Steps.trans s1 hs, rfl, rfl, hd, fn, hf⟩
  | exit id => exact hq.elim
  | goto l => exact hq.elim
  | outgrown =>
    have ho : Outgrown P (lone (Frame.enter P f args .deferred) (c₀ :: cs) w) := Outgrown.of_steps s1 (harr.resolve_left (by simp [b]))
    exact ⟨.outgrown, u', w', b, ⟨rfl, hq⟩, ho, rfl, trivial⟩
end
end Gx
namespace Gx
open Go Go.RowKit
set_option linter.unusedSimpArgs false
set_option linter.unusedVariables false
abbrev RecF := Bool → Nat → Code → En → Tr BO → Nat → List DF → Option SS
def envL : List AV → Nat → List (Nat × AV)
  | [], _ => []
  | a :: l, i => (i, a) :: envL l (i + 1)
def envA (m : Nat) (l : List AV) : En := ⟨m, envL l 0, .nil⟩
def flushS : Option SS → Option SS
  | some ⟨x, ρ, H, c, df⟩ => some ⟨x, ρ.flush, H, c, df⟩
  | none => none
inductive MD where
  | rtn
  | pan (v : AV)
def MD.ok (φ : Ph) (m : MD) (u : FrameMode) : Prop := match m with
  | .rtn => u = .returning
  | .pan v => ∃ V, v.c φ = some V ∧ u = .panicking [{ v := V, recovered := false }]
def dcallA (P : Program) (esc : Nat → Nat) (rec : RecF) (d : DF) (m : MD) (H : Tr BO) (c : Nat) : Option (Tr BO × Nat) :=
  match callB P d.f, P.funcs[d.f]? with
  | true, some fn => match fn.body with
    | some (.seq (.region _ ops false) rest) => match ops.toList with
      | [⟨some t, .call ⟨.builtin .recover, avs, ts⟩, _, _, af, none⟩] =>
        if avs.toList.isEmpty && (ts.toList.isEmpty && (af.toList.isEmpty && (Nat.ble (d.args ++ d.caps).length fn.ntmps && (Nat.blt fn.ntmps 1000000 && Nat.blt t fn.ntmps)))) then
          match rec false fn.ntmps rest ((envA (esc d.f) (d.args ++ d.caps)).put t (match m with
            | .rtn => .v .nilIface
            | .pan v => v)) H c [] with
          | some ⟨.nm, ρ', H', c', []⟩ => match resA P H' ρ' fn.results.toList with
            | some _ => some (H', c')
            | none => none
          | some ⟨.rt, ρ', H', c', []⟩ => match resA P H' ρ' fn.results.toList with
            | some _ => some (H', c')
            | none => none
          | _ => none
        else none
      | _ => none
    | _ => none
  | _, _ => none
def leaveA (P : Program) (esc : Nat → Nat) (rec : RecF) (fn : Func) (ρ : En) : List DF → MD → Tr BO → Nat → Option CR
  | [], .rtn, H, c => match resA P H ρ fn.results.toList with
    | some v => some (.ret v H c)
    | none => none
  | [], .pan v, H, c => some (.pan v H c)
  | d :: ds, m, H, c => match dcallA P esc rec d m H c with
    | some (H', c') => leaveA P esc rec fn ρ ds .rtn H' c'
    | none => none
abbrev ExtF := Nat → Option (Array Value → Sem Value)
def extA (P : Program) (e : Array Value → Sem Value) (avs : List AV) : Option AV := match fll avs with
  | some vs => match Sem.pr P (e vs.toArray) with
    | some V => some (ofV V)
    | none => none
  | none => none
def callS (P : Program) (esc : Nat → Nat) (ext : ExtF) (orc : Nat → List AV → Option AV) (rec : RecF) : CallF := fun g avs H c =>
  match ext g with
  | some e => match extA P e avs with
    | some v => some (.ret v H c)
    | none => none
  | none => if callB P g then match orc g avs with
  | some v => some (.ret v H c)
  | none => match P.funcs[g]? with
    | none => none
    | some fn => match fn.body with
      | none => none
      | some cd => if Nat.ble avs.length fn.ntmps && Nat.blt fn.ntmps 1000000 then match rec false fn.ntmps cd (envA (esc g) avs) H c [] with
          | some ⟨.nm, ρ', H', c', df⟩ => leaveA P esc rec fn ρ' df .rtn H' c'
          | some ⟨.rt, ρ', H', c', df⟩ => leaveA P esc rec fn ρ' df .rtn H' c'
          | some ⟨.pn v, ρ', H', c', df⟩ => leaveA P esc rec fn ρ' df (.pan v) H' c'
          | _ => none
        else none
  else none
def codeS (P : Program) (rec : RecF) (call : CallF) : RecF := fun lp n cd ρ H c df =>
  match lp with
  | true => match rec false n cd ρ H c df with
    | some ⟨.nm, ρ1, H1, c1, df1⟩ => rec true n cd ρ1 H1 c1 df1
    | r => r
  | false => match cd with
    | .skip => some ⟨.nm, ρ, H, c, df⟩
    | .label _ => some ⟨.nm, ρ, H, c, df⟩
    | .region _ ops false => flushS (opsA P call n ops.toList ops.toList ρ H c df)
    | .region _ ops true => if statB ops ops.toList ops.size ops.toList 0 then match drA P call n ops.toList ops.size ops.toList 0 [] ρ H c with
        | some (ρ', H', c') => some ⟨.nm, ρ'.flush, H', c', df⟩
        | none => none
      else none
    | .seq x y => match rec false n x ρ H c df with
      | some ⟨.nm, ρ1, H1, c1, df1⟩ => rec false n y ρ1 H1 c1 df1
      | r => r
    | .cond q x y => match zah ρ q with
      | some (.v (.bool b)) => rec false n (cond b x y) ρ H c df
      | _ => none
    | .block id x => match rec false n x ρ H c df with
      | some ⟨.ex id', ρ1, H1, c1, df1⟩ => cond (Nat.beq id' id) (some ⟨.nm, ρ1, H1, c1, df1⟩) (some ⟨.ex id', ρ1, H1, c1, df1⟩)
      | r => r
    | .loop x => rec true n x ρ H c df
    | .exit id => some ⟨.ex id, ρ, H, c, df⟩
    | .ret => some ⟨.rt, ρ, H, c, df⟩
    | _ => none
def codeA (P : Program) (esc : Nat → Nat) (ext : ExtF) (orc : Nat → List AV → Option AV) (f : Nat) : RecF :=
  Nat.rec (motive := fun _ => RecF) (fun _ _ _ _ _ _ _ => none) (fun _ ih => codeS P ih (callS P esc ext orc ih)) f
section
variable {P : Program} {base : Nat} {w0 : World}
def RecOK (P : Program) (base : Nat) (w0 : World) (rec : RecF) : Prop :=
  ∀ (lp : Bool) (n : Nat) (cd : Code) (ρ : En) (H : Tr BO) (c : Nat) (df : List DF) (s : SS), rec lp n cd ρ H c df = some s → c ≤ s.c ∧ ∀ (φ : Ph) (a : Act) (w : World) (Q : Exit → Act → World → Prop), SRel base w0 φ n ρ H df a w → Fre φ c s.c →
    (∀ φ' a' w', Tran base w0 φ H.get c w φ' s.H.get s.c w' → SRel base w0 φ' n s.ρ s.H s.df a' w' → QX Q φ' s.x a' w') → cond lp (LoopWP P cd Q a w) (cd.wp P Q a w)
theorem envL_look : ∀ {l : List AV} {i : Nat} (t : Nat), lookA t (envL l i) = if i ≤ t ∧ t < i + l.length then some l[t - i]? else none
  | [], i, t => by unfold envL lookA; rw [if_neg (by simp)]
  | a :: l, i, t => by
    unfold envL lookA
    rw [envL_look t]
    simp only [List.length_cons]
    cases hb : Nat.beq i t with
    | true =>
      have := Nat.eq_of_beq_eq_true hb; subst this
      simp
    | false =>
      have hne : ¬ t = i := fun e => by subst e; simp at hb
      simp only
      by_cases h1 : i + 1 ≤ t ∧ t < i + 1 + l.length
      · rw [if_pos h1, if_pos (by omega), show t - i = (t - (i + 1)) + 1 by omega, List.getElem?_cons_succ]
      · rw [if_neg h1, if_neg (by omega)]
theorem envA_get {m : Nat} {l : List AV} {t : Nat} {v : AV} (h : (envA m l).get t = some v) : l[t]? = some v := by
  unfold envA En.get at h
  simp only at h
  rw [envL_look t] at h
  by_cases h1 : 0 ≤ t ∧ t < 0 + l.length
  · rw [if_pos h1] at h; exact h
  · rw [if_neg h1] at h
    simp only [Tr.get_nil] at h
    cases hb : bitA m t <;> rw [hb] at h <;> cases h
theorem enter_rel {mk : Nat} {φ : Ph} {avs : List AV} {Vs : List Value} {H : Tr BO} {n : Nat} {w : World} (R : Rel base w0 φ H.get w) (hv : AV.cl φ avs = some Vs) (hn : avs.length ≤ n) (hb : n < 1000000) :
    SRel base w0 φ n (envA mk avs) H [] { tmps := Vs.toArray ++ Array.replicate (n - Vs.toArray.size) undef, defers := [] } w := by
  have hl := AV.cl_len hv
  refine ⟨R, fun t v _ ht => ?_, by simp; omega, rfl⟩
  · obtain ⟨x, h1, h2⟩ := AV.cl_get hv (envA_get ht)
    have : en ({ tmps := Vs.toArray ++ Array.replicate (n - Vs.toArray.size) undef, defers := [] } : Act) t = x := by
      have hlt : t < Vs.length := (List.getElem?_eq_some_iff.1 h1).1
      simp only [en, Array.getD_eq_getD_getElem?, Array.getElem?_append, List.size_toArray, hlt, if_true]
      simp [h1]
    rw [this]; exact h2
theorem dcallA_ok {esc : Nat → Nat} {rec : RecF} (hrec : RecOK P base w0 rec) {d : DF} {m : MD} {H H' : Tr BO} {c c' : Nat} {φ : Ph} {w : World} {u : FrameMode} {dd : Deferred} (h : dcallA P esc rec d m H c = some (H', c')) (R : Rel base w0 φ H.get w) (hf : Fre φ c c')
    (hd : DRel φ [d] [dd]) (hu : m.ok φ u) {fn : Func} {tmps : Array Value} {RR : Ending → World → Prop} {ds : List Deferred}
    (hk : ∀ φ' w', Tran base w0 φ H.get c w φ' H'.get c' w' → Leaves P fn tmps RR ds .returning w') : c ≤ c' ∧ Leaves P fn tmps RR (dd :: ds) u w := by
  obtain ⟨cs, avs, rs, hdd, hcs, has, hrs⟩ := hd
  have hrs' : rs = [] := hrs
  subst hrs'
  injection hdd with hdd _
  subst hdd
  unfold dcallA at h
  split at h
  · rename_i fn2 hcb hfn
    split at h
    · rename_i id ops rest hbody
      split at h
      · rename_i t avs' ts ty pos af hops
        split at h
        · rename_i hc
          simp only [Bool.and_eq_true] at hc
          obtain ⟨c1, c2, c3, c4, c5, c6⟩ := hc
          have e1 : avs' = #[] := by rw [← Array.toList_inj]; simpa using c1
          have e2 : ts = #[] := by rw [← Array.toList_inj]; simpa using c2
          have e3 : af = #[] := by rw [← Array.toList_inj]; simpa using c3
          subst e1; subst e2; subst e3
          have e4 : ops = #[recO t ty pos] := by rw [← Array.toList_inj]; exact hops
          subst e4
          have hn := Nat.le_of_ble_eq_true c4
          have hb : fn2.ntmps < 1000000 := by simpa [Nat.blt_eq] using c5
          have ht : t < fn2.ntmps := by simpa [Nat.blt_eq] using c6
          have hall := AV.cl_app has hcs
          have S0 := enter_rel (mk := esc d.f) (H := H) R hall hn hb
          have hcall : Callable P d.f := by
            unfold callB at hcb; rw [hfn] at hcb; simp only at hcb
            rw [Bool.and_eq_true] at hcb
            exact ⟨fn2, hfn, by cases hb2 : fn2.body <;> simp_all, by simpa using hcb.2⟩
          obtain ⟨V, u', vv, hg, hvv, hval, hset⟩ : ∃ V u' vv, recGives u = some (V, u') ∧ (match m with
              | .rtn => AV.v Value.nilIface
              | .pan v => v) = vv ∧ vv.c φ = some V ∧ settle u' = .returning := by
            cases m with
            | rtn => unfold MD.ok at hu; simp only at hu; subst hu; exact ⟨_, _, _, rfl, rfl, by unfold AV.c; rfl, rfl⟩
            | pan v =>
              unfold MD.ok at hu; simp only at hu
              obtain ⟨V, h1, h2⟩ := hu; subst h2
              exact ⟨V, _, v, rfl, rfl, h1, rfl⟩
          rw [hvv] at h
          have hput : putO fn2.ntmps (envA (esc d.f) (d.args ++ d.caps)) (some t) vv = some ((envA (esc d.f) (d.args ++ d.caps)).put t vv) := by
            unfold putO; simp only
            rw [c6]
          obtain ⟨g1, g2⟩ := putO_get hput
          obtain ⟨g3, g4⟩ := erel_upd (dst := some t) S0.env (PLe.refl φ) S0.size g2 hval
          have S1 : SRel base w0 φ fn2.ntmps ((envA (esc d.f) (d.args ++ d.caps)).put t vv) H [] (({ tmps := (avs ++ cs).toArray ++ Array.replicate (fn2.ntmps - (avs ++ cs).toArray.size) undef, defers := [] } : Act).put (some t) V) w :=
            ⟨R, by rw [g1]; exact g3, g4, rfl⟩
          -- what comes of the body
          have main : ∀ (x : EX) (ρ' : En), (x = .nm ∨ x = .rt) → rec false fn2.ntmps rest ((envA (esc d.f) (d.args ++ d.caps)).put t vv) H c [] = some ⟨x, ρ', H', c', []⟩ → resA P H' ρ' fn2.results.toList ≠ none → c ≤ c' ∧ Leaves P fn tmps RR ({ target := .fn (.func d.f) cs.toArray, args := avs.toArray } :: ds) u w := fun x ρ' hx hr hres => by
            obtain ⟨hle, hs⟩ := hrec false fn2.ntmps rest _ H c [] _ hr
            refine ⟨hle, ?_⟩
            have hinv : (invoke (.fn (.func d.f) cs.toArray) avs.toArray).run P w = .ok (.enter d.f (avs ++ cs).toArray) w := by
              obtain ⟨fn3, h1, h2, h3⟩ := hcall
              have n1 : ¬ fn3.name = "runtime.NumGoroutine" := by simpa using h3
              have n2 : ¬ fn3.body = none := by intro e; rw [e] at h2; cases h2
              simp [invoke, callFunc, program, Sem.run, h1, n1, n2, go_sem]
            have hnr : u ≠ .run := fun e => by subst e; cases hg
            refine leaves_cons hnr hinv ?_
            have hcd := callsD_recover (R := fun e w' => match e with
                | .returned _ => Leaves P fn tmps RR ds .returning w'
                | _ => False) hfn hbody hg ((hs φ _ w (bodyPost P fn2 _) S1 hf) fun φ' a' w' hT S' => ?_)
            · refine hcd.mono fun e u2 w' he => ?_
              obtain ⟨rfl, he⟩ := he
              cases e with
              | returned v => simp only at he ⊢; rw [hset]; exact he
              | panicked ch => exact he.elim
              | outgrown => exact he.elim
            · cases hrr : resA P H' ρ' fn2.results.toList with
              | none => exact absurd hrr hres
              | some v =>
                obtain ⟨V2, h1, h2⟩ := resA_ok (P := P) S'.mem S'.env hrr
                have hdf : a'.defers = [] := S'.dfs
                have hfin : a'.defers = [] ∧ ∃ v, (results fn2 a'.tmps).run P w' = .ok v w' ∧ Leaves P fn tmps RR ds .returning w' := ⟨hdf, V2, h1, hk φ' w' hT⟩
                rcases hx with rfl | rfl <;> exact hfin
          split at h
          · rename_i ρ' H2 c2 hr
            split at h
            · rename_i v hres
              injection h with h; injection h with h h'; subst h; subst h'
              exact main .nm ρ' (.inl rfl) hr (by rw [hres]; simp)
            · cases h
          · rename_i ρ' H2 c2 hr
            split at h
            · rename_i v hres
              injection h with h; injection h with h h'; subst h; subst h'
              exact main .rt ρ' (.inr rfl) hr (by rw [hres]; simp)
            · cases h
          · cases h
        · cases h
      · cases h
    · cases h
  · cases h
end
end Gx
namespace Gx
open Go Go.RowKit
set_option linter.unusedSimpArgs false
set_option linter.unusedVariables false
section
variable {P : Program} {base : Nat} {w0 : World}
def OrcOK (P : Program) (base : Nat) (w0 : World) (orc : Nat → List AV → Option AV) : Prop :=
  ∀ g avs v, orc g avs = some v → ∀ (φ : Ph) (Vs : List Value) (w : World), AV.cl φ avs = some Vs → Below base w0 w → Calls P g Vs.toArray w fun e w' => ∃ V, e = .returned V ∧ v.c φ = some V ∧ Gr w w'
theorem dcallA_mono {esc : Nat → Nat} {rec : RecF} (hrec : RecOK P base w0 rec) {d : DF} {m : MD} {H H' : Tr BO} {c c' : Nat} (hdc : dcallA P esc rec d m H c = some (H', c')) : c ≤ c' := by
  unfold dcallA at hdc
  split at hdc
  · split at hdc
    · split at hdc
      · split at hdc
        · split at hdc
          · rename_i hr
            split at hdc
            · injection hdc with hdc; injection hdc with e1 e2; subst e2; exact (hrec _ _ _ _ _ _ _ _ hr).1
            · cases hdc
          · rename_i hr
            split at hdc
            · injection hdc with hdc; injection hdc with e1 e2; subst e2; exact (hrec _ _ _ _ _ _ _ _ hr).1
            · cases hdc
          · cases hdc
        · cases hdc
      · cases hdc
    · cases hdc
  · cases hdc
theorem leaveA_mono {esc : Nat → Nat} {rec : RecF} (hrec : RecOK P base w0 rec) {fn : Func} {ρ : En} {r : CR} : ∀ {df : List DF} {m : MD} {H : Tr BO} {c : Nat}, leaveA P esc rec fn ρ df m H c = some r → c ≤ r.c'
  | [], .rtn, H, c, h => by
    unfold leaveA at h
    split at h
    · injection h with h; subst h; exact Nat.le_refl _
    · cases h
  | [], .pan v, H, c, h => by unfold leaveA at h; injection h with h; subst h; exact Nat.le_refl _
  | d :: df, m, H, c, h => by
    unfold leaveA at h
    split at h
    · rename_i H' c' hdc
      exact Nat.le_trans (dcallA_mono hrec hdc) (leaveA_mono hrec h)
    · cases h
theorem leaveA_ok {esc : Nat → Nat} {rec : RecF} (hrec : RecOK P base w0 rec) {fn : Func} {ρ : En} {a : Act} : ∀ {df : List DF} {m : MD} {H : Tr BO} {c : Nat} {r : CR} {φ : Ph} {w : World} {u : FrameMode} {ds : List Deferred} {RR : Ending → World → Prop}, leaveA P esc rec fn ρ df m H c = some r →
    Rel base w0 φ H.get w → ERel φ ρ.get (en a) (fun _ => True) → Fre φ c r.c' → DRel φ df ds → m.ok φ u →
    (∀ φ' w' e V, r.ok base w0 φ H.get c w e φ' V w' → RR e w') → Leaves P fn a.tmps RR ds u w := by
  intro df
  induction df with
  | nil =>
    intro m H c r φ w u ds RR h R he hf hd hu hk
    have : ds = [] := hd
    subst this
    cases m with
    | rtn =>
      unfold leaveA at h
      have hu' : u = .returning := hu
      subst hu'
      split at h
      · rename_i v hres
        injection h with h; subst h
        obtain ⟨V, h1, h2⟩ := resA_ok (P := P) R he hres
        exact ⟨V, h1, hk φ w _ V ⟨rfl, h2, Tran.refl R c⟩⟩
      · cases h
    | pan v =>
      unfold leaveA at h
      obtain ⟨V, h1, rfl⟩ := hu
      injection h with h; subst h
      exact hk φ w _ V ⟨rfl, h1, Tran.refl R c⟩
  | cons d df ih =>
    intro m H c r φ w u ds RR h R he hf hd hu hk
    obtain ⟨cs, avs, rs, hds, h1, h2, h3⟩ := hd
    unfold leaveA at h
    split at h
    · rename_i H' c' hdc
      subst hds
      have m1 := dcallA_mono hrec hdc
      have m2 := leaveA_mono hrec h
      refine (dcallA_ok hrec hdc R (hf.sub (Nat.le_refl _) m2) ⟨cs, avs, [], rfl, h1, h2, rfl⟩ hu fun φ' w' hT => ?_).2
      have hle := hT.le (hf.sub (Nat.le_refl _) m2)
      refine ih h hT.rel (fun t v hS ht => AV.c_mono hle v _ (he t v hS ht)) (hf.step hT) (h3.mono hle) rfl fun φ2 w2 e V hr => hk φ2 w2 e V ?_
      cases r with
      | ret v H2 c2 => exact ⟨hr.1, hr.2.1, hT.trans hr.2.2⟩
      | pan v H2 c2 => exact ⟨hr.1, hr.2.1, hT.trans hr.2.2⟩
    · cases h
def ExtOK (P : Program) (ext : ExtF) : Prop := ∀ g e, ext g = some e → ∀ (args : Array Value) (w : World), (callFunc g args).run P w = ((e args).run P w).andThen fun v w' => .ok (.value v) w'
theorem callS_ok {esc : Nat → Nat} {ext : ExtF} (hext : ExtOK P ext) {orc : Nat → List AV → Option AV} (horc : OrcOK P base w0 orc) {rec : RecF} (hrec : RecOK P base w0 rec) : CallOK P base w0 (callS P esc ext orc rec) := by
  intro g avs H c r φ w Vs h hv R hf
  unfold callS at h
  split at h
  · rename_i e he
    split at h
    · rename_i v hx
      injection h with h; subst h
      right
      unfold extA at hx
      split at hx
      · rename_i vs hvs
        split at hx
        · rename_i V hV
          injection hx with hx; subst hx
          have := fll_c (φ := φ) hvs
          rw [hv] at this; injection this with this; subst this
          refine ⟨_, V, rfl, ofV_c φ V, ?_⟩
          rw [hext g e he, pr_run _ _ hV w]
          rfl
        · cases hx
      · cases hx
    · cases h
  split at h
  case isFalse => cases h
  rename_i hcb
  left
  refine ⟨callB_ok hcb, ?_⟩
  split at h
  · rename_i v ho
    injection h with h; subst h
    refine (horc g avs v ho φ Vs w hv R.below).mono fun e w' he => ?_
    obtain ⟨V, h1, h2, h3⟩ := he
    exact ⟨φ, V, h1, h2, Tran.grow R c h3⟩
  · split at h
    · cases h
    · rename_i fn hfn
      split at h
      · cases h
      · rename_i cd hb
        split at h
        · rename_i hc
          rw [Bool.and_eq_true] at hc
          have hn := Nat.le_of_ble_eq_true hc.1
          have hb2 : fn.ntmps < 1000000 := by simpa [Nat.blt_eq] using hc.2
          have S0 := enter_rel (mk := esc g) (H := H) R hv hn hb2
          have main : ∀ (x : EX) (ρ' : En) (H' : Tr BO) (c' : Nat) (df : List DF) (m : MD), rec false fn.ntmps cd (envA (esc g) avs) H c [] = some ⟨x, ρ', H', c', df⟩ → leaveA P esc rec fn ρ' df m H' c' = some r →
              ((m = .rtn ∧ (x = .nm ∨ x = .rt)) ∨ ∃ v, m = .pan v ∧ x = .pn v) → Calls P g Vs.toArray w fun e w' => ∃ φ' V, r.ok base w0 φ H.get c w e φ' V w' := fun x ρ' H' c' df m hr hl hx => by
            have m2 := leaveA_mono hrec hl
            obtain ⟨m1, hs⟩ := hrec false fn.ntmps cd _ H c [] _ hr
            refine calls_of_wp_defers hfn hb (hs φ _ w _ S0 (hf.sub (Nat.le_refl _) m2) fun φ' a' w' hT S' => ?_)
            have fin : ∀ u, m.ok φ' u → Leaves P fn a'.tmps (fun e w' => ∃ φ' V, r.ok base w0 φ H.get c w e φ' V w') a'.defers u w' := fun u hu => by
              refine leaveA_ok hrec hl S'.mem S'.env (hf.step hT) S'.dfs hu fun φ2 w2 e V hr2 => ⟨φ2, V, ?_⟩
              cases r with
              | ret v H2 c2 => exact ⟨hr2.1, hr2.2.1, hT.trans hr2.2.2⟩
              | pan v H2 c2 => exact ⟨hr2.1, hr2.2.1, hT.trans hr2.2.2⟩
            rcases hx with ⟨rfl, rfl | rfl⟩ | ⟨v, rfl, rfl⟩
            · exact fin .returning rfl
            · exact fin .returning rfl
            · exact fun V hV => fin (.panicking [{ v := V, recovered := false }]) ⟨V, hV, rfl⟩
          split at h
          · rename_i ρ' H' c' df hr
            exact main .nm ρ' H' c' df .rtn hr h (.inl ⟨rfl, .inl rfl⟩)
          · rename_i ρ' H' c' df hr
            exact main .rt ρ' H' c' df .rtn hr h (.inl ⟨rfl, .inr rfl⟩)
          · rename_i v ρ' H' c' df hr
            exact main (.pn v) ρ' H' c' df (.pan v) hr h (.inr ⟨v, rfl, rfl⟩)
          · cases h
        · cases h
theorem qx_then {Q : Exit → Act → World → Prop} {next : Act → World → Prop} {φ : Ph} {x : EX} {a : Act} {w : World} (hne : x ≠ .nm) (h : QX Q φ x a w) : QX (Exit.then next Q) φ x a w := by
  cases x with
  | nm => exact absurd rfl hne
  | ex id => exact h
  | rt => exact h
  | pn v => exact h
theorem codeS_ok (hm : P.follows .mixedOrders = true) {rec : RecF} (hrec : RecOK P base w0 rec) {call : CallF} (hcall : CallOK P base w0 call) : RecOK P base w0 (codeS P rec call) := by
  intro lp n cd ρ H c df s h
  -- one piece of code, and what comes behind it
  have two : ∀ (lp2 : Bool) (x y : Code), (match rec false n x ρ H c df with
      | some ⟨.nm, ρ1, H1, c1, df1⟩ => rec lp2 n y ρ1 H1 c1 df1
      | r => r) = some s → c ≤ s.c ∧ ∀ (φ : Ph) (a : Act) (w : World) (Q : Exit → Act → World → Prop), SRel base w0 φ n ρ H df a w → Fre φ c s.c →
    (∀ φ' a' w', Tran base w0 φ H.get c w φ' s.H.get s.c w' → SRel base w0 φ' n s.ρ s.H s.df a' w' → QX Q φ' s.x a' w') → x.wp P (Exit.then (fun a w => cond lp2 (LoopWP P y Q a w) (y.wp P Q a w)) Q) a w := fun lp2 x y h => by
    split at h
    · rename_i ρ1 H1 c1 df1 h1
      obtain ⟨m1, s1⟩ := hrec false n x ρ H c df _ h1
      obtain ⟨m2, s2⟩ := hrec lp2 n y ρ1 H1 c1 df1 _ h
      refine ⟨Nat.le_trans m1 m2, fun φ a w Q S hf hk => s1 φ a w _ S (hf.sub (Nat.le_refl _) m2) fun φ' a' w' hT S' => ?_⟩
      exact s2 φ' a' w' Q S' (hf.step hT) fun φ2 a2 w2 hT2 S2 => hk φ2 a2 w2 (hT.trans hT2) S2
    · rename_i hne
      obtain ⟨m1, s1⟩ := hrec false n x ρ H c df _ h
      refine ⟨m1, fun φ a w Q S hf hk => s1 φ a w _ S hf fun φ' a' w' hT S' => qx_then (fun e => ?_) (hk φ' a' w' hT S')⟩
      obtain ⟨x', ρ', H', c', df'⟩ := s
      simp only at e; subst e
      exact hne _ _ _ _ h
  unfold codeS at h
  split at h
  · obtain ⟨m1, s1⟩ := two true cd cd h
    exact ⟨m1, fun φ a w Q S hf hk => loop_round (s1 φ a w Q S hf hk)⟩
  · split at h
    · injection h with h; subst h
      exact ⟨Nat.le_refl _, fun φ a w Q S hf hk => wp_skip (hk φ a w (Tran.refl S.mem c) S)⟩
    · injection h with h; subst h
      exact ⟨Nat.le_refl _, fun φ a w Q S hf hk => wp_label (hk φ a w (Tran.refl S.mem c) S)⟩
    · rename_i id ops
      cases ho : opsA P call n ops.toList ops.toList ρ H c df with
      | none => rw [ho] at h; cases h
      | some s1 =>
      obtain ⟨x1, ρ1, H1, c1, df1⟩ := s1
      rw [ho] at h
      simp only [flushS, Option.some.injEq] at h; subst h
      refine ⟨(by have := zai _ _ _ _ _ ho; exact this), fun φ a w Q S hf hk => wp_region ?_⟩
      have := opsA_sound (Q := Q) hcall ops.toList 0 ρ H c df φ a w (fun k => by simp) ho S hf (fun φ' a' w' hT S' => hk φ' a' w' hT ⟨S'.mem, fun t v hS ht => S'.env t v hS (En.flush_get ht), S'.size, S'.dfs⟩)
      rw [List.range_eq_range']
      simpa using this
    · rename_i id ops
      split at h
      · rename_i hst
        split at h
        · rename_i ρ' H' c' hd
          injection h with h; subst h
          exact ⟨drA_mono _ _ _ _ _ _ hd, fun φ a w Q S hf hk => drawn_sound hcall hm hst hd S hf (fun φ' a' w' hT S' => hk φ' a' w' hT ⟨S'.mem, fun t v hS ht => S'.env t v hS (En.flush_get ht), S'.size, S'.dfs⟩)⟩
        · cases h
      · cases h
    · rename_i x y
      obtain ⟨m1, s1⟩ := two false x y h
      exact ⟨m1, fun φ a w Q S hf hk => wp_seq (s1 φ a w Q S hf hk)⟩
    · rename_i q x y
      split at h
      · rename_i b hq
        obtain ⟨m1, s1⟩ := hrec false n _ ρ H c df _ h
        refine ⟨m1, fun φ a w Q S hf hk => ?_⟩
        have he := c_v (zab S.env (x := q) (by cases q <;> trivial) hq)
        have := s1 φ a w Q S hf hk
        refine wp_cond (t := b) (by rw [act_eval]; exact he) ?_
        cases b <;> exact this
      · cases h
    · rename_i id x
      split at h
      · rename_i id' ρ1 H1 c1 df1 h1
        obtain ⟨m1, s1⟩ := hrec false n x ρ H c df _ h1
        cases hb : Nat.beq id' id with
        | true =>
          have hid := Nat.eq_of_beq_eq_true hb
          rw [hb] at h; simp only [cond_true, Option.some.injEq] at h; subst h
          refine ⟨m1, fun φ a w Q S hf hk => wp_block (s1 φ a w _ S hf fun φ' a' w' hT S' => ?_)⟩
          show (Exit.inBlock id Q) (.exit id') a' w'
          unfold Exit.inBlock; simp only [hid, if_true]
          exact hk φ' a' w' hT S'
        | false =>
          have hid : ¬ id' = id := fun e => by subst e; simp at hb
          rw [hb] at h; simp only [cond_false, Option.some.injEq] at h; subst h
          refine ⟨m1, fun φ a w Q S hf hk => wp_block (s1 φ a w _ S hf fun φ' a' w' hT S' => ?_)⟩
          show (Exit.inBlock id Q) (.exit id') a' w'
          unfold Exit.inBlock; simp only [hid, if_false]
          exact hk φ' a' w' hT S'
      · rename_i hne
        obtain ⟨m1, s1⟩ := hrec false n x ρ H c df _ h
        refine ⟨m1, fun φ a w Q S hf hk => wp_block (s1 φ a w _ S hf fun φ' a' w' hT S' => ?_)⟩
        have hq := hk φ' a' w' hT S'
        obtain ⟨x', ρ', H', c', df'⟩ := s
        cases x' with
        | nm => exact hq
        | ex id' => exact absurd h (hne _ _ _ _ _)
        | rt => exact hq
        | pn v => exact hq
    · rename_i x
      obtain ⟨m1, s1⟩ := hrec true n x ρ H c df _ h
      exact ⟨m1, fun φ a w Q S hf hk => wp_of_loop (s1 φ a w Q S hf hk)⟩
    · rename_i id
      injection h with h; subst h
      exact ⟨Nat.le_refl _, fun φ a w Q S hf hk => wp_exit (hk φ a w (Tran.refl S.mem c) S)⟩
    · injection h with h; subst h
      exact ⟨Nat.le_refl _, fun φ a w Q S hf hk => wp_ret (hk φ a w (Tran.refl S.mem c) S)⟩
    · cases h
theorem codeA_ok (hm : P.follows .mixedOrders = true) {esc : Nat → Nat} {ext : ExtF} (hext : ExtOK P ext) {orc : Nat → List AV → Option AV} (horc : OrcOK P base w0 orc) : ∀ f, RecOK P base w0 (codeA P esc ext orc f)
  | 0 => fun lp n cd ρ H c df s h => by cases h
  | f + 1 => codeS_ok hm (codeA_ok hm hext horc f) (callS_ok hext horc (codeA_ok hm hext horc f))
end
def runA (P : Program) (esc : Nat → Nat) (ext : ExtF) (orc : Nat → List AV → Option AV) (fuel f : Nat) (args : List AV) : Option Value := match callS P esc ext orc (codeA P esc ext orc fuel) f args .nil 0 with
  | some (.ret v _ _) => v.fl
  | _ => none
theorem runA_ok {P : Program} (hm : P.follows .mixedOrders = true) {esc : Nat → Nat} {ext : ExtF} (hext : ExtOK P ext) {orc : Nat → List AV → Option AV} {fuel f : Nat} {args : List AV} {Vs : List Value} {V : Value} (h : runA P esc ext orc fuel f args = some V) (ha : fll args = some Vs) (hb : callB P f = true) {w : World} (horc : OrcOK P w.heap.size w orc) (hne : ext f = none) :
    Calls P f Vs.toArray w fun e w' => e = .returned V ∧ Below w.heap.size w w' := by
  unfold runA at h
  split at h
  · rename_i v H c hr
    have hcall := callS_ok (esc := esc) hext horc (codeA_ok (esc := esc) hm hext horc fuel)
    have R0 : Rel w.heap.size w (fun _ => none) (Tr.nil : Tr BO).get w := ⟨(fun b o hb => by rw [Tr.get_nil] at hb; cases hb), (fun b b' x y y' hb => absurd (Tr.get_nil b) hb), (fun b x y hb => absurd (Tr.get_nil b) hb), Below.refl _ _, Nat.le_refl _⟩
    have hcb := (hcall f args .nil 0 _ (fun _ => none) w Vs hr (fll_c ha) R0 (fun _ _ _ => rfl)).resolve_right (fun hx => by
      obtain ⟨_, V2, _, _, hx⟩ := hx
      obtain ⟨fn, h1, h2, h3⟩ := callB_ok hb
      have n1 : ¬ fn.name = "runtime.NumGoroutine" := by simpa using h3
      have n2 : ¬ fn.body = none := by intro e; rw [e] at h2; cases h2
      simp [callFunc, program, Sem.run, h1, n1, n2, go_sem] at hx)
    refine hcb.2.mono fun e w' he => ?_
    obtain ⟨φ', V', h1, h2, hT⟩ := he
    have := fl_c (φ := φ') h
    rw [h2] at this; injection this with this; subst this
    exact ⟨h1, hT.rel.below⟩
  · cases h
end Gx
namespace Go.Proofs.YtgobbgpmdfnfhaaDoor
open Go Gx Go.Shelf
def tzRen : Ren := ⟨fun | 29 => 40 | n => n, fun | 22 => 35 | 25 => 109 | 54 => 110 | n => n, fun | 1 => 0 | n => n⟩
theorem tzLays : Lays7.n29 Tryd.prog tzRen where
  mixed := by kernel_rfl
  f29 := by kernel_rfl
  t0 := by kernel_rfl
  a0 := fun _ => by kernel_rfl
  z0 := fun _ => by kernel_rfl
  v0 := fun _ => by kernel_rfl
  i0 := by kernel_rfl
  t3 := by kernel_rfl
  a3 := fun _ => by kernel_rfl
  z3 := fun _ => by kernel_rfl
  v3 := fun _ => by kernel_rfl
  i3 := by kernel_rfl
  t4 := by kernel_rfl
  a4 := fun _ => by kernel_rfl
  z4 := fun _ => by kernel_rfl
  v4 := fun _ => by kernel_rfl
  i4 := by kernel_rfl
  t5 := by kernel_rfl
  a5 := fun _ => by kernel_rfl
  z5 := fun _ => by kernel_rfl
  v5 := fun _ => by kernel_rfl
  i5 := by kernel_rfl
  t22 := by kernel_rfl
  a22 := fun _ => by kernel_rfl
  z22 := fun _ => by kernel_rfl
  v22 := fun _ => by kernel_rfl
  i22 := by kernel_rfl
  t25 := by kernel_rfl
  a25 := fun _ => by kernel_rfl
  z25 := fun _ => by kernel_rfl
  v25 := fun _ => by kernel_rfl
  i25 := by kernel_rfl
  t54 := by kernel_rfl
  a54 := fun _ => by kernel_rfl
  z54 := fun _ => by kernel_rfl
  g1 := by kernel_rfl
theorem tz_of (x : Nat) (hx : x < 18446744073709551616) (w : World) (hT : TabAt 0 Lib.deBruijn64tab w) : Calls Tryd.prog 40 #[.int .u64 x] w fun e w' => e = .returned (.int .i64 (Lib.ctz 64 x)) ∧ w' = w :=
  Any7.bits_TrailingZeros64 tzLays x hx w (fun _ => hT)
def tzTab : List Value := Lib.deBruijn64tab.map fun n => .int .u8 (n : Nat)
end Go.Proofs.YtgobbgpmdfnfhaaDoor
namespace Go.Proofs.YtgobbgpmdfnfhaaDoor
open Go Go.RowKit Gx
set_option linter.unusedVariables false
set_option linter.unusedSimpArgs false
def escT : List Nat := [18446744073709551615, 18446744073709551615, 18446744073709551615, 38685626227668133590599135, 174224571864154337936175315770260918108671, 681894286358730066931182878100344025087, 38685627380589638197445047, 324519172628520175026936906251215, 84455953899090565484675839848986311, 1224981314865241799, 9007199389285135, 16777453, 33777548976585695, 33571891, 3, 65663, 70377334374903, 4836312023335117671891071, 7, 4563447863, 495, 8237, 17179871943, 21, 17600776225523, 7283, 21, 8253, 270216106995095039, 5, 3, 4611756421804261135, 1965, 2097469, 151150317357045248950975, 283343141893812444997055, 1099645862107, 8053064447, 4077, 5, 21, 21, 4607, 262527, 2147497983, 3447, 141837536854109, 6, 8247, 19, 5, 19, 7, 589831, 2216203124991, 255, 123145302334671, 13, 119, 262259, 285, 66483, 66483, 16951, 135, 8205, 18085042400003069, 27, 563225913589811, 279181300349, 33555507, 1, 34426982653, 4611756387708440519, 19, 524317, 63, 137472507965, 255, 16883, 8396829, 18446744073709551615, 18446744073709551615, 18446744073709551615, 18446744073709551615, 18446744073709551615, 18446744073709551615, 18446744073709551615, 18446744073709551615, 18446744073709551615, 18446744073709551615, 18446744073709551615, 18446744073709551615, 18446744073709551615, 18446744073709551615, 18446744073709551615, 18446744073709551615, 18446744073709551615, 0, 18446744073709551615, 18446744073709551615, 18446744073709551615, 18446744073709551615, 18446744073709551615]
def escK (g : Nat) : Nat := escT.getD g 0
def extK (g : Nat) : Option (Array Value → Sem Value) := Bool.casesOn (motive := fun _ => Option (Array Value → Sem Value)) (Nat.beq g 82) none (some Extern.BytealgIndexByte.indexByte)
theorem extK_ok : ExtOK Tryd.prog extK := by
  intro g e h
  unfold extK at h
  cases hg : Nat.beq g 82 with
  | false => rw [hg] at h; cases h
  | true =>
    rw [hg] at h; injection h with h; subst h
    have hg' := Nat.eq_of_beq_eq_true hg; subst hg'
    exact run_callFunc_indexByte (fn := (Tryd.prog.funcs[82]?).getD default) (by kernel_rfl) (by kernel_rfl) (by kernel_rfl) (by kernel_rfl) (by kernel_rfl)
def orc0 (g : Nat) (avs : List AV) : Option AV := match avs with
  | [.v (.int .u64 (.ofNat x))] => Bool.casesOn (motive := fun _ => Option AV) (Nat.beq g 40) none (Bool.casesOn (motive := fun _ => Option AV) (Nat.blt x 18446744073709551616) none (some (.v (.int .i64 (Int.ofNat (Lib.ctz 64 x))))))
  | _ => none
theorem st_below {w0 w : World} (h : Below w0.heap.size w0 w) : St w0.heap.size w0 (fun _ => none) w [] := ⟨h, h.size, (fun _ _ e => by cases e), (fun _ _ e => by cases e), ⟨fun _ _ => False, fun i A hi => by simp at hi, fun i j hi => by simp at hi⟩⟩
theorem gr_below {w w' : World} (h : Below w.heap.size w w') : Gr w w' := ⟨h.os, h.tape, h.output, h.size, fun b hb _ => h.block b hb⟩
theorem orc0_ok (w : World) (tb : Block 0 tzTab w) : OrcOK Tryd.prog w.heap.size w orc0 := by
  intro g avs v h φ Vs w' hv hB
  unfold orc0 at h
  split at h
  · rename_i x
    cases hg : Nat.beq g 40 with
    | false => rw [hg] at h; cases h
    | true =>
      rw [hg] at h
      have hg' := Nat.eq_of_beq_eq_true hg; subst hg'
      cases hx : Nat.blt x 18446744073709551616 with
      | false => rw [hx] at h; cases h
      | true =>
        rw [hx] at h; injection h with h; subst h
        have hlt : x < 18446744073709551616 := Nat.le_of_ble_eq_true hx
        have e : Vs = [.int .u64 (x : Nat)] := by
          simp [AV.cl, AV.c] at hv
          exact hv.symm
        subst e
        refine (tz_of x hlt w' ?_).mono fun e w2 he => ?_
        · intro j hj
          have := (Block.st (st_below hB) tb) j (by simpa [tzTab] using hj)
          rw [this]
          simp [tzTab, hj]
        · obtain ⟨rfl, rfl⟩ := he
          exact ⟨_, rfl, rfl, Gr.refl _⟩
  · cases h
def isT : Option Value → Bool
  | some (.bool true) => true
  | _ => false
theorem of_isT : ∀ {o : Option Value}, isT o = true → o = some (.bool true)
  | some (.bool true), _ => rfl
def orcT (l : List Nat) (g : Nat) (avs : List AV) : Option AV := match avs with
  | [] => Bool.casesOn (motive := fun _ => Option AV) (l.any (Nat.beq g)) none (some (.v (.bool true)))
  | _ => orc0 g avs
theorem orcT_ok {l : List Nat} (w : World) (tb : Block 0 tzTab w) (h : ∀ g, g ∈ l → ∀ w', Block 0 tzTab w' → Calls Tryd.prog g #[] w' fun e w2 => e = .returned (.bool true) ∧ Below w'.heap.size w' w2) : OrcOK Tryd.prog w.heap.size w (orcT l) := by
  intro g avs v hv φ Vs w' hc hB
  unfold orcT at hv
  split at hv
  · cases ha : l.any (Nat.beq g) with
    | false => rw [ha] at hv; cases hv
    | true =>
      rw [ha] at hv; injection hv with hv; subst hv
      obtain ⟨g', h1, h2⟩ := List.any_eq_true.1 ha
      have := Nat.eq_of_beq_eq_true h2; subst this
      have e : Vs = [] := by simpa [AV.cl] using hc
      subst e
      exact (h g h1 w' (Block.st (st_below hB) tb)).mono fun e w2 he => ⟨_, he.1, rfl, gr_below he.2⟩
  · exact orc0_ok w tb g avs v hv φ Vs w' hc hB
theorem true_calls {l : List Nat} {f : Nat} (hl : ∀ g, g ∈ l → ∀ w', Block 0 tzTab w' → Calls Tryd.prog g #[] w' fun e w2 => e = .returned (.bool true) ∧ Below w'.heap.size w' w2) (h : isT (runA Tryd.prog escK extK (orcT l) 100000 f []) = true) (hb : callB Tryd.prog f = true) (hne : extK f = none) (w : World) (tb : Block 0 tzTab w) :
    Calls Tryd.prog f #[] w fun e w2 => e = .returned (.bool true) ∧ Below w.heap.size w w2 :=
  runA_ok (by kernel_rfl) extK_ok (of_isT h) rfl hb (orcT_ok w tb hl) hne
theorem true_st {f : Nat} {w : World} (h : Calls Tryd.prog f #[] w fun e w2 => e = .returned (.bool true) ∧ Below w.heap.size w w2) : Calls Tryd.prog f #[] w fun e w' => ∃ v, e = .returned v ∧ ∃ (hn : Ghost), St w.heap.size w hn w' [] ∧ v = .bool true :=
  h.mono fun e w2 he => ⟨_, he.1, fun _ => none, st_below he.2, rfl⟩
end Go.Proofs.YtgobbgpmdfnfhaaDoor
namespace Go.Proofs.YtgobbgpmdfnfhaaDoor
open Go Go.RowKit Gx
set_option linter.unusedVariables false
set_option linter.unusedSimpArgs false
theorem aw08_run : isT (runA Tryd.prog escK extK (orcT []) 100000 14 []) = true := by kernel_rfl
theorem aw08_true (w : World) (tb : Block 0 tzTab w) : Calls Tryd.prog 14 #[] w fun e w2 => e = .returned (.bool true) ∧ Below w.heap.size w w2 :=
  true_calls (fun _ h => by cases h) aw08_run (by kernel_rfl) (by kernel_rfl) w tb
end Go.Proofs.YtgobbgpmdfnfhaaDoor
namespace Go.Proofs.YtgobbgpmdfnfhaaDoor
open Go Go.RowKit Gx
set_option maxHeartbeats 3000000
set_option linter.unusedVariables false
set_option linter.unusedSimpArgs false
set_option maxRecDepth 8000
theorem spotsKnown_run : isT (runA Tryd.prog escK extK (orcT [14]) 100000 3 []) = true := by kernel_rfl
theorem spotsKnown_calls (w : World) (tb : Block 0 tzTab w) :
    Calls Tryd.prog 3 #[] w fun e w' => ∃ v, e = .returned v ∧ ∃ (hn : Ghost), St w.heap.size w hn w' [] ∧ v = .bool true :=
  true_st (true_calls (fun g h => by rw [List.mem_singleton] at h; subst h; exact fun w tb => aw08_true w tb) spotsKnown_run (by kernel_rfl) (by kernel_rfl) w tb)
end Go.Proofs.YtgobbgpmdfnfhaaDoor
namespace Gx
open Go Go.RowKit
set_option linter.unusedSimpArgs false
set_option linter.unusedSectionVars false
set_option linter.unusedVariables false
def Opens {α : Type} (P : Program) (k : Kd α) (t : TypeId) : Prop :=
  ∀ {H : Type} {enc : TypeId × Value → H} {w : World} {spare : Nat → Bool} {held : Bool} {fuel : Nat} {cs : List Value} {x : DataW H × List MemPlace}, DataW.trod enc P w 0 spare held fuel t cs = some x → ∃ m, k.rep (hp w) m cs
section
variable {P : Program} {t e : TypeId}
theorem inK_wf {k : IntKind} {n : Int} (h : (Lit.int k n).wf = true) : inK k n := by
  simp only [Lit.wf, Bool.and_eq_true, decide_eq_true_eq] at h
  exact h
theorem Opens.int {k : IntKind} (ht : P.underlying t = some (.int k)) : Opens P (Kd.int k) t := fun h => by
  obtain ⟨n, rfl, _, hw⟩ := DataW.trod_int ht h
  exact ⟨n, rfl, inK_wf hw⟩
theorem Opens.bool (ht : P.underlying t = some .bool) : Opens P Kd.bool t := fun h => by
  obtain ⟨b, rfl, _⟩ := DataW.trod_bool ht h
  exact ⟨b, rfl, trivial⟩
theorem Opens.string (ht : P.underlying t = some .string) : Opens P Kd.string t := fun h => by
  obtain ⟨s, rfl, _, hs⟩ := DataW.trod_string ht h
  exact ⟨s, rfl, hs⟩
theorem exists_list {α : Type} {Q : Nat → α → Prop} : ∀ (n : Nat), (∀ i, i < n → ∃ m, Q i m) → ∃ l : List α, l.length = n ∧ ∀ i m, l[i]? = some m → Q i m
  | 0, _ => ⟨[], rfl, fun i m h => by simp at h⟩
  | n + 1, h => by
    obtain ⟨l, hl, hq⟩ := exists_list n fun i hi => h i (by omega)
    obtain ⟨m, hm⟩ := h n (by omega)
    refine ⟨l ++ [m], by simp [hl], fun i y hy => ?_⟩
    rw [List.getElem?_append] at hy
    split at hy
    · exact hq i y hy
    · rename_i hi
      have e : i - l.length = 0 := by
        rcases Nat.eq_zero_or_pos (i - l.length) with h0 | h0
        · exact h0
        · rw [List.getElem?_eq_none (by simp; omega)] at hy; cases hy
      rw [e] at hy
      simp at hy
      subst hy
      have : i = n := by omega
      rw [this]; exact hm
theorem Opens.ints {k : IntKind} {n : Nat} (hn : 0 < n) (ht : P.underlying t = some (.array n e)) (he : P.underlying e = some (.int k)) (hc : P.cellsOf e = 1) (hct : P.cellsOf t = n) : Opens P (kInts k n hn) t := fun {H enc w spare held fuel cs x} h => by
  obtain ⟨xs, m, _, _, hl, hx, hel⟩ := DataW.trod_array ht h
  rw [hct] at hl
  have h1 : ∀ i, i < n → ∃ z : Int, cs[i]? = some (.int k z) ∧ inK k z := fun i hi => by
    have h2 := hel i hi
    rw [hc, Nat.mul_one, List.getElem?_eq_getElem (by omega)] at h2
    obtain ⟨z, hz, _, hw⟩ := DataW.trod_int he h2
    refine ⟨z, ?_, inK_wf hw⟩
    have h3 := congrArg (fun l : List Value => l[0]?) hz
    simpa [List.getElem?_take, List.getElem?_drop] using h3
  obtain ⟨l, hll, hq⟩ := exists_list n h1
  refine ⟨l, ?_, hll, fun z hz => ?_⟩
  · apply List.ext_getElem?
    intro i
    rw [encInts, List.getElem?_map]
    by_cases hi : i < n
    · have h4 := hq i (l[i]'(by omega)) (List.getElem?_eq_getElem _)
      rw [h4.1, List.getElem?_eq_getElem (by omega)]; rfl
    · rw [List.getElem?_eq_none (by omega), List.getElem?_eq_none (by omega)]; rfl
  · obtain ⟨i, hi⟩ := List.mem_iff_getElem?.1 hz
    exact (hq i z hi).2
theorem Opens.set (ht : P.underlying t = some (.array 4 e)) (he : P.underlying e = some (.int .u64)) (hc : P.cellsOf e = 1) (hct : P.cellsOf t = 4) : Opens P kSet t := fun h => by
  obtain ⟨l, hl, hok⟩ := Opens.ints (n := 4) (by omega) ht he hc hct h
  exact ⟨ofWords l, by rw [hl, encSet_of hok], trivial⟩
theorem Opens.slice {α : Type} {k : Kd α} (ht : P.underlying t = some (.slice e)) (hc : P.cellsOf e = k.sz) (ho : Opens P k e) : Opens P k.slice t := fun {H enc w spare held fuel cs x} h => by
  rcases DataW.trod_slice ht h with ⟨rfl, _⟩ | ⟨a, len, cap, elems, rest, n, _, rfl, _, _, hl, hm, hlen, hel, _, _⟩
  · exact ⟨[], none, 0, rfl, Nat.le_refl _, by simp [maxLen], fun hne => (hne rfl).elim⟩
  · rw [hc] at hel
    have h1 : ∀ i, i < len → ∃ m, ∃ seg, k.rep (hp w) m seg ∧ ∀ j v, seg[j]? = some v → gcell (hp w) (a.add (i * k.sz + j)) = some v := fun i hi => by
      have h2 := hel i hi
      rw [List.getElem?_eq_getElem (by omega)] at h2
      obtain ⟨seg, hseg, hd⟩ := Option.bind_eq_some_iff.1 h2
      obtain ⟨m, hr⟩ := ho hd
      refine ⟨m, seg, hr, fun j v hj => ?_⟩
      obtain ⟨_, hlen2, hcell⟩ := World.cells?_some hseg
      have hjl : j < k.sz := by
        have := (List.getElem?_eq_some_iff.1 hj).1
        rw [k.len hr] at this; exact this
      have h5 := hcell j hjl
      rw [hj] at h5
      rw [Addr.add_add] at h5
      show gcell (hp w) _ = _
      unfold gcell hp
      unfold World.cell? at h5
      exact h5
    obtain ⟨l, hll, hq⟩ := exists_list len h1
    refine ⟨l, some a, cap, by rw [hll], by omega, hm, fun _ => ⟨a, rfl, hq⟩⟩
end
end Gx
namespace Gx
open Go Go.RowKit
set_option linter.unusedSimpArgs false
set_option linter.unusedSectionVars false
set_option linter.unusedVariables false
section
variable {P : Program} {t : TypeId}
theorem trod_field {H : Type} {enc : TypeId × Value → H} {w : World} {spare : Nat → Bool} {held : Bool} {fuel : Nat} {cs : List Value} {x : DataW H × List MemPlace} {α : Type} {k : Kd α} {q o ft : Nat} (hf : zaf P t q = some (o, ft)) (hc : P.cellsOf ft = k.sz) (ho : Opens P k ft) (h : DataW.trod enc P w 0 spare held fuel t cs = some x) : ∃ m, k.rep (hp w) m ((cs.drop o).take k.sz) := by
  obtain ⟨fs, fd, hu, hq, rfl, rfl⟩ := fieldInfo_parts hf
  obtain ⟨xs, n, _, _, _, hl, hp⟩ := DataW.trod_struct hu h
  have h1 := hp q fd hq
  have hlt : q < fs.size := (Array.getElem?_eq_some_iff.1 hq).1
  rw [hc, List.getElem?_eq_getElem (by omega)] at h1
  exact ho h1
theorem trod_len {H : Type} {enc : TypeId × Value → H} {w : World} {spare : Nat → Bool} {held : Bool} {fuel : Nat} {cs : List Value} {x : DataW H × List MemPlace} {q o ft : Nat} (hf : zaf P t q = some (o, ft)) (h : DataW.trod enc P w 0 spare held fuel t cs = some x) : cs.length = P.cellsOf t := by
  obtain ⟨fs, fd, hu, hq, rfl, rfl⟩ := fieldInfo_parts hf
  obtain ⟨xs, n, _, _, hl, _, _⟩ := DataW.trod_struct hu h
  exact hl
theorem Opens.spot {a b : TypeId} (h0 : zaf P t 0 = some (0, a)) (h1 : zaf P t 1 = some (4, b)) (hc : P.cellsOf t = 5) (ha : P.cellsOf a = 4) (hb : P.cellsOf b = 1) (oa : Opens P kSet a) (ob : Opens P (Kd.int .u8) b) : Opens P kSpot t := fun {H enc w spare held fuel cs x} h => by
  obtain ⟨s, e0, _⟩ := trod_field h0 ha oa h
  obtain ⟨n, e1, hn⟩ := trod_field h1 hb ob h
  have hl := trod_len h0 h
  rw [hc] at hl
  refine ⟨⟨s, n⟩, ?_, hn⟩
  have e2 : cs = (cs.drop 0).take 4 ++ (cs.drop 4).take 1 := by
    rw [List.drop_zero, List.take_of_length_le (l := cs.drop 4) (by simp; omega), List.take_append_drop]
  rw [e2]
  show (cs.drop 0).take kSet.sz ++ (cs.drop 4).take (Kd.int .u8).sz = _
  rw [e0, e1]; rfl
end
end Gx
namespace Go.Proofs.YtgobbgpmdfnfhaaDoor
open Go Go.ChangeShapes Go.WideShapes Go.ChangeAt Go.RowKit Gx
set_option linter.unusedVariables false
theorem own : ownKnob Tryd.prog.godebug = none := by kernel_rfl
def laid : List (String × DataW Unit) := [("math/bits.deBruijn64tab", Rows.laid_math_bits_deBruijn64tab)]
theorem gTab : Tryd.prog.globalNamed "math/bits.deBruijn64tab" = some 0 := by kernel_rfl
theorem tTab : (Tryd.prog.globals[0]?).map (·.type) = some 110 := by kernel_rfl
theorem door_met (os : Os) (args : Array Value) : laidMetH Tryd.prog laid ((World.doorLaid Tryd.prog 4000 os).forCall (fun _ _ => 0) ⟨#[], args, []⟩).memory :=
  laidMetH_of_parts3 (fuel := 8) (laidMet_of_run' 8 (by kernel_rfl) (by kernel_rfl)) (by kernel_rfl) (by kernel_rfl)
set_option maxRecDepth 20000 in
theorem tab_of_laid {W : World} (h : laidMetH Tryd.prog laid W) : Block 0 tzTab W := by
  rw [MakeChecks.laidMetH_plain _ _ _ (by kernel_rfl)] at h
  obtain ⟨ps, ⟨g0, t0, cs0, f0, p0, q0, hg0, ht0, hv0, hd0, _⟩, _, _⟩ := h
  obtain rfl := Option.some.inj (gTab.symm.trans hg0)
  obtain rfl := Option.some.inj (tTab.symm.trans ht0)
  obtain ⟨xs, m, _, hx, hl, hn, hel⟩ := DataW.trod_array (n := 64) (e := 5) (by kernel_rfl) hd0
  have c5 : Tryd.prog.cellsOf 5 = 1 := by kernel_rfl
  have c70 : Tryd.prog.cellsOf 110 = 64 := by kernel_rfl
  rw [c70] at hl
  intro j hj
  have hj64 : j < 64 := hj
  rw [World.var?_cell hg0 hv0 j]
  have h2 := hel j hj64
  rw [c5, Nat.mul_one, List.getElem?_eq_getElem (by omega)] at h2
  obtain ⟨z, hz, hzx, _⟩ := DataW.trod_int (k := .u8) (by kernel_rfl) h2
  have h3 := congrArg (fun l : List Value => l[0]?) hz
  simp only [List.getElem?_take, List.getElem?_drop, List.getElem?_cons_zero, Nat.add_zero] at h3
  have h4 : cs0[j]? = some (.int .u8 z) := by rw [← Array.getElem?_toList]; simpa using h3
  rw [h4]
  simp only [Prod.mk.injEq] at hx
  have h6 : (xs.map (·.1))[j]? = some (.lit (.int .u8 z)) := by rw [List.getElem?_map, List.getElem?_eq_getElem (by omega), Option.map_some, hzx]
  have h7 : Rows.laid_math_bits_deBruijn64tab (H := Unit) = .agg (tzTab.map fun v => match v with | .int k n => .lit (.int k n) | _ => .nil) := by kernel_rfl
  rw [h7] at hx
  injection hx.1 with h8
  rw [← h8] at h6
  have h9 : ∀ j, j < 64 → ∃ n, tzTab[j]? = some (.int .u8 n) := fun j hj => ⟨_, by unfold tzTab; rw [List.getElem?_map, List.getElem?_eq_getElem (by exact hj)]; rfl⟩
  obtain ⟨n, hn9⟩ := h9 j hj64
  rw [List.getElem?_map, hn9] at h6
  simp at h6
  rw [hn9, h6]
end Go.Proofs.YtgobbgpmdfnfhaaDoor
