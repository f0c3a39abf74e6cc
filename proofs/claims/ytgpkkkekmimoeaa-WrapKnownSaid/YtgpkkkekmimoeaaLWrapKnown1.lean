/- My own library for walks through the translated code, and the walks of the functions that the law WrapKnown comes to, part 2; no conditions but those that each contract tells. -/
import Derived.Defers
import Derived.Test.YtgpkkkekmimoeaaProg
import Derived.Laws.StandIn
import Derived.KernelRfl
import Derived.ProofKit
import Derived.OpenShut
import Derived.ShutString
import Derived.ChangeOld
import Derived.Below
import Derived.DataElems
import Derived.Test.YtgpkkkekmimoeaaRows
import Derived.Stop.Joined
import Derived.MakeChecks
import Derived.Test.YtgpkkkekmimoeaaLWrapKnown0
namespace Gx
open Go Go.RowKit
set_option linter.unusedSimpArgs false
set_option linter.unusedVariables false
section
variable {P : Program} {base : Nat} {w0 : World} {φ φ' : Ph} {g g' : HF} {c c' : Nat} {w w' : World}
theorem Rel.part (R : Rel base w0 φ g w) {g1 : HF} (h : ∀ b, g1 b ≠ none → g b = g1 b) : Rel base w0 φ g1 w := by
  have k : ∀ b, g1 b ≠ none → g b ≠ none := fun b hb => by rw [h b hb]; exact hb
  exact ⟨fun b o ho => R.obj b o (by rw [h b (by rw [ho]; simp), ho]), fun b b' x y y' h1 h2 h3 h4 => R.inj b b' x y y' (k b h1) (k b' h2) h3 h4, fun b x y h1 h2 => R.low b x y (k b h1) h2, R.below, R.bsz⟩
variable {call : CallF} {n : Nat} {ops : Array Oper} {Q : Exit → Act → World → Prop}
theorem looks_op {o : Oper} : ∀ x ∈ o.op.operands, opS (fun t => t ∈ o.looksAt ops) x := fun x hx => by
  cases x with
  | tmp t => exact List.mem_append_left _ (List.mem_filterMap.2 ⟨.tmp t, by simpa using hx, rfl⟩)
  | _ => trivial
theorem looks_guard {o oj : Oper} {j d : Nat} {want : Bool} (hg : o.guard = some (j, want)) (hj : ops.toList[j]? = some oj) (hd : oj.dst = some d) : d ∈ o.looksAt ops := by
  unfold Oper.looksAt
  refine List.mem_append_right _ ?_
  have hj' : ops[j]? = some oj := by simpa using hj
  rw [hg]; simp [hj', hd]
theorem guard_fits {ρt : En} {ρ : Nat → Option AV} {a : Act} {o : Oper} {q : Bool} (hg : guardA ops.toList ρt o = some q) (hl : ∀ t ∈ o.looksAt ops, ρ t = ρt.get t) (he : ERel φ ρ (en a) (fun _ => True)) : Region.wanted o (yielded ops a.tmps) = q :=
  guardA_ok (ρ := ρ) hg (fun j want oj d v h1 h2 h3 h4 => he d v trivial (by rw [hl d (looks_guard h1 h2 h3)]; exact h4))
theorem step_ok (hcall : CallOK P base w0 call) {ρt : En} {H H1 : Tr BO} {i c c' : Nat} {o : Oper} {F : List Nat} {v : AV} {r : OR} (ho : ops[i]? = some o) (hg : guardA ops.toList ρt o = some true) (hF : allK F = true)
    (hop : opA P call ρt (zah H F) c o = some r) (hr : r = .val v H1 c' ∨ (r = .skip H1 c' ∧ v = undA)) (hle : c ≤ c') (hdst : ∀ d, o.dst = some d → d < n) :
    SOK P base w0 n ops Q (mkS P ⟨i, F, cond (readOp o.op) [] F, c, c', none, zah H F, H1⟩ ρt.get o v) := by
  intro φ g ρ a w K hfit R he hn hf hk
  obtain ⟨hf1', hf2⟩ := hfit
  have hf1 : ∀ b ∈ F, g b = (zah H F).get b := hf1'
  have hf2 : ∀ t ∈ o.looksAt ops, ρ t = ρt.get t := hf2
  have hf : Fre φ c c' := hf
  have hon : ∀ b, (zah H F).get b ≠ none → b ∈ F := fun b hb => by
    rw [onlyT_get b hF] at hb
    by_cases e : b ∈ F
    · exact e
    · rw [if_neg e] at hb; exact absurd rfl hb
  have hsub : ∀ b, (zah H F).get b ≠ none → g b = (zah H F).get b := fun b hb => hf1 b (hon b hb)
  have R1 := R.part hsub
  have hfree : ∀ b, g b ≠ none → ¬ (c ≤ b ∧ b < c') := fun b hb hr => by
    cases hgb : g b with
    | none => exact hb hgb
    | some o => obtain ⟨x, cap, h1, _⟩ := R.obj b o hgb; rw [hf b hr.1 hr.2] at h1; cases h1
  -- what the small step does is done in all of memory
  have lift : ∀ φ' w', Tran base w0 φ (zah H F).get c w φ' H1.get c' w' → Tran base w0 φ g c w φ' (SAct.eff (mkS P ⟨i, F, cond (readOp o.op) [] F, c, c', none, zah H F, H1⟩ ρt.get o v) g) c' w' := fun φ' w' hT => by
    unfold SAct.eff mkS
    refine Tran.frame (g1 := (zah H F).get) R hsub hT hf (fun b hb hX => ?_) (fun b hb h0 hX => ?_) (fun b hb hX => ?_) (fun b h1 h2 => .inr ⟨h1, h2⟩)
    · have hnr : ¬ (c ≤ b ∧ b < c') := fun h => hX (.inr h)
      rcases hT.keys b hb with h | h
      · cases hro : readOp o.op with
        | true =>
          obtain ⟨v2, hv2⟩ := opA_read hro hop
          have hH : H1 = zah H F := by
            rcases hr with e | ⟨e, _⟩
            · rw [hv2] at e; injection e with _ e _; exact e.symm
            · rw [hv2] at e; cases e
          rw [hH]; exact (hsub b h).symm
        | false =>
          exfalso; apply hX; left
          simp only [hro, cond_false]; exact hon b h
      · exact absurd h hnr
    · rcases hX with hX | hX
      · cases hro : readOp o.op with
        | true => simp [hro] at hX
        | false =>
          simp only [hro, cond_false] at hX
          rw [hf1 b hX] at hb; exact hb h0
      · exact hfree b hb hX
    · cases hro : readOp o.op with
      | true =>
        obtain ⟨v2, hv2⟩ := opA_read hro hop
        have hH : H1 = zah H F := by
          rcases hr with e | ⟨e, _⟩
          · rw [hv2] at e; injection e with _ e _; exact e.symm
          · rw [hv2] at e; cases e
        rw [hH]; exact hb
      | false =>
        exfalso; apply hX; left
        simp only [hro, cond_false]; exact hon b hb
  have hwant := guard_fits hg hf2 he
  show wpOp P ops Q i K a w
  unfold wpOp
  simp only [ho, hwant, if_true]
  left
  have hρ1 : ERel φ ρt.get (en a) (fun t => t ∈ o.looksAt ops) := fun t u hS ht => he t u trivial (by rw [hf2 t hS]; exact ht)
  have hle2 : ∀ {φ' w'}, Tran base w0 φ (zah H F).get c w φ' H1.get c' w' → PLe φ φ' := fun hT => hT.le hf
  have hdf : ∀ V, (a.put o.dst V).defers = a.defers := fun V => by cases o.dst <;> rfl
  rcases hr with rfl | ⟨rfl, rfl⟩
  · refine opA_sound hcall hop hρ1 looks_op R1 hf ?_
    intro φ' w' V hT hv
    obtain ⟨e1, e2⟩ := erel_upd (dst := o.dst) he (hle2 hT) hn hdst hv
    exact hk φ' _ w' (lift φ' w' hT) e1 e2 (hdf V)
  · refine opA_sound hcall hop hρ1 looks_op R1 hf ?_
    intro φ' w' hT
    obtain ⟨e1, e2⟩ := erel_upd (dst := o.dst) he (hle2 hT) hn hdst (undA_c φ')
    exact hk φ' _ w' (lift φ' w' hT) e1 e2 (hdf undef)
theorem off_ok {ρt : En} {H : Tr BO} {i c : Nat} {o : Oper} {W : List Nat} (ho : ops[i]? = some o) (hg : guardA ops.toList ρt o = some false) (hW : W = []) (hdst : ∀ d, o.dst = some d → d < n) :
    SOK P base w0 n ops Q (mkS P ⟨i, [], W, c, c, none, zah H [], H⟩ ρt.get o undA) := by
  intro φ g ρ a w K hfit R he hn hf hk
  obtain ⟨_, hf2⟩ := hfit
  have hf2 : ∀ t ∈ o.looksAt ops, ρ t = ρt.get t := hf2
  have hwant := guard_fits hg hf2 he
  show wpOp P ops Q i K a w
  unfold wpOp
  simp only [ho, hwant, Bool.false_eq_true, if_false]
  obtain ⟨e1, e2⟩ := erel_upd (dst := o.dst) he (PLe.refl φ) hn hdst (undA_c φ)
  have heff : SAct.eff (mkS P ⟨i, [], W, c, c, none, zah H [], H⟩ ρt.get o undA) g = g := by
    funext b
    unfold SAct.eff mrg mkS
    rw [if_neg]
    subst hW
    rintro (h | h)
    · cases h
    · simp only at h; omega
  refine hk φ _ w (by rw [heff]; exact Tran.refl R c) e1 e2 (by cases o.dst <;> rfl)
theorem load_ok (hcall : CallOK P base w0 call) {ρt : En} {H H1 : Tr BO} {i c c' : Nat} {o : Oper} {F : List Nat} {v : AV} {q : Nat × Nat × Nat × AV} (ho : ops[i]? = some o) (hg : guardA ops.toList ρt o = some true) (hF : allK F = true)
    (hop : opA P call ρt (zah H F) c o = some (.val v H1 c')) (hq : ldOf ρt o v = some q) (hdst : ∀ d, o.dst = some d → d < n) :
    SOK P base w0 n ops Q (mkS P ⟨i, F, cond (readOp o.op) [] F, c, c', some q, zah H F, H1⟩ ρt.get o v) := by
  unfold ldOf at hq
  split at hq
  · rename_i T x hT
    split at hq
    · rename_i b off hx
      injection hq with hq; subst hq
      have hc : c' = c := by
        unfold opA at hop
        rw [hT] at hop
        simp only [aLoad, hx] at hop
        obtain ⟨v2, _, e⟩ := zaj hop
        cases e; rfl
      subst hc
      intro φ g ρ a w K hfit R he hn hf hk
      obtain ⟨hf1', hf2⟩ := hfit
      have hf1 : b ∈ F ∧ ldG P g T b off = some v := hf1'
      have hb : smallK b = true := by
        have : ∀ {l : List Nat}, allK l = true → b ∈ l → smallK b = true := fun {l} => by
          induction l with
          | nil => intro _ h; cases h
          | cons z l ih =>
            intro h1 h2
            unfold allK at h1; rw [Bool.and_eq_true] at h1
            rcases List.mem_cons.1 h2 with e | e
            · subst e; exact h1.1
            · exact ih h1.2 e
        exact this hF hf1.1
      have hF' : allK [b] = true := by unfold allK; rw [hb]; rfl
      have hget : ((Tr.nil : Tr BO).put b (g b)).get b = g b := by rw [Tr.get_put _ b hb, if_pos rfl]
      have hon : (zah ((Tr.nil : Tr BO).put b (g b)) [b]).get b = g b := by rw [onlyT_get b hF', if_pos (by simp), hget]
      have hop' : opA P call ρt (zah ((Tr.nil : Tr BO).put b (g b)) [b]) c' o = some (.val v (zah ((Tr.nil : Tr BO).put b (g b)) [b]) c') := by
        unfold opA
        rw [hT]
        simp only [aLoad, hx]
        rw [ldA_G, ldG_at (g' := g) hon, hf1.2]
        rfl
      have hs := step_ok (Q := Q) hcall ho hg hF' hop' (.inl rfl) (Nat.le_refl _) hdst
      have hrd : readOp o.op = true := by rw [hT]; rfl
      refine hs φ g ρ a w K ⟨?_, hf2⟩ R he hn hf fun φ' a' w' hT' h1 h2 h3 => ?_
      · show ∀ b' ∈ [b], g b' = _
        intro b' hb'
        rw [List.mem_singleton] at hb'; subst hb'
        exact hon.symm
      · refine hk φ' a' w' ?_ h1 h2 h3
        have z : ∀ {F0 : List Nat} {H0 H2 : Tr BO} {ld : Option (Nat × Nat × Nat × AV)}, SAct.eff (mkS P ⟨i, F0, cond (readOp o.op) [] F0, c', c', ld, H0, H2⟩ ρt.get o v) g = g := fun {F0 H0 H2 ld} => by
          refine eff_id (fun b2 hb2 => ?_) g
          rcases hb2 with h | h
          · simp only [mkS, hrd, cond_true] at h; cases h
          · simp only [mkS] at h; omega
        rw [z] at hT' ⊢
        exact hT'
    · cases hq
  · cases hq
theorem freeB_ok {ol : List Oper} {N : Nat} {y : AC} : ∀ {acs : List AC}, freeB P ol N y acs = true → ∀ x ∈ acs, ncC P x y = true ∨ ordB ol N y.i x.i = true
  | [], _, x, hx => by cases hx
  | z :: l, h, x, hx => by
    unfold freeB at h; rw [Bool.and_eq_true, Bool.or_eq_true] at h
    rcases List.mem_cons.1 hx with e | e
    · subst e; exact h.1
    · exact freeB_ok h.2 x e
theorem mrg_eq {H H1 : Tr BO} {L W : List Nat} {c c' : Nat} (ac : AC) (hac : ac.W = W ∧ ac.c0 = c ∧ ac.c1 = c') (hle : c ≤ c') (hW : allK W = true) (hR : allK (rangeL c (c' - c)) = true) : (mergeT H H1 (W ++ rangeL c (c' - c))).get = mrg H.get H1.get ac.X := by
  obtain ⟨e1, e2, e3⟩ := hac
  have hall : ∀ (l m : List Nat), allK l = true → allK m = true → allK (l ++ m) = true := fun l => by
    induction l with
    | nil => intro m _ h; exact h
    | cons x l ih =>
      intro m h1 h2
      rw [List.cons_append]
      unfold allK at h1 ⊢
      rw [Bool.and_eq_true] at h1 ⊢
      exact ⟨h1.1, ih m h1.2 h2⟩
  funext b
  rw [mergeT_get b (hall _ _ hW hR)]
  unfold mrg
  have : b ∈ W ++ rangeL c (c' - c) ↔ ac.X b := by
    unfold AC.X
    rw [List.mem_append, mem_rangeL, e1, e2, e3, show c + (c' - c) = c' by omega]
  by_cases h : b ∈ W ++ rangeL c (c' - c)
  · rw [if_pos h, if_pos (this.1 h)]
  · rw [if_neg h, if_neg (fun h2 => h (this.2 h2))]
theorem ldOf_fit {ρt : En} {H H1 : Tr BO} {i c c' : Nat} {o : Oper} {v : AV} {q : Nat × Nat × Nat × AV} {W : List Nat} (hF : allK (fpA ρt H o) = true)
    (hop : opA P call ρt (zah H (fpA ρt H o)) c o = some (.val v H1 c')) (hq : ldOf ρt o v = some q) : fitOf P ⟨i, fpA ρt H o, W, c, c', some q, zah H (fpA ρt H o), H1⟩ H.get := by
  unfold ldOf at hq
  split at hq
  · rename_i T x hT
    split at hq
    · rename_i b off hx
      injection hq with hq; subst hq
      unfold opA at hop
      rw [hT] at hop
      simp only [aLoad, hx] at hop
      obtain ⟨v2, h1, e⟩ := zaj hop
      injection e with e _ _; subst e
      have hb : b ∈ fpA ρt H o := by
        unfold fpA; rw [hT]; simp only [nmO, hx]; unfold AV.names; simp
      refine ⟨hb, ?_⟩
      rw [ldA_G] at h1
      exact (ldG_at (g := H.get) (g' := (zah H (fpA ρt H o)).get) (by rw [onlyT_get b hF, if_pos hb])).trans h1
    · cases hq
  · cases hq
theorem drA_chain (hcall : CallOK P base w0 call) {N : Nat} {out : En × Tr BO × Nat} : ∀ (r : List Oper) (i : Nat) (acs : List AC) (ρ : En) (H : Tr BO) (c : Nat), (∀ k, r[k]? = ops[i + k]?) → (∀ x ∈ acs, x.c1 ≤ c) → drA P call n ops.toList N r i acs ρ H c = some out →
    ∃ L : List SAct, AChain ops L H.get ρ.get out.2.1.get out.1.get ∧ L.map (fun x => x.ac.i) = List.range' i r.length ∧ (∀ x ∈ L, ops[x.ac.i]? = some x.o ∧ SOK P base w0 n ops Q x ∧ c ≤ x.ac.c0 ∧ x.ac.c0 ≤ x.ac.c1 ∧ x.ac.c1 ≤ out.2.2) ∧
      L.Pairwise (fun x y => x.ac.c1 ≤ y.ac.c0) ∧ L.Pairwise (fun x y => MayM x y ∨ ordB ops.toList N y.ac.i x.ac.i = true) ∧ (∀ x ∈ L, ∀ z ∈ acs, (∀ ins o v, MayM (mkS P z ins o v) x) ∨ ordB ops.toList N x.ac.i z.i = true) := by
  intro r
  induction r with
  | nil =>
    intro i acs ρ H c hr hacs h
    unfold drA at h; injection h with h; subst h
    exact ⟨[], ⟨rfl, rfl⟩, rfl, (fun x hx => by cases hx), List.Pairwise.nil, List.Pairwise.nil, (fun x hx => by cases hx)⟩
  | cons o r ih =>
    intro i acs ρ H c hr hacs h
    have ho : ops[i]? = some o := by have := hr 0; simpa using this.symm
    have hr' : ∀ k, r[k]? = ops[i + 1 + k]? := fun k => by have := hr (k + 1); rw [show i + 1 + k = i + (k + 1) by omega, ← this]; simp
    have stp : ∀ ld F v H1 c', drStep P ld (zah H F) n ops.toList N i acs ρ H c o F v H1 c' (drA P call n ops.toList N r (i + 1)) = some out →
        (c ≤ c' → (∀ d, o.dst = some d → d < n) → SOK P base w0 n ops Q (mkS P ⟨i, F, cond (readOp o.op) [] F, c, c', ld, zah H F, H1⟩ ρ.get o v)) → allK F = true → fitOf P ⟨i, F, cond (readOp o.op) [] F, c, c', ld, zah H F, H1⟩ H.get →
        ∃ L : List SAct, AChain ops L H.get ρ.get out.2.1.get out.1.get ∧ L.map (fun x => x.ac.i) = List.range' i (o :: r).length ∧ (∀ x ∈ L, ops[x.ac.i]? = some x.o ∧ SOK P base w0 n ops Q x ∧ c ≤ x.ac.c0 ∧ x.ac.c0 ≤ x.ac.c1 ∧ x.ac.c1 ≤ out.2.2) ∧
      L.Pairwise (fun x y => x.ac.c1 ≤ y.ac.c0) ∧ L.Pairwise (fun x y => MayM x y ∨ ordB ops.toList N y.ac.i x.ac.i = true) ∧ (∀ x ∈ L, ∀ z ∈ acs, (∀ ins o v, MayM (mkS P z ins o v) x) ∨ ordB ops.toList N x.ac.i z.i = true) := by
      intro ld F v H1 c' h hS hF hfit
      unfold drStep at h
      simp only at h
      split at h
      · rename_i hc
        simp only [Bool.and_eq_true] at hc
        obtain ⟨h1, h2, h3, h4⟩ := hc
        have hle := Nat.le_of_ble_eq_true h1
        split at h
        · rename_i ρ' hp
          obtain ⟨e1, e2⟩ := putO_get hp
          have hmono := drA_mono _ _ _ _ _ _ h
          obtain ⟨L, q1, q2, q3, q4, q5, q6⟩ := ih (i + 1) _ ρ' _ c' hr' (fun x hx => by
            rcases List.mem_cons.1 hx with e | e
            · subst e; exact Nat.le_refl _
            · exact Nat.le_trans (hacs x e) hle) h
          refine ⟨mkS P ⟨i, F, cond (readOp o.op) [] F, c, c', ld, zah H F, H1⟩ ρ.get o v :: L, ⟨⟨hfit, fun t _ => rfl⟩, ?_⟩, ?_, fun x hx => ?_, List.pairwise_cons.2 ⟨fun x hx => (q3 x hx).2.2.1, q4⟩, List.pairwise_cons.2 ⟨fun x hx => (q6 x hx (⟨i, F, cond (readOp o.op) [] F, c, c', ld, zah H F, H1⟩ : AC) (by simp)).imp (fun h => h _ _ _) id, q5⟩, fun x hx z hz => ?_⟩
          · have : SAct.eff (mkS P ⟨i, F, cond (readOp o.op) [] F, c, c', ld, zah H F, H1⟩ ρ.get o v) H.get = (mergeT H H1 (cond (readOp o.op) [] F ++ rangeL c (c' - c))).get := (mrg_eq (L := []) _ ⟨rfl, rfl, rfl⟩ hle h2 h3).symm
            rw [this]
            show AChain ops L _ (updA ρ.get o.dst v) _ _
            rw [← e1]; exact q1
          · rw [List.map_cons, q2, List.length_cons, List.range'_succ]; rfl
          · rcases List.mem_cons.1 hx with e | e
            · subst e; exact ⟨ho, hS hle e2, Nat.le_refl _, hle, hmono⟩
            · obtain ⟨a1, a2, a3, a4, a5⟩ := q3 x e
              exact ⟨a1, a2, Nat.le_trans hle a3, a4, a5⟩
          · rcases List.mem_cons.1 hx with e | e
            · subst e
              rcases freeB_ok h4 z hz with h5 | h5
              · exact .inl fun ins o2 v2 => ncC_ok h5 (hacs z hz) ..
              · exact .inr h5
            · exact q6 x e z (List.mem_cons_of_mem _ hz)
        · cases h
      · cases h
    unfold drA at h
    split at h
    · cases h
    · rename_i hg
      refine stp none [] undA H c h (fun _ hd => ?_) rfl (fun b hb => by cases hb)
      exact off_ok ho hg (by cases readOp o.op <;> rfl) hd
    · rename_i hg
      split at h
      · rename_i hF
        split at h
        · rename_i v H1 c' hop
          rw [forceV_eq] at h
          cases hq : ldOf ρ o v with
          | none =>
            rw [hq] at h
            exact stp none _ v H1 c' h (fun hle hd => step_ok hcall ho hg hF hop (.inl rfl) hle hd) hF (fun b hb => by simp only; rw [onlyT_get b hF, if_pos hb])
          | some q =>
            rw [hq] at h
            exact stp (some q) _ v H1 c' h (fun hle hd => load_ok hcall ho hg hF hop hq hd) hF (ldOf_fit hF hop hq)
        · rename_i H1 c' hop
          exact stp none _ undA H1 c' h (fun hle hd => step_ok hcall ho hg hF hop (.inr ⟨rfl, rfl⟩) hle hd) hF (fun b hb => by simp only; rw [onlyT_get b hF, if_pos hb])
        · cases h
      · cases h
def statP (ops : Array Oper) (ol : List Oper) (N : Nat) (o : Oper) (j : Nat) : Nat → Bool
  | 0 => true
  | i + 1 => (match ol[i]? with
    | some oi => oi.apart ops o || ordB ol N j i
    | none => true) && statP ops ol N o j i
def statB (ops : Array Oper) (ol : List Oper) (N : Nat) : List Oper → Nat → Bool
  | [], _ => true
  | o :: r, j => (o.after.toList.all fun e => !(Region.binds .any e) || Nat.blt e.on j) && (statP ops ol N o j j && statB ops ol N r (j + 1))
theorem statP_ok {N : Nat} {o : Oper} {j : Nat} : ∀ {i k : Nat} {oi : Oper}, statP ops ops.toList N o j i = true → k < i → ops[k]? = some oi → oi.apart ops o = true ∨ ordB ops.toList N j k = true
  | 0, k, oi, _, hk, _ => by omega
  | i + 1, k, oi, h, hk, ho => by
    unfold statP at h; rw [Bool.and_eq_true] at h
    by_cases e : k = i
    · subst e
      have ho' : ops.toList[k]? = some oi := by simpa using ho
      rw [ho'] at h; simp only at h; rw [Bool.or_eq_true] at h; exact h.1
    · exact statP_ok h.2 (by omega) ho
theorem statB_ok {N : Nat} : ∀ {r : List Oper} {i : Nat}, statB ops ops.toList N r i = true → (∀ k, r[k]? = ops[i + k]?) → ∀ j o, i ≤ j → ops[j]? = some o → (∀ e ∈ o.after, Region.binds .any e = true → e.on < j) ∧ ∀ k oi, k < j → ops[k]? = some oi → oi.apart ops o = true ∨ ordB ops.toList N j k = true
  | [], i, _, hr, j, o, hij, ho => by
    have := hr (j - i); rw [show i + (j - i) = j by omega, ho] at this; simp at this
  | x :: r, i, h, hr, j, o, hij, ho => by
    unfold statB at h; simp only [Bool.and_eq_true] at h
    by_cases e : j = i
    · subst e
      have h0 := hr 0
      simp only [List.getElem?_cons_zero, Nat.add_zero, ho, Option.some.injEq] at h0
      subst h0
      refine ⟨fun e he hb => ?_, fun k oi hk hoi => statP_ok h.2.1 hk hoi⟩
      have := List.all_eq_true.1 h.1 e (by simpa using he)
      rw [hb] at this
      simpa [Nat.blt_eq] using this
    · exact statB_ok h.2.2 (fun k => by have := hr (k + 1); rw [show i + 1 + k = i + (k + 1) by omega, ← this]; simp) j o (by omega) ho
theorem drawn_sound (hcall : CallOK P base w0 call) (hm : P.follows .mixedOrders = true) {id N : Nat} {ρ : En} {H : Tr BO} {c : Nat} {df : List DF} {out : En × Tr BO × Nat} {a : Act} (hst : statB ops ops.toList N ops.toList 0 = true) (h : drA P call n ops.toList N ops.toList 0 [] ρ H c = some out)
    (S : SRel base w0 φ n ρ H df a w) (hf : Fre φ c out.2.2) (hk : ∀ φ' a' w', Tran base w0 φ H.get c w φ' out.2.1.get out.2.2 w' → SRel base w0 φ' n out.1 out.2.1 df a' w' → Q .normal a' w') : (Code.region id ops true).wp P Q a w := by
  refine wp_region_any hm ?_
  have hdraw : Chg w { w with drawn := w.drawn + 1 } (fun _ => False) := ⟨rfl, rfl, rfl, Nat.le_refl _, fun _ _ _ => rfl⟩
  have S' := S.mem.grow hdraw
  have hT0 := Tran.grow S.mem c hdraw
  obtain ⟨L, q1, q2, q3, q4, q5, _⟩ := drA_chain (Q := Q) hcall ops.toList 0 [] ρ H c (fun k => by simp) (fun x hx => by cases hx) h
  have hstat := statB_ok hst (fun k => by simp)
  have hmono := drA_mono _ _ _ _ _ _ h
  have hlen : L.length = ops.size := by
    have := congrArg List.length q2; simpa using this
  have hidx : ∀ k (hk : k < L.length), (L[k]).ac.i = k := fun k hk => by
    have := congrArg (fun l => l[k]?) q2
    simp only [List.getElem?_map, List.getElem?_eq_getElem hk, Option.map_some] at this
    rw [List.getElem?_range' (by simp; omega)] at this
    simpa using this
  have hsort : L.Pairwise (fun x y => x.ac.i < y.ac.i) := by
    rw [List.pairwise_iff_getElem]
    intro i j hi hj hij
    rw [hidx i hi, hidx j hj]; exact hij
  refine any_sound (n := n) (N := N) (gf := out.2.1.get) (ρf := out.1.get) (φ0 := φ) (g0 := H.get) (cS := c) (cE := out.2.2) (W0 := { w with drawn := w.drawn + 1 }) (ds := a.defers) (fun j o ho => (hstat j o (Nat.zero_le _) ho).1)
    (fun φ' a' w' hT he hn hd => ?_) ops.size L (Array.replicate ops.size false) H.get ρ.get φ a _ hlen (by simp) (fun i hi _ => ?_) (fun x hx => ?_) hsort q4 ?_ (fun z o hz hl => ?_) (fun x hx => (q3 x hx).2.1) (fun x hx => ?_) q1 (Tran.wide S' hmono) S.env S.size rfl
  · have hT2 := hT0.trans hT
    have hle := hT2.le hf
    exact hk φ' a' w' hT2 ⟨hT.rel, he, hn, by rw [hd]; exact S.dfs.mono hle⟩
  · have hiL : i < L.length := by omega
    exact ⟨L[i], List.getElem_mem _, hidx i hiL⟩
  · obtain ⟨a1, _⟩ := q3 x hx
    have := (Array.getElem?_eq_some_iff.1 a1).1
    refine ⟨?_, a1⟩
    simp [Array.getD_eq_getD_getElem?, this]
  · refine (List.pairwise_iff_getElem.2 fun i j hi hj hij => ?_)
    have hp := List.pairwise_iff_getElem.1 q5 i j hi hj hij
    have ai := (q3 _ (List.getElem_mem hi)).1
    have aj := (q3 _ (List.getElem_mem hj)).1
    have hs := (hstat _ _ (Nat.zero_le _) aj).2 (L[i]).ac.i _ (by rw [hidx i hi, hidx j hj]; exact hij) ai
    rcases hp with h1 | h1
    · rcases hs with h2 | h2
      · exact .inl ⟨h1, h2⟩
      · exact .inr h2
    · exact .inr h1
  · have hz' := (Array.getElem?_eq_some_iff.1 hz).1
    simp [Array.getD_eq_getD_getElem?, hz'] at hl
  · obtain ⟨_, _, a3, a4, a5⟩ := q3 x hx
    exact ⟨hf.sub a3 a5, a3, a4, a5⟩
end
end Gx
namespace Gx
open Go Go.RowKit
set_option linter.unusedSimpArgs false
set_option linter.unusedVariables false
def LoopWP (P : Program) (x : Code) (Q : Exit → Act → World → Prop) (a : Act) (w : World) : Prop :=
  ∀ (b : Frame) (k : List Item) (cs : List Frame), ∃ e a' w', Q e a' w' ∧ Arrives P (lone (b.at a (.code x :: .inLoop x :: k)) cs w) b k cs e a' w'
theorem wp_of_loop {P : Program} {x : Code} {Q : Exit → Act → World → Prop} {a : Act} {w : World} (h : LoopWP P x Q a w) : (Code.loop x).wp P Q a w := fun b k cs =>
  let ⟨e, a', w', q, r⟩ := h b k cs; ⟨e, a', w', q, .of_steps (.one step_loop) r⟩
theorem loop_round {P : Program} {x : Code} {Q : Exit → Act → World → Prop} {a : Act} {w : World} (h : x.wp P (Exit.then (LoopWP P x Q) Q) a w) : LoopWP P x Q a w := by
  intro b k cs
  obtain ⟨e, a₁, w₁, hq, harr⟩ := h b (.inLoop x :: k) cs
  cases e with
  | normal =>
    obtain ⟨e₂, a₂, w₂, hq₂, harr₂⟩ := hq b k cs
    exact ⟨e₂, a₂, w₂, hq₂, .of_steps (Steps.trans harr (.one step_inLoop)) harr₂⟩
  | exit id => exact ⟨_, a₁, w₁, hq, .pass (x := .inLoop x) rfl (fun _ _ => .inl (by simp)) harr⟩
  | goto l => exact ⟨_, a₁, w₁, hq, .pass (x := .inLoop x) rfl (fun _ _ => .inl (by simp)) harr⟩
  | ret => exact ⟨_, a₁, w₁, hq, .pass (x := .inLoop x) rfl (fun _ _ => .inl (by simp)) harr⟩
  | panic ch => exact ⟨_, a₁, w₁, hq, .pass (x := .inLoop x) rfl (fun _ _ => .inl (by simp)) harr⟩
  | outgrown => exact ⟨_, a₁, w₁, hq, .pass (x := .inLoop x) rfl (fun _ _ => .inl (by simp)) harr⟩
def resA1 (P : Program) (H : Tr BO) (ρ : En) : ResultVar → Option AV
  | .tmp t => ρ.get t
  | .cell a t => match ρ.get a with
    | some p => ldA P H t p
    | none => none
def resL (P : Program) (H : Tr BO) (ρ : En) : List ResultVar → Option (List AV)
  | [] => some []
  | r :: l => match resA1 P H ρ r, resL P H ρ l with
    | some a, some avs => some (a :: avs)
    | _, _ => none
def resA (P : Program) (H : Tr BO) (ρ : En) (l : List ResultVar) : Option AV := match resL P H ρ l with
  | some [v] => some v
  | some vs => some (.tup vs)
  | none => none
section
variable {P : Program} {base : Nat} {w0 : World} {φ φ' : Ph} {w w' : World}
theorem resA1_ok {H : Tr BO} {ρ : En} {a : Act} {r : ResultVar} {v : AV} (R : Rel base w0 φ H.get w) (he : ERel φ ρ.get (en a) (fun _ => True)) (h : resA1 P H ρ r = some v) : ∃ V, (resOne a.tmps r).run P w = .ok V w ∧ v.c φ = some V := by
  unfold resA1 at h
  split at h
  · rename_i t
    exact ⟨_, by simp only [resOne]; rfl, he t v trivial h⟩
  · rename_i q t
    split at h
    · rename_i p hp
      have h1 := he q p trivial hp
      obtain ⟨n, b', gg, z, ad, seg, ht, hA, hn, hg, hcf, hv⟩ := ldA_ok R h1 h
      have hr := run_loadVar (P := P) (w := w) (a := ad) ht hn hg hcf
      refine ⟨_, ?_, hv⟩
      have : a.tmps.getD q undef = .pointer (some ad) := hA
      simp only [resOne, this, asAddr, Sem.run_bind]
      show ((Sem.pure ad).run P w).andThen _ = _
      simp only [Sem.run, Result.andThen_ok, hr]
    · cases h
theorem resL_ok {H : Tr BO} {ρ : En} {a : Act} (R : Rel base w0 φ H.get w) (he : ERel φ ρ.get (en a) (fun _ => True)) : ∀ {l : List ResultVar} {vs : List AV}, resL P H ρ l = some vs → ∃ Vs, (l.mapM (resOne a.tmps)).run P w = .ok Vs w ∧ AV.cl φ vs = some Vs
  | [], vs, h => by
    unfold resL at h; injection h with h; subst h
    exact ⟨[], by rw [List.mapM_nil]; rfl, by unfold AV.cl; rfl⟩
  | r :: l, vs, h => by
    unfold resL at h
    split at h
    · rename_i v vs' h1 h2
      injection h with h; subst h
      obtain ⟨V, e1, e2⟩ := resA1_ok (P := P) R he h1
      obtain ⟨Vs, e3, e4⟩ := resL_ok R he h2
      refine ⟨V :: Vs, ?_, AV.cl_mk e2 e4⟩
      rw [List.mapM_cons]
      simp only [Sem.run_bind, e1, Result.andThen_ok, e3]
      rfl
    · cases h
theorem resA_ok {H : Tr BO} {ρ : En} {a : Act} {fn : Func} {v : AV} (R : Rel base w0 φ H.get w) (he : ERel φ ρ.get (en a) (fun _ => True)) (h : resA P H ρ fn.results.toList = some v) : ∃ V, (results fn a.tmps).run P w = .ok V w ∧ v.c φ = some V := by
  unfold resA at h
  have key : ∀ {vs : List AV}, resL P H ρ fn.results.toList = some vs → ∃ Vs, (results fn a.tmps).run P w = .ok (if h : Vs.toArray.size = 1 then Vs.toArray[0] else .tuple Vs.toArray) w ∧ AV.cl φ vs = some Vs := fun {vs} hv => by
    obtain ⟨Vs, e1, e2⟩ := resL_ok (P := P) R he hv
    refine ⟨Vs, ?_, e2⟩
    rw [results_eq, Array.mapM_eq_mapM_toList]
    simp only [Sem.run_bind, Sem.run_map, e1, Result.andThen_ok]
    rfl
  split at h
  · rename_i u hu
    injection h with h; subst h
    obtain ⟨Vs, e1, e2⟩ := key hu
    obtain ⟨V, Vs', rfl, e3, e4⟩ := AV.cl_cons e2
    unfold AV.cl at e4; injection e4 with e4; subst e4
    exact ⟨V, e1, e3⟩
  · rename_i vs hne hu
    injection h with h; subst h
    obtain ⟨Vs, e1, e2⟩ := key hu
    have hl := AV.cl_len e2
    have : ¬ Vs.toArray.size = 1 := fun hs => by
      rw [List.size_toArray, hl] at hs
      match vs, hs with
      | [u], _ => exact hne u rfl
    rw [dif_neg this] at e1
    exact ⟨_, e1, by unfold AV.c; rw [e2]; rfl⟩
  · cases h
end
end Gx
namespace Gx
open Go Go.RowKit
set_option linter.unusedSimpArgs false
set_option linter.unusedVariables false
def recO (t : Tmp) (ty : TypeId) (pos : String) : Oper := ⟨some t, .call ⟨.builtin .recover, #[], #[]⟩, ty, pos, #[], none⟩
section
variable {P : Program}
def recGives : FrameMode → Option (Value × FrameMode)
  | .returning => some (.nilIface, .returning)
  | .panicking [{ v, recovered := false, goexit := false }] => some (v, .panicking [{ v, recovered := true }])
  | _ => none
theorem run_recover {t : Tmp} {ty : TypeId} {pos : String} {ρ : Operand → Value} {w : World} : (execOp ρ (recO t ty pos)).run P w = .ok .recover w := by
  simp [execOp, recO, resolve, invoke, builtin, go_sem]
theorem step_recover {f : FuncId} {a : Act} {t : Tmp} {ty : TypeId} {pos : String} {k : List Item} {c₀ : Frame} {cs : List Frame} {w : World} {u u' : FrameMode} {V : Value} (hu : c₀.mode = u) (hg : recGives u = some (V, u')) :
    step P (lone (({ (default : Frame) with fn := f, kind := .deferred } : Frame).at a (.inRegion #[recO t ty pos] [0] :: k)) (c₀ :: cs) w) = .next (lone (({ (default : Frame) with fn := f, kind := .deferred } : Frame).at (a.put (some t) V) (.inRegion #[recO t ty pos] [] :: k)) ({ c₀ with mode := u' } :: cs) w) := by
  have hop := stepG_op (P := P) (b := { (default : Frame) with fn := f, kind := .deferred }) (a := a) (ops := #[recO t ty pos]) (i := 0) (rest := []) (k := k) (cs := c₀ :: cs) (w := w) (o := recO t ty pos) rfl rfl
  refine step_lone_go ?_
  show (stepG P true { frame := (({ (default : Frame) with fn := f, kind := .deferred } : Frame).at a (.inRegion #[recO t ty pos] [0] :: k)), callers := c₀ :: cs, status := .running, dying := none } w).bare = _
  rw [hop]
  have hfin : ∀ v, (({ (default : Frame) with fn := f, kind := .deferred } : Frame).at a (.inRegion #[recO t ty pos] [0] :: k)).finish v = ({ (default : Frame) with fn := f, kind := .deferred } : Frame).at (a.put (some t) v) (.inRegion #[recO t ty pos] [] :: k) := fun v => by
    rw [Frame.finish_at]; rfl
  unfold recGives at hg
  split at hg
  · injection hg with hg; injection hg with h1 h2; subst h1; subst h2
    have hc : ({ c₀ with mode := .returning } : Frame) = c₀ := by cases c₀; simp only at hu; subst hu; rfl
    rw [hc]
    have hr : (tryRecover (({ (default : Frame) with fn := f, kind := .deferred } : Frame).at a (.inRegion #[recO t ty pos] [0] :: k)) (c₀ :: cs)) = none := by
      simp [tryRecover, Frame.at, hu]
    have hro : (({ (default : Frame) with fn := f, kind := .deferred } : Frame).at a (.inRegion #[recO t ty pos] [0] :: k)).roundOf = none := rfl
    simp [stepG.apply, run_recover, hr, hro, hfin, GStep.bare]
    try rfl
  · rename_i v
    injection hg with hg; injection hg with h1 h2; subst h1; subst h2
    have hr : (tryRecover (({ (default : Frame) with fn := f, kind := .deferred } : Frame).at a (.inRegion #[recO t ty pos] [0] :: k)) (c₀ :: cs)) = some (v, { c₀ with mode := .panicking [{ v := v, recovered := true }] } :: cs) := by
      simp [tryRecover, Frame.at, hu]
    have hro : (({ (default : Frame) with fn := f, kind := .deferred } : Frame).at a (.inRegion #[recO t ty pos] [0] :: k)).roundOf = none := rfl
    simp [stepG.apply, run_recover, hr, hro, hfin, GStep.bare]
    try rfl
  · cases hg
theorem callsD_recover {f : FuncId} {fn : Func} {id : Nat} {t : Tmp} {ty : TypeId} {pos : String} {rest : Code} {args : Array Value} {u u' : FrameMode} {w : World} {R : Ending → World → Prop} {V : Value}
    (hf : P.funcs[f]? = some fn) (hb : fn.body = some (.seq (.region id #[recO t ty pos] false) rest)) (hg : recGives u = some (V, u'))
    (h : rest.wp P (bodyPost P fn R) (({ tmps := args ++ Array.replicate (fn.ntmps - args.size) undef, defers := [] } : Act).put (some t) V) w) : CallsD P f args u w fun e u2 w' => u2 = u' ∧ R e w' := by
  intro c₀ cs hu
  let b : Frame := { (default : Frame) with fn := f, kind := .deferred }
  have henter : Frame.enter P f args .deferred = b.at { tmps := args ++ Array.replicate (fn.ntmps - args.size) undef, defers := [] } [.code (.seq (.region id #[recO t ty pos] false) rest)] := by
    simp [Frame.enter, Frame.at, hf, hb, b]
  have s1 : Steps P (lone (Frame.enter P f args .deferred) (c₀ :: cs) w) (lone (b.at (({ tmps := args ++ Array.replicate (fn.ntmps - args.size) undef, defers := [] } : Act).put (some t) V) [.code rest]) ({ c₀ with mode := u' } :: cs) w) := by
    rw [henter]
    refine .head step_seq (.head step_region ?_)
    have : (List.range (#[recO t ty pos] : Array Oper).size) = [0] := rfl
    rw [this]
    exact .head (step_recover hu hg) (.one step_region_end)
  obtain ⟨e, a', w', hq, harr⟩ := h b [] ({ c₀ with mode := u' } :: cs)
  cases e with
  | normal =>
    obtain ⟨hd, v, hr, hR⟩ := hq
    exact ⟨.returned v, u', w', _, ⟨rfl, hR⟩, Steps.trans s1 (Steps.trans harr (.one step_end)), rfl, rfl, hd, fn, hf, hr⟩
  | ret =>
    obtain ⟨hd, v, hr, hR⟩ := hq
    obtain ⟨todo, hs⟩ := harr
    exact ⟨.returned v, u', w', _, ⟨rfl, hR⟩, Steps.trans s1 hs, rfl, rfl, hd, fn, hf, hr⟩
  | panic chain =>
    obtain ⟨hd, hR⟩ := hq
    obtain ⟨todo, hs⟩ := harr
    exact ⟨.panicked chain, u', w', _, ⟨rfl, hR⟩, Steps.trans s1 hs, rfl, rfl, hd, fn, hf⟩
  | exit id => exact hq.elim
  | goto l => exact hq.elim
  | outgrown =>
    have ho : Outgrown P (lone (Frame.enter P f args .deferred) (c₀ :: cs) w) := Outgrown.of_steps s1 (harr.resolve_left (by simp [b]))
    exact ⟨.outgrown, u', w', b, ⟨rfl, hq⟩, ho, rfl, trivial⟩
end
end Gx
namespace Gx
open Go Go.RowKit
set_option linter.unusedSimpArgs false
set_option linter.unusedVariables false
abbrev RecF := Bool → Nat → Code → En → Tr BO → Nat → List DF → Option SS
def envL : List AV → Nat → List (Nat × AV)
  | [], _ => []
  | a :: l, i => (i, a) :: envL l (i + 1)
def envA (m : Nat) (l : List AV) : En := ⟨m, envL l 0, .nil⟩
def flushS : Option SS → Option SS
  | some ⟨x, ρ, H, c, df⟩ => some ⟨x, ρ.flush, H, c, df⟩
  | none => none
inductive MD where
  | rtn
  | pan (v : AV)
def MD.ok (φ : Ph) (m : MD) (u : FrameMode) : Prop := match m with
  | .rtn => u = .returning
  | .pan v => ∃ V, v.c φ = some V ∧ u = .panicking [{ v := V, recovered := false }]
def dcallA (P : Program) (esc : Nat → Nat) (rec : RecF) (d : DF) (m : MD) (H : Tr BO) (c : Nat) : Option (Tr BO × Nat) :=
  match callB P d.f, P.funcs[d.f]? with
  | true, some fn => match fn.body with
    | some (.seq (.region _ ops false) rest) => match ops.toList with
      | [⟨some t, .call ⟨.builtin .recover, avs, ts⟩, _, _, af, none⟩] =>
        if avs.toList.isEmpty && (ts.toList.isEmpty && (af.toList.isEmpty && (Nat.ble (d.args ++ d.caps).length fn.ntmps && (Nat.blt fn.ntmps 1000000 && Nat.blt t fn.ntmps)))) then
          match rec false fn.ntmps rest ((envA (esc d.f) (d.args ++ d.caps)).put t (match m with
            | .rtn => .v .nilIface
            | .pan v => v)) H c [] with
          | some ⟨.nm, ρ', H', c', []⟩ => match resA P H' ρ' fn.results.toList with
            | some _ => some (H', c')
            | none => none
          | some ⟨.rt, ρ', H', c', []⟩ => match resA P H' ρ' fn.results.toList with
            | some _ => some (H', c')
            | none => none
          | _ => none
        else none
      | _ => none
    | _ => none
  | _, _ => none
def leaveA (P : Program) (esc : Nat → Nat) (rec : RecF) (fn : Func) (ρ : En) : List DF → MD → Tr BO → Nat → Option CR
  | [], .rtn, H, c => match resA P H ρ fn.results.toList with
    | some v => some (.ret v H c)
    | none => none
  | [], .pan v, H, c => some (.pan v H c)
  | d :: ds, m, H, c => match dcallA P esc rec d m H c with
    | some (H', c') => leaveA P esc rec fn ρ ds .rtn H' c'
    | none => none
abbrev ExtF := Nat → Option (Array Value → Sem Value)
def extA (P : Program) (e : Array Value → Sem Value) (avs : List AV) : Option AV := match fll avs with
  | some vs => match Sem.pr P (e vs.toArray) with
    | some V => some (ofV V)
    | none => none
  | none => none
def callS (P : Program) (esc : Nat → Nat) (ext : ExtF) (orc : Nat → List AV → Option AV) (rec : RecF) : CallF := fun g avs H c =>
  match ext g with
  | some e => match extA P e avs with
    | some v => some (.ret v H c)
    | none => none
  | none => if callB P g then match orc g avs with
  | some v => some (.ret v H c)
  | none => match P.funcs[g]? with
    | none => none
    | some fn => match fn.body with
      | none => none
      | some cd => if Nat.ble avs.length fn.ntmps && Nat.blt fn.ntmps 1000000 then match rec false fn.ntmps cd (envA (esc g) avs) H c [] with
          | some ⟨.nm, ρ', H', c', df⟩ => leaveA P esc rec fn ρ' df .rtn H' c'
          | some ⟨.rt, ρ', H', c', df⟩ => leaveA P esc rec fn ρ' df .rtn H' c'
          | some ⟨.pn v, ρ', H', c', df⟩ => leaveA P esc rec fn ρ' df (.pan v) H' c'
          | _ => none
        else none
  else none
def codeS (P : Program) (rec : RecF) (call : CallF) : RecF := fun lp n cd ρ H c df =>
  match lp with
  | true => match rec false n cd ρ H c df with
    | some ⟨.nm, ρ1, H1, c1, df1⟩ => rec true n cd ρ1 H1 c1 df1
    | r => r
  | false => match cd with
    | .skip => some ⟨.nm, ρ, H, c, df⟩
    | .label _ => some ⟨.nm, ρ, H, c, df⟩
    | .region _ ops false => flushS (opsA P call n ops.toList ops.toList ρ H c df)
    | .region _ ops true => if statB ops ops.toList ops.size ops.toList 0 then match drA P call n ops.toList ops.size ops.toList 0 [] ρ H c with
        | some (ρ', H', c') => some ⟨.nm, ρ'.flush, H', c', df⟩
        | none => none
      else none
    | .seq x y => match rec false n x ρ H c df with
      | some ⟨.nm, ρ1, H1, c1, df1⟩ => rec false n y ρ1 H1 c1 df1
      | r => r
    | .cond q x y => match zag ρ q with
      | some (.v (.bool b)) => rec false n (cond b x y) ρ H c df
      | _ => none
    | .block id x => match rec false n x ρ H c df with
      | some ⟨.ex id', ρ1, H1, c1, df1⟩ => cond (Nat.beq id' id) (some ⟨.nm, ρ1, H1, c1, df1⟩) (some ⟨.ex id', ρ1, H1, c1, df1⟩)
      | r => r
    | .loop x => rec true n x ρ H c df
    | .exit id => some ⟨.ex id, ρ, H, c, df⟩
    | .ret => some ⟨.rt, ρ, H, c, df⟩
    | _ => none
def codeA (P : Program) (esc : Nat → Nat) (ext : ExtF) (orc : Nat → List AV → Option AV) (f : Nat) : RecF :=
  Nat.rec (motive := fun _ => RecF) (fun _ _ _ _ _ _ _ => none) (fun _ ih => codeS P ih (callS P esc ext orc ih)) f
section
variable {P : Program} {base : Nat} {w0 : World}
def RecOK (P : Program) (base : Nat) (w0 : World) (rec : RecF) : Prop :=
  ∀ (lp : Bool) (n : Nat) (cd : Code) (ρ : En) (H : Tr BO) (c : Nat) (df : List DF) (s : SS), rec lp n cd ρ H c df = some s → c ≤ s.c ∧ ∀ (φ : Ph) (a : Act) (w : World) (Q : Exit → Act → World → Prop), SRel base w0 φ n ρ H df a w → Fre φ c s.c →
    (∀ φ' a' w', Tran base w0 φ H.get c w φ' s.H.get s.c w' → SRel base w0 φ' n s.ρ s.H s.df a' w' → QX Q φ' s.x a' w') → cond lp (LoopWP P cd Q a w) (cd.wp P Q a w)
theorem envL_look : ∀ {l : List AV} {i : Nat} (t : Nat), lookA t (envL l i) = if i ≤ t ∧ t < i + l.length then some l[t - i]? else none
  | [], i, t => by unfold envL lookA; rw [if_neg (by simp)]
  | a :: l, i, t => by
    unfold envL lookA
    rw [envL_look t]
    simp only [List.length_cons]
    cases hb : Nat.beq i t with
    | true =>
      have := Nat.eq_of_beq_eq_true hb; subst this
      simp
    | false =>
      have hne : ¬ t = i := fun e => by subst e; simp at hb
      simp only
      by_cases h1 : i + 1 ≤ t ∧ t < i + 1 + l.length
      · rw [if_pos h1, if_pos (by omega), show t - i = (t - (i + 1)) + 1 by omega, List.getElem?_cons_succ]
      · rw [if_neg h1, if_neg (by omega)]
theorem envA_get {m : Nat} {l : List AV} {t : Nat} {v : AV} (h : (envA m l).get t = some v) : l[t]? = some v := by
  unfold envA En.get at h
  simp only at h
  rw [envL_look t] at h
  by_cases h1 : 0 ≤ t ∧ t < 0 + l.length
  · rw [if_pos h1] at h; exact h
  · rw [if_neg h1] at h
    simp only [Tr.get_nil] at h
    cases hb : bitA m t <;> rw [hb] at h <;> cases h
theorem enter_rel {mk : Nat} {φ : Ph} {avs : List AV} {Vs : List Value} {H : Tr BO} {n : Nat} {w : World} (R : Rel base w0 φ H.get w) (hv : AV.cl φ avs = some Vs) (hn : avs.length ≤ n) (hb : n < 1000000) :
    SRel base w0 φ n (envA mk avs) H [] { tmps := Vs.toArray ++ Array.replicate (n - Vs.toArray.size) undef, defers := [] } w := by
  have hl := AV.cl_len hv
  refine ⟨R, fun t v _ ht => ?_, by simp; omega, rfl⟩
  · obtain ⟨x, h1, h2⟩ := AV.cl_get hv (envA_get ht)
    have : en ({ tmps := Vs.toArray ++ Array.replicate (n - Vs.toArray.size) undef, defers := [] } : Act) t = x := by
      have hlt : t < Vs.length := (List.getElem?_eq_some_iff.1 h1).1
      simp only [en, Array.getD_eq_getD_getElem?, Array.getElem?_append, List.size_toArray, hlt, if_true]
      simp [h1]
    rw [this]; exact h2
theorem dcallA_ok {esc : Nat → Nat} {rec : RecF} (hrec : RecOK P base w0 rec) {d : DF} {m : MD} {H H' : Tr BO} {c c' : Nat} {φ : Ph} {w : World} {u : FrameMode} {dd : Deferred} (h : dcallA P esc rec d m H c = some (H', c')) (R : Rel base w0 φ H.get w) (hf : Fre φ c c')
    (hd : DRel φ [d] [dd]) (hu : m.ok φ u) {fn : Func} {tmps : Array Value} {RR : Ending → World → Prop} {ds : List Deferred}
    (hk : ∀ φ' w', Tran base w0 φ H.get c w φ' H'.get c' w' → Leaves P fn tmps RR ds .returning w') : c ≤ c' ∧ Leaves P fn tmps RR (dd :: ds) u w := by
  obtain ⟨cs, avs, rs, hdd, hcs, has, hrs⟩ := hd
  have hrs' : rs = [] := hrs
  subst hrs'
  injection hdd with hdd _
  subst hdd
  unfold dcallA at h
  split at h
  · rename_i fn2 hcb hfn
    split at h
    · rename_i id ops rest hbody
      split at h
      · rename_i t avs' ts ty pos af hops
        split at h
        · rename_i hc
          simp only [Bool.and_eq_true] at hc
          obtain ⟨c1, c2, c3, c4, c5, c6⟩ := hc
          have e1 : avs' = #[] := by rw [← Array.toList_inj]; simpa using c1
          have e2 : ts = #[] := by rw [← Array.toList_inj]; simpa using c2
          have e3 : af = #[] := by rw [← Array.toList_inj]; simpa using c3
          subst e1; subst e2; subst e3
          have e4 : ops = #[recO t ty pos] := by rw [← Array.toList_inj]; exact hops
          subst e4
          have hn := Nat.le_of_ble_eq_true c4
          have hb : fn2.ntmps < 1000000 := by simpa [Nat.blt_eq] using c5
          have ht : t < fn2.ntmps := by simpa [Nat.blt_eq] using c6
          have hall := AV.cl_app has hcs
          have S0 := enter_rel (mk := esc d.f) (H := H) R hall hn hb
          have hcall : Callable P d.f := by
            unfold callB at hcb; rw [hfn] at hcb; simp only at hcb
            rw [Bool.and_eq_true] at hcb
            exact ⟨fn2, hfn, by cases hb2 : fn2.body <;> simp_all, by simpa using hcb.2⟩
          obtain ⟨V, u', vv, hg, hvv, hval, hset⟩ : ∃ V u' vv, recGives u = some (V, u') ∧ (match m with
              | .rtn => AV.v Value.nilIface
              | .pan v => v) = vv ∧ vv.c φ = some V ∧ settle u' = .returning := by
            cases m with
            | rtn => unfold MD.ok at hu; simp only at hu; subst hu; exact ⟨_, _, _, rfl, rfl, by unfold AV.c; rfl, rfl⟩
            | pan v =>
              unfold MD.ok at hu; simp only at hu
              obtain ⟨V, h1, h2⟩ := hu; subst h2
              exact ⟨V, _, v, rfl, rfl, h1, rfl⟩
          rw [hvv] at h
          have hput : putO fn2.ntmps (envA (esc d.f) (d.args ++ d.caps)) (some t) vv = some ((envA (esc d.f) (d.args ++ d.caps)).put t vv) := by
            unfold putO; simp only
            rw [c6]
          obtain ⟨g1, g2⟩ := putO_get hput
          obtain ⟨g3, g4⟩ := erel_upd (dst := some t) S0.env (PLe.refl φ) S0.size g2 hval
          have S1 : SRel base w0 φ fn2.ntmps ((envA (esc d.f) (d.args ++ d.caps)).put t vv) H [] (({ tmps := (avs ++ cs).toArray ++ Array.replicate (fn2.ntmps - (avs ++ cs).toArray.size) undef, defers := [] } : Act).put (some t) V) w :=
            ⟨R, by rw [g1]; exact g3, g4, rfl⟩
          -- what comes of the body
          have main : ∀ (x : EX) (ρ' : En), (x = .nm ∨ x = .rt) → rec false fn2.ntmps rest ((envA (esc d.f) (d.args ++ d.caps)).put t vv) H c [] = some ⟨x, ρ', H', c', []⟩ → resA P H' ρ' fn2.results.toList ≠ none → c ≤ c' ∧ Leaves P fn tmps RR ({ target := .fn (.func d.f) cs.toArray, args := avs.toArray } :: ds) u w := fun x ρ' hx hr hres => by
            obtain ⟨hle, hs⟩ := hrec false fn2.ntmps rest _ H c [] _ hr
            refine ⟨hle, ?_⟩
            have hinv : (invoke (.fn (.func d.f) cs.toArray) avs.toArray).run P w = .ok (.enter d.f (avs ++ cs).toArray) w := by
              obtain ⟨fn3, h1, h2, h3⟩ := hcall
              have n1 : ¬ fn3.name = "runtime.NumGoroutine" := by simpa using h3
              have n2 : ¬ fn3.body = none := by intro e; rw [e] at h2; cases h2
              simp [invoke, callFunc, program, Sem.run, h1, n1, n2, go_sem]
            have hnr : u ≠ .run := fun e => by subst e; cases hg
            refine leaves_cons hnr hinv ?_
            have hcd := callsD_recover (R := fun e w' => match e with
                | .returned _ => Leaves P fn tmps RR ds .returning w'
                | _ => False) hfn hbody hg ((hs φ _ w (bodyPost P fn2 _) S1 hf) fun φ' a' w' hT S' => ?_)
            · refine hcd.mono fun e u2 w' he => ?_
              obtain ⟨rfl, he⟩ := he
              cases e with
              | returned v => simp only at he ⊢; rw [hset]; exact he
              | panicked ch => exact he.elim
              | outgrown => exact he.elim
            · cases hrr : resA P H' ρ' fn2.results.toList with
              | none => exact absurd hrr hres
              | some v =>
                obtain ⟨V2, h1, h2⟩ := resA_ok (P := P) S'.mem S'.env hrr
                have hdf : a'.defers = [] := S'.dfs
                have hfin : a'.defers = [] ∧ ∃ v, (results fn2 a'.tmps).run P w' = .ok v w' ∧ Leaves P fn tmps RR ds .returning w' := ⟨hdf, V2, h1, hk φ' w' hT⟩
                rcases hx with rfl | rfl <;> exact hfin
          split at h
          · rename_i ρ' H2 c2 hr
            split at h
            · rename_i v hres
              injection h with h; injection h with h h'; subst h; subst h'
              exact main .nm ρ' (.inl rfl) hr (by rw [hres]; simp)
            · cases h
          · rename_i ρ' H2 c2 hr
            split at h
            · rename_i v hres
              injection h with h; injection h with h h'; subst h; subst h'
              exact main .rt ρ' (.inr rfl) hr (by rw [hres]; simp)
            · cases h
          · cases h
        · cases h
      · cases h
    · cases h
  · cases h
end
end Gx
namespace Gx
open Go Go.RowKit
set_option linter.unusedSimpArgs false
set_option linter.unusedVariables false
section
variable {P : Program} {base : Nat} {w0 : World}
def OrcOK (P : Program) (base : Nat) (w0 : World) (orc : Nat → List AV → Option AV) : Prop :=
  ∀ g avs v, orc g avs = some v → ∀ (φ : Ph) (Vs : List Value) (w : World), AV.cl φ avs = some Vs → Below base w0 w → Calls P g Vs.toArray w fun e w' => ∃ V, e = .returned V ∧ v.c φ = some V ∧ Gr w w'
theorem dcallA_mono {esc : Nat → Nat} {rec : RecF} (hrec : RecOK P base w0 rec) {d : DF} {m : MD} {H H' : Tr BO} {c c' : Nat} (hdc : dcallA P esc rec d m H c = some (H', c')) : c ≤ c' := by
  unfold dcallA at hdc
  split at hdc
  · split at hdc
    · split at hdc
      · split at hdc
        · split at hdc
          · rename_i hr
            split at hdc
            · injection hdc with hdc; injection hdc with e1 e2; subst e2; exact (hrec _ _ _ _ _ _ _ _ hr).1
            · cases hdc
          · rename_i hr
            split at hdc
            · injection hdc with hdc; injection hdc with e1 e2; subst e2; exact (hrec _ _ _ _ _ _ _ _ hr).1
            · cases hdc
          · cases hdc
        · cases hdc
      · cases hdc
    · cases hdc
  · cases hdc
theorem leaveA_mono {esc : Nat → Nat} {rec : RecF} (hrec : RecOK P base w0 rec) {fn : Func} {ρ : En} {r : CR} : ∀ {df : List DF} {m : MD} {H : Tr BO} {c : Nat}, leaveA P esc rec fn ρ df m H c = some r → c ≤ r.c'
  | [], .rtn, H, c, h => by
    unfold leaveA at h
    split at h
    · injection h with h; subst h; exact Nat.le_refl _
    · cases h
  | [], .pan v, H, c, h => by unfold leaveA at h; injection h with h; subst h; exact Nat.le_refl _
  | d :: df, m, H, c, h => by
    unfold leaveA at h
    split at h
    · rename_i H' c' hdc
      exact Nat.le_trans (dcallA_mono hrec hdc) (leaveA_mono hrec h)
    · cases h
theorem leaveA_ok {esc : Nat → Nat} {rec : RecF} (hrec : RecOK P base w0 rec) {fn : Func} {ρ : En} {a : Act} : ∀ {df : List DF} {m : MD} {H : Tr BO} {c : Nat} {r : CR} {φ : Ph} {w : World} {u : FrameMode} {ds : List Deferred} {RR : Ending → World → Prop}, leaveA P esc rec fn ρ df m H c = some r →
    Rel base w0 φ H.get w → ERel φ ρ.get (en a) (fun _ => True) → Fre φ c r.c' → DRel φ df ds → m.ok φ u →
    (∀ φ' w' e V, r.ok base w0 φ H.get c w e φ' V w' → RR e w') → Leaves P fn a.tmps RR ds u w := by
  intro df
  induction df with
  | nil =>
    intro m H c r φ w u ds RR h R he hf hd hu hk
    have : ds = [] := hd
    subst this
    cases m with
    | rtn =>
      unfold leaveA at h
      have hu' : u = .returning := hu
      subst hu'
      split at h
      · rename_i v hres
        injection h with h; subst h
        obtain ⟨V, h1, h2⟩ := resA_ok (P := P) R he hres
        exact ⟨V, h1, hk φ w _ V ⟨rfl, h2, Tran.refl R c⟩⟩
      · cases h
    | pan v =>
      unfold leaveA at h
      obtain ⟨V, h1, rfl⟩ := hu
      injection h with h; subst h
      exact hk φ w _ V ⟨rfl, h1, Tran.refl R c⟩
  | cons d df ih =>
    intro m H c r φ w u ds RR h R he hf hd hu hk
    obtain ⟨cs, avs, rs, hds, h1, h2, h3⟩ := hd
    unfold leaveA at h
    split at h
    · rename_i H' c' hdc
      subst hds
      have m1 := dcallA_mono hrec hdc
      have m2 := leaveA_mono hrec h
      refine (dcallA_ok hrec hdc R (hf.sub (Nat.le_refl _) m2) ⟨cs, avs, [], rfl, h1, h2, rfl⟩ hu fun φ' w' hT => ?_).2
      have hle := hT.le (hf.sub (Nat.le_refl _) m2)
      refine ih h hT.rel (fun t v hS ht => AV.c_mono hle v _ (he t v hS ht)) (hf.step hT) (h3.mono hle) rfl fun φ2 w2 e V hr => hk φ2 w2 e V ?_
      cases r with
      | ret v H2 c2 => exact ⟨hr.1, hr.2.1, hT.trans hr.2.2⟩
      | pan v H2 c2 => exact ⟨hr.1, hr.2.1, hT.trans hr.2.2⟩
    · cases h
def ExtOK (P : Program) (ext : ExtF) : Prop := ∀ g e, ext g = some e → ∀ (args : Array Value) (w : World), (callFunc g args).run P w = ((e args).run P w).andThen fun v w' => .ok (.value v) w'
theorem callS_ok {esc : Nat → Nat} {ext : ExtF} (hext : ExtOK P ext) {orc : Nat → List AV → Option AV} (horc : OrcOK P base w0 orc) {rec : RecF} (hrec : RecOK P base w0 rec) : CallOK P base w0 (callS P esc ext orc rec) := by
  intro g avs H c r φ w Vs h hv R hf
  unfold callS at h
  split at h
  · rename_i e he
    split at h
    · rename_i v hx
      injection h with h; subst h
      right
      unfold extA at hx
      split at hx
      · rename_i vs hvs
        split at hx
        · rename_i V hV
          injection hx with hx; subst hx
          have := fll_c (φ := φ) hvs
          rw [hv] at this; injection this with this; subst this
          refine ⟨_, V, rfl, ofV_c φ V, ?_⟩
          rw [hext g e he, pr_run _ _ hV w]
          rfl
        · cases hx
      · cases hx
    · cases h
  split at h
  case isFalse => cases h
  rename_i hcb
  left
  refine ⟨callB_ok hcb, ?_⟩
  split at h
  · rename_i v ho
    injection h with h; subst h
    refine (horc g avs v ho φ Vs w hv R.below).mono fun e w' he => ?_
    obtain ⟨V, h1, h2, h3⟩ := he
    exact ⟨φ, V, h1, h2, Tran.grow R c h3⟩
  · split at h
    · cases h
    · rename_i fn hfn
      split at h
      · cases h
      · rename_i cd hb
        split at h
        · rename_i hc
          rw [Bool.and_eq_true] at hc
          have hn := Nat.le_of_ble_eq_true hc.1
          have hb2 : fn.ntmps < 1000000 := by simpa [Nat.blt_eq] using hc.2
          have S0 := enter_rel (mk := esc g) (H := H) R hv hn hb2
          have main : ∀ (x : EX) (ρ' : En) (H' : Tr BO) (c' : Nat) (df : List DF) (m : MD), rec false fn.ntmps cd (envA (esc g) avs) H c [] = some ⟨x, ρ', H', c', df⟩ → leaveA P esc rec fn ρ' df m H' c' = some r →
              ((m = .rtn ∧ (x = .nm ∨ x = .rt)) ∨ ∃ v, m = .pan v ∧ x = .pn v) → Calls P g Vs.toArray w fun e w' => ∃ φ' V, r.ok base w0 φ H.get c w e φ' V w' := fun x ρ' H' c' df m hr hl hx => by
            have m2 := leaveA_mono hrec hl
            obtain ⟨m1, hs⟩ := hrec false fn.ntmps cd _ H c [] _ hr
            refine calls_of_wp_defers hfn hb (hs φ _ w _ S0 (hf.sub (Nat.le_refl _) m2) fun φ' a' w' hT S' => ?_)
            have fin : ∀ u, m.ok φ' u → Leaves P fn a'.tmps (fun e w' => ∃ φ' V, r.ok base w0 φ H.get c w e φ' V w') a'.defers u w' := fun u hu => by
              refine leaveA_ok hrec hl S'.mem S'.env (hf.step hT) S'.dfs hu fun φ2 w2 e V hr2 => ⟨φ2, V, ?_⟩
              cases r with
              | ret v H2 c2 => exact ⟨hr2.1, hr2.2.1, hT.trans hr2.2.2⟩
              | pan v H2 c2 => exact ⟨hr2.1, hr2.2.1, hT.trans hr2.2.2⟩
            rcases hx with ⟨rfl, rfl | rfl⟩ | ⟨v, rfl, rfl⟩
            · exact fin .returning rfl
            · exact fin .returning rfl
            · exact fun V hV => fin (.panicking [{ v := V, recovered := false }]) ⟨V, hV, rfl⟩
          split at h
          · rename_i ρ' H' c' df hr
            exact main .nm ρ' H' c' df .rtn hr h (.inl ⟨rfl, .inl rfl⟩)
          · rename_i ρ' H' c' df hr
            exact main .rt ρ' H' c' df .rtn hr h (.inl ⟨rfl, .inr rfl⟩)
          · rename_i v ρ' H' c' df hr
            exact main (.pn v) ρ' H' c' df (.pan v) hr h (.inr ⟨v, rfl, rfl⟩)
          · cases h
        · cases h
theorem qx_then {Q : Exit → Act → World → Prop} {next : Act → World → Prop} {φ : Ph} {x : EX} {a : Act} {w : World} (hne : x ≠ .nm) (h : QX Q φ x a w) : QX (Exit.then next Q) φ x a w := by
  cases x with
  | nm => exact absurd rfl hne
  | ex id => exact h
  | rt => exact h
  | pn v => exact h
theorem codeS_ok (hm : P.follows .mixedOrders = true) {rec : RecF} (hrec : RecOK P base w0 rec) {call : CallF} (hcall : CallOK P base w0 call) : RecOK P base w0 (codeS P rec call) := by
  intro lp n cd ρ H c df s h
  -- one piece of code, and what comes behind it
  have two : ∀ (lp2 : Bool) (x y : Code), (match rec false n x ρ H c df with
      | some ⟨.nm, ρ1, H1, c1, df1⟩ => rec lp2 n y ρ1 H1 c1 df1
      | r => r) = some s → c ≤ s.c ∧ ∀ (φ : Ph) (a : Act) (w : World) (Q : Exit → Act → World → Prop), SRel base w0 φ n ρ H df a w → Fre φ c s.c →
    (∀ φ' a' w', Tran base w0 φ H.get c w φ' s.H.get s.c w' → SRel base w0 φ' n s.ρ s.H s.df a' w' → QX Q φ' s.x a' w') → x.wp P (Exit.then (fun a w => cond lp2 (LoopWP P y Q a w) (y.wp P Q a w)) Q) a w := fun lp2 x y h => by
    split at h
    · rename_i ρ1 H1 c1 df1 h1
      obtain ⟨m1, s1⟩ := hrec false n x ρ H c df _ h1
      obtain ⟨m2, s2⟩ := hrec lp2 n y ρ1 H1 c1 df1 _ h
      refine ⟨Nat.le_trans m1 m2, fun φ a w Q S hf hk => s1 φ a w _ S (hf.sub (Nat.le_refl _) m2) fun φ' a' w' hT S' => ?_⟩
      exact s2 φ' a' w' Q S' (hf.step hT) fun φ2 a2 w2 hT2 S2 => hk φ2 a2 w2 (hT.trans hT2) S2
    · rename_i hne
      obtain ⟨m1, s1⟩ := hrec false n x ρ H c df _ h
      refine ⟨m1, fun φ a w Q S hf hk => s1 φ a w _ S hf fun φ' a' w' hT S' => qx_then (fun e => ?_) (hk φ' a' w' hT S')⟩
      obtain ⟨x', ρ', H', c', df'⟩ := s
      simp only at e; subst e
      exact hne _ _ _ _ h
  unfold codeS at h
  split at h
  · obtain ⟨m1, s1⟩ := two true cd cd h
    exact ⟨m1, fun φ a w Q S hf hk => loop_round (s1 φ a w Q S hf hk)⟩
  · split at h
    · injection h with h; subst h
      exact ⟨Nat.le_refl _, fun φ a w Q S hf hk => wp_skip (hk φ a w (Tran.refl S.mem c) S)⟩
    · injection h with h; subst h
      exact ⟨Nat.le_refl _, fun φ a w Q S hf hk => wp_label (hk φ a w (Tran.refl S.mem c) S)⟩
    · rename_i id ops
      cases ho : opsA P call n ops.toList ops.toList ρ H c df with
      | none => rw [ho] at h; cases h
      | some s1 =>
      obtain ⟨x1, ρ1, H1, c1, df1⟩ := s1
      rw [ho] at h
      simp only [flushS, Option.some.injEq] at h; subst h
      refine ⟨(by have := zak _ _ _ _ _ ho; exact this), fun φ a w Q S hf hk => wp_region ?_⟩
      have := opsA_sound (Q := Q) hcall ops.toList 0 ρ H c df φ a w (fun k => by simp) ho S hf (fun φ' a' w' hT S' => hk φ' a' w' hT ⟨S'.mem, fun t v hS ht => S'.env t v hS (En.flush_get ht), S'.size, S'.dfs⟩)
      rw [List.range_eq_range']
      simpa using this
    · rename_i id ops
      split at h
      · rename_i hst
        split at h
        · rename_i ρ' H' c' hd
          injection h with h; subst h
          exact ⟨drA_mono _ _ _ _ _ _ hd, fun φ a w Q S hf hk => drawn_sound hcall hm hst hd S hf (fun φ' a' w' hT S' => hk φ' a' w' hT ⟨S'.mem, fun t v hS ht => S'.env t v hS (En.flush_get ht), S'.size, S'.dfs⟩)⟩
        · cases h
      · cases h
    · rename_i x y
      obtain ⟨m1, s1⟩ := two false x y h
      exact ⟨m1, fun φ a w Q S hf hk => wp_seq (s1 φ a w Q S hf hk)⟩
    · rename_i q x y
      split at h
      · rename_i b hq
        obtain ⟨m1, s1⟩ := hrec false n _ ρ H c df _ h
        refine ⟨m1, fun φ a w Q S hf hk => ?_⟩
        have he := c_v (zaa S.env (x := q) (by cases q <;> trivial) hq)
        have := s1 φ a w Q S hf hk
        refine wp_cond (t := b) (by rw [act_eval]; exact he) ?_
        cases b <;> exact this
      · cases h
    · rename_i id x
      split at h
      · rename_i id' ρ1 H1 c1 df1 h1
        obtain ⟨m1, s1⟩ := hrec false n x ρ H c df _ h1
        cases hb : Nat.beq id' id with
        | true =>
          have hid := Nat.eq_of_beq_eq_true hb
          rw [hb] at h; simp only [cond_true, Option.some.injEq] at h; subst h
          refine ⟨m1, fun φ a w Q S hf hk => wp_block (s1 φ a w _ S hf fun φ' a' w' hT S' => ?_)⟩
          show (Exit.inBlock id Q) (.exit id') a' w'
          unfold Exit.inBlock; simp only [hid, if_true]
          exact hk φ' a' w' hT S'
        | false =>
          have hid : ¬ id' = id := fun e => by subst e; simp at hb
          rw [hb] at h; simp only [cond_false, Option.some.injEq] at h; subst h
          refine ⟨m1, fun φ a w Q S hf hk => wp_block (s1 φ a w _ S hf fun φ' a' w' hT S' => ?_)⟩
          show (Exit.inBlock id Q) (.exit id') a' w'
          unfold Exit.inBlock; simp only [hid, if_false]
          exact hk φ' a' w' hT S'
      · rename_i hne
        obtain ⟨m1, s1⟩ := hrec false n x ρ H c df _ h
        refine ⟨m1, fun φ a w Q S hf hk => wp_block (s1 φ a w _ S hf fun φ' a' w' hT S' => ?_)⟩
        have hq := hk φ' a' w' hT S'
        obtain ⟨x', ρ', H', c', df'⟩ := s
        cases x' with
        | nm => exact hq
        | ex id' => exact absurd h (hne _ _ _ _ _)
        | rt => exact hq
        | pn v => exact hq
    · rename_i x
      obtain ⟨m1, s1⟩ := hrec true n x ρ H c df _ h
      exact ⟨m1, fun φ a w Q S hf hk => wp_of_loop (s1 φ a w Q S hf hk)⟩
    · rename_i id
      injection h with h; subst h
      exact ⟨Nat.le_refl _, fun φ a w Q S hf hk => wp_exit (hk φ a w (Tran.refl S.mem c) S)⟩
    · injection h with h; subst h
      exact ⟨Nat.le_refl _, fun φ a w Q S hf hk => wp_ret (hk φ a w (Tran.refl S.mem c) S)⟩
    · cases h
theorem codeA_ok (hm : P.follows .mixedOrders = true) {esc : Nat → Nat} {ext : ExtF} (hext : ExtOK P ext) {orc : Nat → List AV → Option AV} (horc : OrcOK P base w0 orc) : ∀ f, RecOK P base w0 (codeA P esc ext orc f)
  | 0 => fun lp n cd ρ H c df s h => by cases h
  | f + 1 => codeS_ok hm (codeA_ok hm hext horc f) (callS_ok hext horc (codeA_ok hm hext horc f))
end
def runA (P : Program) (esc : Nat → Nat) (ext : ExtF) (orc : Nat → List AV → Option AV) (fuel f : Nat) (args : List AV) : Option Value := match callS P esc ext orc (codeA P esc ext orc fuel) f args .nil 0 with
  | some (.ret v _ _) => v.fl
  | _ => none
theorem runA_ok {P : Program} (hm : P.follows .mixedOrders = true) {esc : Nat → Nat} {ext : ExtF} (hext : ExtOK P ext) {orc : Nat → List AV → Option AV} {fuel f : Nat} {args : List AV} {Vs : List Value} {V : Value} (h : runA P esc ext orc fuel f args = some V) (ha : fll args = some Vs) (hb : callB P f = true) {w : World} (horc : OrcOK P w.heap.size w orc) (hne : ext f = none) :
    Calls P f Vs.toArray w fun e w' => e = .returned V ∧ Below w.heap.size w w' := by
  unfold runA at h
  split at h
  · rename_i v H c hr
    have hcall := callS_ok (esc := esc) hext horc (codeA_ok (esc := esc) hm hext horc fuel)
    have R0 : Rel w.heap.size w (fun _ => none) (Tr.nil : Tr BO).get w := ⟨(fun b o hb => by rw [Tr.get_nil] at hb; cases hb), (fun b b' x y y' hb => absurd (Tr.get_nil b) hb), (fun b x y hb => absurd (Tr.get_nil b) hb), Below.refl _ _, Nat.le_refl _⟩
    have hcb := (hcall f args .nil 0 _ (fun _ => none) w Vs hr (fll_c ha) R0 (fun _ _ _ => rfl)).resolve_right (fun hx => by
      obtain ⟨_, V2, _, _, hx⟩ := hx
      obtain ⟨fn, h1, h2, h3⟩ := callB_ok hb
      have n1 : ¬ fn.name = "runtime.NumGoroutine" := by simpa using h3
      have n2 : ¬ fn.body = none := by intro e; rw [e] at h2; cases h2
      simp [callFunc, program, Sem.run, h1, n1, n2, go_sem] at hx)
    refine hcb.2.mono fun e w' he => ?_
    obtain ⟨φ', V', h1, h2, hT⟩ := he
    have := fl_c (φ := φ') h
    rw [h2] at this; injection this with this; subst this
    exact ⟨h1, hT.rel.below⟩
  · cases h
end Gx
namespace Go.Proofs.Ytgpkkkekmimoeaa
open Go Go.RowKit Gx
set_option linter.unusedVariables false
set_option linter.unusedSimpArgs false
def escT : List Nat := [18446744073709551615, 18446744073709551615, 18446744073709551615, 270335, 262655, 2543, 85091685436233293935461370137369509375, 2005, 1280976784353905621337007, 550863110159, 3, 5070921558546785621290881384703, 1965, 3213912868410961332416524805780164246604123353748740671340511, 4077, 30743, 7, 7, 2251800354750591, 562951094272031, 31, 142663781451759, 68161519, 550863110159, 68719505407, 4503609291046943, 127, 4503730623873087, 4507722930203127, 8804683490551, 7410693712077967403270360692337713487303215072990656120454872218377494249865215, 70598791159, 563087392935927, 142936578727919, 1, 1, 4077, 1, 31, 1, 1, 21267647935034570061723016687933063101, 87, 233453, 33571891, 140737551270655, 39, 131635, 21, 30899, 251658431, 33783, 51, 1099511628339, 33571891, 119, 31, 495, 31, 5031373861593087, 303, 255, 268439431, 20576449374755454006179898509836232097775, 79228162551157825740963561199, 983085, 1099511628339, 1048767, 2101171, 492495, 61623, 2017706743, 144115205255864095, 157, 524479, 131635, 2361183277720719655415, 66483, 23, 137573204943, 16503, 13, 16806963, 16806963, 1074250695, 16806963, 538976237, 1, 21, 19, 1, 255, 63, 134217791, 125829167, 5, 17596514574653, 5, 8796630130815, 135095, 19, 66483, 11, 543, 131635, 19, 23, 35669885, 5, 17596514574653, 16883, 5, 66483, 8589936627, 19, 7, 19, 11, 21, 21, 10384593871817177683247510831234831, 5, 549755846719, 11, 66483, 10384593871817177683247510831234831, 66483, 1073746119, 1074268103, 8804682991559, 20829169751433159, 8391, 83087207854311395603287443752634311, 19, 19023213622105999119, 22458641409078797123448399039441150152463, 277, 16661, 7, 1073746119, 1074268103, 8804682991559, 20829169751433159, 8391, 83087207854311395603287443752634311, 19, 19023213622105999119, 22458641409078797123448399039441150152463, 4503668346913551, 5, 5, 71, 1055, 5, 4503668346913551, 71, 1055, 5, 262927, 262927, 18446744073709551615, 18446744073709551615, 18446744073709551615, 18446744073709551615, 18446744073709551615, 18446744073709551615, 18446744073709551615, 18446744073709551615, 18446744073709551615, 18446744073709551615, 18446744073709551615, 18446744073709551615, 18446744073709551615, 18446744073709551615, 18446744073709551615, 18446744073709551615]
def escK (g : Nat) : Nat := escT.getD g 0
def extK (g : Nat) : Option (Array Value → Sem Value) := none
theorem extK_ok : ExtOK Try.prog extK := by
  intro g e h
  cases h
def orc0 (_ : Nat) (_ : List AV) : Option AV := none
theorem st_below {w0 w : World} (h : Below w0.heap.size w0 w) : St w0.heap.size w0 (fun _ => none) w [] := ⟨h, h.size, (fun _ _ e => by cases e), (fun _ _ e => by cases e), ⟨fun _ _ => False, fun i A hi => by simp at hi, fun i j hi => by simp at hi⟩⟩
theorem gr_below {w w' : World} (h : Below w.heap.size w w') : Gr w w' := ⟨h.os, h.tape, h.output, h.size, fun b hb _ => h.block b hb⟩
theorem orc0_ok (w : World) : OrcOK Try.prog w.heap.size w orc0 := by
  intro g avs v h
  cases h
def isT : Option Value → Bool
  | some (.bool true) => true
  | _ => false
theorem of_isT : ∀ {o : Option Value}, isT o = true → o = some (.bool true)
  | some (.bool true), _ => rfl
def lookV (g : Nat) : List (Nat × Value) → Option AV
  | [] => none
  | p :: l => Bool.casesOn (motive := fun _ => Option AV) (Nat.beq g p.1) (lookV g l) (some (ofV p.2))
def orcT (l : List (Nat × Value)) (g : Nat) (avs : List AV) : Option AV := match avs with
  | [] => lookV g l
  | _ => orc0 g avs
theorem lookV_mem {g : Nat} {v : AV} : ∀ {l : List (Nat × Value)}, lookV g l = some v → ∃ V, (g, V) ∈ l ∧ v = ofV V
  | [], h => by cases h
  | p :: l, h => by
    unfold lookV at h
    cases hb : Nat.beq g p.1 with
    | true =>
      rw [hb] at h; injection h with h
      have := Nat.eq_of_beq_eq_true hb
      exact ⟨p.2, by rw [this]; simp, h.symm⟩
    | false =>
      rw [hb] at h
      obtain ⟨V, h1, h2⟩ := lookV_mem h
      exact ⟨V, List.mem_cons_of_mem _ h1, h2⟩
def Known (l : List (Nat × Value)) : Prop := ∀ p, p ∈ l → ∀ w', Calls Try.prog p.1 #[] w' fun e w2 => e = .returned p.2 ∧ Below w'.heap.size w' w2
theorem orcT_ok {l : List (Nat × Value)} (w : World) (h : Known l) : OrcOK Try.prog w.heap.size w (orcT l) := by
  intro g avs v hv φ Vs w' hc hB
  unfold orcT at hv
  split at hv
  · obtain ⟨V, h1, rfl⟩ := lookV_mem hv
    have e : Vs = [] := by simpa [AV.cl] using hc
    subst e
    exact (h _ h1 w').mono fun e w2 he => ⟨V, he.1, ofV_c _ V, gr_below he.2⟩
  · exact orc0_ok w g avs v hv φ Vs w' hc hB
theorem value_calls {l : List (Nat × Value)} {f : Nat} {V : Value} (hl : Known l) (h : runA Try.prog escK extK (orcT l) 100000 f [] = some V) (hb : callB Try.prog f = true) (hne : extK f = none) (w : World) :
    Calls Try.prog f #[] w fun e w2 => e = .returned V ∧ Below w.heap.size w w2 :=
  runA_ok (by kernel_rfl) extK_ok h rfl hb (orcT_ok w hl) hne
theorem known_nil : Known [] := fun _ h => by cases h
theorem known_cons {p : Nat × Value} {l : List (Nat × Value)} (h : ∀ w', Calls Try.prog p.1 #[] w' fun e w2 => e = .returned p.2 ∧ Below w'.heap.size w' w2) (hl : Known l) : Known (p :: l) := fun q hq => by
  rcases List.mem_cons.1 hq with e | e
  · subst e; exact h
  · exact hl q e
theorem true_calls {l : List (Nat × Value)} {f : Nat} (hl : Known l) (h : isT (runA Try.prog escK extK (orcT l) 100000 f []) = true) (hb : callB Try.prog f = true) (hne : extK f = none) (w : World) :
    Calls Try.prog f #[] w fun e w2 => e = .returned (.bool true) ∧ Below w.heap.size w w2 := value_calls hl (of_isT h) hb hne w
theorem true_st {f : Nat} {w : World} (h : Calls Try.prog f #[] w fun e w2 => e = .returned (.bool true) ∧ Below w.heap.size w w2) : Calls Try.prog f #[] w fun e w' => ∃ v, e = .returned v ∧ ∃ (hn : Ghost), St w.heap.size w hn w' [] ∧ v = .bool true :=
  h.mono fun e w2 he => ⟨_, he.1, fun _ => none, st_below he.2, rfl⟩
end Go.Proofs.Ytgpkkkekmimoeaa
namespace Go.Proofs.Ytgpkkkekmimoeaa
open Go Go.RowKit Gx
set_option linter.unusedVariables false
set_option linter.unusedSimpArgs false
def kv0 : List (Nat × Value) := []
theorem kv0_ok : Known kv0 := known_nil
theorem kv0_run : runA Try.prog escK extK (orcT kv0) 100000 90 [] = some (.agg #[.int .u64 0, .int .u64 576460743847706622, .int .u64 0, .int .u64 0]) := by kernel_rfl
def kv1 : List (Nat × Value) := (90, .agg #[.int .u64 0, .int .u64 576460743847706622, .int .u64 0, .int .u64 0]) :: kv0
theorem kv1_ok : Known kv1 := known_cons (fun w => value_calls kv0_ok kv0_run (by kernel_rfl) (by kernel_rfl) w) kv0_ok
theorem kv1_run : runA Try.prog escK extK (orcT kv1) 100000 87 [] = some (.agg #[.int .u64 288063250384289792, .int .u64 576460743847706622, .int .u64 0, .int .u64 0]) := by kernel_rfl
def kv2 : List (Nat × Value) := (87, .agg #[.int .u64 288063250384289792, .int .u64 576460743847706622, .int .u64 0, .int .u64 0]) :: kv1
theorem kv2_ok : Known kv2 := known_cons (fun w => value_calls kv1_ok kv1_run (by kernel_rfl) (by kernel_rfl) w) kv1_ok
end Go.Proofs.Ytgpkkkekmimoeaa
namespace Go.Proofs.Ytgpkkkekmimoeaa
open Go Go.RowKit Gx
set_option linter.unusedVariables false
set_option linter.unusedSimpArgs false
theorem aw15_run : isT (runA Try.prog escK extK (orcT kv2) 100000 20 []) = true := by kernel_rfl
theorem aw15_true (w : World) : Calls Try.prog 20 #[] w fun e w2 => e = .returned (.bool true) ∧ Below w.heap.size w w2 :=
  true_calls kv2_ok aw15_run (by kernel_rfl) (by kernel_rfl) w
end Go.Proofs.Ytgpkkkekmimoeaa
namespace Go.Proofs.Ytgpkkkekmimoeaa
open Go Go.RowKit Gx
set_option maxHeartbeats 3000000
set_option linter.unusedVariables false
set_option linter.unusedSimpArgs false
set_option maxRecDepth 8000
theorem wrapKnown_run : isT (runA Try.prog escK extK (orcT ((20, .bool true) :: kv2)) 100000 7 []) = true := by kernel_rfl
theorem wrapKnown_calls (w : World) :
    Calls Try.prog 7 #[] w fun e w' => ∃ v, e = .returned v ∧ ∃ (hn : Ghost), St w.heap.size w hn w' [] ∧ v = .bool true :=
  true_st (true_calls (known_cons (fun w => aw15_true w) kv2_ok) wrapKnown_run (by kernel_rfl) (by kernel_rfl) w)
end Go.Proofs.Ytgpkkkekmimoeaa
namespace Gx
open Go Go.RowKit
set_option linter.unusedSimpArgs false
set_option linter.unusedSectionVars false
set_option linter.unusedVariables false
def Opens {α : Type} (P : Program) (k : Kd α) (t : TypeId) : Prop :=
  ∀ {H : Type} {enc : TypeId × Value → H} {w : World} {spare : Nat → Bool} {held : Bool} {fuel : Nat} {cs : List Value} {x : DataW H × List MemPlace}, DataW.trod enc P w 0 spare held fuel t cs = some x → ∃ m, k.rep (hp w) m cs
section
variable {P : Program} {t e : TypeId}
theorem inK_wf {k : IntKind} {n : Int} (h : (Lit.int k n).wf = true) : inK k n := by
  simp only [Lit.wf, Bool.and_eq_true, decide_eq_true_eq] at h
  exact h
theorem Opens.int {k : IntKind} (ht : P.underlying t = some (.int k)) : Opens P (Kd.int k) t := fun h => by
  obtain ⟨n, rfl, _, hw⟩ := DataW.trod_int ht h
  exact ⟨n, rfl, inK_wf hw⟩
theorem Opens.bool (ht : P.underlying t = some .bool) : Opens P Kd.bool t := fun h => by
  obtain ⟨b, rfl, _⟩ := DataW.trod_bool ht h
  exact ⟨b, rfl, trivial⟩
theorem Opens.string (ht : P.underlying t = some .string) : Opens P Kd.string t := fun h => by
  obtain ⟨s, rfl, _, hs⟩ := DataW.trod_string ht h
  exact ⟨s, rfl, hs⟩
theorem exists_list {α : Type} {Q : Nat → α → Prop} : ∀ (n : Nat), (∀ i, i < n → ∃ m, Q i m) → ∃ l : List α, l.length = n ∧ ∀ i m, l[i]? = some m → Q i m
  | 0, _ => ⟨[], rfl, fun i m h => by simp at h⟩
  | n + 1, h => by
    obtain ⟨l, hl, hq⟩ := exists_list n fun i hi => h i (by omega)
    obtain ⟨m, hm⟩ := h n (by omega)
    refine ⟨l ++ [m], by simp [hl], fun i y hy => ?_⟩
    rw [List.getElem?_append] at hy
    split at hy
    · exact hq i y hy
    · rename_i hi
      have e : i - l.length = 0 := by
        rcases Nat.eq_zero_or_pos (i - l.length) with h0 | h0
        · exact h0
        · rw [List.getElem?_eq_none (by simp; omega)] at hy; cases hy
      rw [e] at hy
      simp at hy
      subst hy
      have : i = n := by omega
      rw [this]; exact hm
theorem Opens.ints {k : IntKind} {n : Nat} (hn : 0 < n) (ht : P.underlying t = some (.array n e)) (he : P.underlying e = some (.int k)) (hc : P.cellsOf e = 1) (hct : P.cellsOf t = n) : Opens P (kInts k n hn) t := fun {H enc w spare held fuel cs x} h => by
  obtain ⟨xs, m, _, _, hl, hx, hel⟩ := DataW.trod_array ht h
  rw [hct] at hl
  have h1 : ∀ i, i < n → ∃ z : Int, cs[i]? = some (.int k z) ∧ inK k z := fun i hi => by
    have h2 := hel i hi
    rw [hc, Nat.mul_one, List.getElem?_eq_getElem (by omega)] at h2
    obtain ⟨z, hz, _, hw⟩ := DataW.trod_int he h2
    refine ⟨z, ?_, inK_wf hw⟩
    have h3 := congrArg (fun l : List Value => l[0]?) hz
    simpa [List.getElem?_take, List.getElem?_drop] using h3
  obtain ⟨l, hll, hq⟩ := exists_list n h1
  refine ⟨l, ?_, hll, fun z hz => ?_⟩
  · apply List.ext_getElem?
    intro i
    rw [encInts, List.getElem?_map]
    by_cases hi : i < n
    · have h4 := hq i (l[i]'(by omega)) (List.getElem?_eq_getElem _)
      rw [h4.1, List.getElem?_eq_getElem (by omega)]; rfl
    · rw [List.getElem?_eq_none (by omega), List.getElem?_eq_none (by omega)]; rfl
  · obtain ⟨i, hi⟩ := List.mem_iff_getElem?.1 hz
    exact (hq i z hi).2
theorem Opens.set (ht : P.underlying t = some (.array 4 e)) (he : P.underlying e = some (.int .u64)) (hc : P.cellsOf e = 1) (hct : P.cellsOf t = 4) : Opens P kSet t := fun h => by
  obtain ⟨l, hl, hok⟩ := Opens.ints (n := 4) (by omega) ht he hc hct h
  exact ⟨ofWords l, by rw [hl, encSet_of hok], trivial⟩
theorem Opens.slice {α : Type} {k : Kd α} (ht : P.underlying t = some (.slice e)) (hc : P.cellsOf e = k.sz) (ho : Opens P k e) : Opens P k.slice t := fun {H enc w spare held fuel cs x} h => by
  rcases DataW.trod_slice ht h with ⟨rfl, _⟩ | ⟨a, len, cap, elems, rest, n, _, rfl, _, _, hl, hm, hlen, hel, _, _⟩
  · exact ⟨[], none, 0, rfl, Nat.le_refl _, by simp [maxLen], fun hne => (hne rfl).elim⟩
  · rw [hc] at hel
    have h1 : ∀ i, i < len → ∃ m, ∃ seg, k.rep (hp w) m seg ∧ ∀ j v, seg[j]? = some v → gcell (hp w) (a.add (i * k.sz + j)) = some v := fun i hi => by
      have h2 := hel i hi
      rw [List.getElem?_eq_getElem (by omega)] at h2
      obtain ⟨seg, hseg, hd⟩ := Option.bind_eq_some_iff.1 h2
      obtain ⟨m, hr⟩ := ho hd
      refine ⟨m, seg, hr, fun j v hj => ?_⟩
      obtain ⟨_, hlen2, hcell⟩ := World.cells?_some hseg
      have hjl : j < k.sz := by
        have := (List.getElem?_eq_some_iff.1 hj).1
        rw [k.len hr] at this; exact this
      have h5 := hcell j hjl
      rw [hj] at h5
      rw [Addr.add_add] at h5
      show gcell (hp w) _ = _
      unfold gcell hp
      unfold World.cell? at h5
      exact h5
    obtain ⟨l, hll, hq⟩ := exists_list len h1
    refine ⟨l, some a, cap, by rw [hll], by omega, hm, fun _ => ⟨a, rfl, hq⟩⟩
end
end Gx
namespace Gx
open Go Go.RowKit
set_option linter.unusedSimpArgs false
set_option linter.unusedSectionVars false
set_option linter.unusedVariables false
section
variable {P : Program} {t : TypeId}
theorem trod_field {H : Type} {enc : TypeId × Value → H} {w : World} {spare : Nat → Bool} {held : Bool} {fuel : Nat} {cs : List Value} {x : DataW H × List MemPlace} {α : Type} {k : Kd α} {q o ft : Nat} (hf : zaf P t q = some (o, ft)) (hc : P.cellsOf ft = k.sz) (ho : Opens P k ft) (h : DataW.trod enc P w 0 spare held fuel t cs = some x) : ∃ m, k.rep (hp w) m ((cs.drop o).take k.sz) := by
  obtain ⟨fs, fd, hu, hq, rfl, rfl⟩ := fieldInfo_parts hf
  obtain ⟨xs, n, _, _, _, hl, hp⟩ := DataW.trod_struct hu h
  have h1 := hp q fd hq
  have hlt : q < fs.size := (Array.getElem?_eq_some_iff.1 hq).1
  rw [hc, List.getElem?_eq_getElem (by omega)] at h1
  exact ho h1
theorem trod_len {H : Type} {enc : TypeId × Value → H} {w : World} {spare : Nat → Bool} {held : Bool} {fuel : Nat} {cs : List Value} {x : DataW H × List MemPlace} {q o ft : Nat} (hf : zaf P t q = some (o, ft)) (h : DataW.trod enc P w 0 spare held fuel t cs = some x) : cs.length = P.cellsOf t := by
  obtain ⟨fs, fd, hu, hq, rfl, rfl⟩ := fieldInfo_parts hf
  obtain ⟨xs, n, _, _, hl, _, _⟩ := DataW.trod_struct hu h
  exact hl
theorem Opens.spot {a b : TypeId} (h0 : zaf P t 0 = some (0, a)) (h1 : zaf P t 1 = some (4, b)) (hc : P.cellsOf t = 5) (ha : P.cellsOf a = 4) (hb : P.cellsOf b = 1) (oa : Opens P kSet a) (ob : Opens P (Kd.int .u8) b) : Opens P kSpot t := fun {H enc w spare held fuel cs x} h => by
  obtain ⟨s, e0, _⟩ := trod_field h0 ha oa h
  obtain ⟨n, e1, hn⟩ := trod_field h1 hb ob h
  have hl := trod_len h0 h
  rw [hc] at hl
  refine ⟨⟨s, n⟩, ?_, hn⟩
  have e2 : cs = (cs.drop 0).take 4 ++ (cs.drop 4).take 1 := by
    rw [List.drop_zero, List.take_of_length_le (l := cs.drop 4) (by simp; omega), List.take_append_drop]
  rw [e2]
  show (cs.drop 0).take kSet.sz ++ (cs.drop 4).take (Kd.int .u8).sz = _
  rw [e0, e1]; rfl
end
end Gx
namespace Go.Proofs.Ytgpkkkekmimoeaa
open Go Go.ChangeShapes Go.WideShapes Go.ChangeAt Go.RowKit Gx
set_option linter.unusedVariables false
theorem own : ownKnob Try.prog.godebug = none := by kernel_rfl
end Go.Proofs.Ytgpkkkekmimoeaa
