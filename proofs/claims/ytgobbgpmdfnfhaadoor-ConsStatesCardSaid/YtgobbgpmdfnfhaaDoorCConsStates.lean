/- The given statement ConsStates: the law's walk is laid into the row, and the row's card is closed. -/
import Derived.SevenTiedAt
import Derived.Test.YtgobbgpmdfnfhaaDoorLConsStates5
set_option linter.unusedSectionVars false
set_option linter.unusedVariables false
set_option linter.unusedSimpArgs false
namespace Go.Proofs.YtgobbgpmdfnfhaaDoor
open Go Go.ChangeShapes Go.WideShapes Go.ChangeAt Go.RowKit Gx
set_option linter.unusedVariables false
set_option linter.unusedSimpArgs false
set_option maxHeartbeats 20000000 in
set_option maxRecDepth 100000 in
theorem consStates_lifted (os : Os) (started : os.Started) (H : Type) (enc : TypeId × Value → H) :
    ReturnsInHanded {} Tryd.checked os 7 .any (fun w args => (Rows.consStatesSpec.pre enc Tryd.prog Tryd.f7 [] false w args ∧ laidMetH Tryd.prog laid w) ∧ sizedMet enc Tryd.prog Tryd.f7 (OpenSpec.ofChange Rows.consStatesSpec) false w args) (Rows.consStatesSpec.post enc Tryd.prog Tryd.f7 false true false false) := by
  refine returnsInHanded_of_change_and (C := Tryd.checked) (X := fun w _ => laidMetH Tryd.prog laid w) (fun _ _ _ hh h => h.of_heap hh) own started (by kernel_rfl) Tryd.func7
    (ChangeSpec.witness_shaped (enc := enc) (C := Tryd.checked) (os := os) (X := fun w _ => laidMetH Tryd.prog laid w) false (World.doorLaid Tryd.prog 4000 os) #[.agg #[.slice none 0 0, .slice none 0 0], .int .u64 0, .int .u8 0] 8 rfl (World.shaped_of_RefB (by kernel_rfl) (by kernel_rfl)) (by kernel_rfl) (by kernel_rfl) (by kernel_rfl) (door_met os _)) ?_
  intro W base args ds gs before hval0 hW _ _ hL _
  have hval : ∀ (j : Nat) t v, Tryd.f7.params[j]? = some t → args[j]? = some v → Value.okWide Tryd.prog W .any base t v := hval0
  have hW' := hW
  obtain ⟨p, q, hA0, hV, rfl, hfz, hnd⟩ := hW
  have hA : DataW.TrodAll enc Tryd.prog W 0 (fun _ => true) true Tryd.f7.params.toList args.toList ds p := hA0
  rw [Tryd.params7] at hA hval
  obtain ⟨v0, vs0, d0, ds0, p0, q0, hargs, rfl, rfl, h0, r0⟩ := trodAll_cons hA
  obtain ⟨v1, vs1, d1, ds1, p1, q1, rfl, rfl, rfl, h1, r1⟩ := trodAll_cons r0
  obtain ⟨v2, vs2, d2, ds2, p2, q2, rfl, rfl, rfl, h2, r2⟩ := trodAll_cons r1
  obtain ⟨rfl, rfl, rfl⟩ := trodAll_nil r2
  obtain rfl : args = #[v0, v1, v2] := by cases args; simp_all
  obtain ⟨rfl, rfl⟩ := trodVars_none hV
  have k0 := h0
  have lt0 : ∀ x ∈ p0, x.block < W.heap.size := by obtain ⟨m, hm⟩ := k0; exact DataW.trod_lt m _ _ _ hm
  obtain ⟨a0, rfl, _⟩ := okWide_struct (fs := Tryd.prog.fieldsOf 34) (by kernel_rfl) (hval 0 34 v0 rfl rfl)
  obtain ⟨m0, e0⟩ : ∃ m, (kdF 10).rep (hp W) m (Value.agg a0).cells.toList := by
    obtain ⟨fuel, hf⟩ := h0
    exact (show Opens PX (kdF 10) 34 from Opens.iso (fun x => (⟨x.1, x.2⟩ : TreeM)) (fun _ => rfl) (Opens.of (q := 0) (o := 0) (ft := 31) (by kernel_rfl) (by kernel_rfl) (OpensAt.pair (OpensAt.field (q := 0) (o := 0) (ft := 31) (by kernel_rfl) (by kernel_rfl) (Opens.slice (e := 39) (by kernel_rfl) (by kernel_rfl) (show Opens PX (kdF 8) 39 from Opens.iso (fun x => (⟨x.1, x.2.1, x.2.2.1, x.2.2.2.1, x.2.2.2.2.1, x.2.2.2.2.2⟩ : NodeM)) (fun _ => rfl) (Opens.of (q := 0) (o := 0) (ft := 5) (by kernel_rfl) (by kernel_rfl) (OpensAt.pair (OpensAt.field (q := 0) (o := 0) (ft := 5) (by kernel_rfl) (by kernel_rfl) (Opens.int (by kernel_rfl))) (OpensAt.pair (OpensAt.field (q := 1) (o := 1) (ft := 37) (by kernel_rfl) (by kernel_rfl) (show Opens PX (kdF 5) 37 from Opens.set (e := 35) (by kernel_rfl) (by kernel_rfl) (by kernel_rfl) (by kernel_rfl))) (OpensAt.pair (OpensAt.field (q := 2) (o := 5) (ft := 3) (by kernel_rfl) (by kernel_rfl) (Opens.int (by kernel_rfl))) (OpensAt.pair (OpensAt.field (q := 3) (o := 6) (ft := 3) (by kernel_rfl) (by kernel_rfl) (Opens.int (by kernel_rfl))) (OpensAt.pair (OpensAt.field (q := 4) (o := 7) (ft := 3) (by kernel_rfl) (by kernel_rfl) (Opens.int (by kernel_rfl))) (OpensAt.field (q := 5) (o := 8) (ft := 3) (by kernel_rfl) (by kernel_rfl) (Opens.int (by kernel_rfl))) (by kernel_rfl)) (by kernel_rfl)) (by kernel_rfl)) (by kernel_rfl)) (by kernel_rfl)))))) (OpensAt.field (q := 1) (o := 1) (ft := 32) (by kernel_rfl) (by kernel_rfl) (Opens.slice (e := 41) (by kernel_rfl) (by kernel_rfl) (show Opens PX (kdF 9) 41 from Opens.iso (fun x => (⟨x.1, x.2⟩ : PrtM)) (fun _ => rfl) (Opens.of (q := 0) (o := 0) (ft := 3) (by kernel_rfl) (by kernel_rfl) (OpensAt.pair (OpensAt.field (q := 0) (o := 0) (ft := 3) (by kernel_rfl) (by kernel_rfl) (Opens.int (by kernel_rfl))) (OpensAt.field (q := 1) (o := 1) (ft := 4) (by kernel_rfl) (by kernel_rfl) (Opens.bool (by kernel_rfl))) (by kernel_rfl)))))) (by kernel_rfl)))) hf
  have k1 := h1
  have lt1 : ∀ x ∈ p1, x.block < W.heap.size := by obtain ⟨m, hm⟩ := k1; exact DataW.trod_lt m _ _ _ hm
  obtain ⟨a1, rfl⟩ := okWide_int (k := .u64) (by kernel_rfl) (hval 1 35 v1 rfl rfl)
  obtain ⟨m1, e1, o1⟩ : ∃ m, (Kd.int .u64).rep (hp W) m (Value.int .u64 a1).cells.toList := by
    obtain ⟨fuel, hf⟩ := h1
    exact (Opens.int (by kernel_rfl)) hf
  simp [Value.cells] at e1
  subst e1
  have k2 := h2
  have lt2 : ∀ x ∈ p2, x.block < W.heap.size := by obtain ⟨m, hm⟩ := k2; exact DataW.trod_lt m _ _ _ hm
  obtain ⟨a2, rfl⟩ := okWide_int (k := .u8) (by kernel_rfl) (hval 2 5 v2 rfl rfl)
  obtain ⟨m2, e2, o2⟩ : ∃ m, (Kd.int .u8).rep (hp W) m (Value.int .u8 a2).cells.toList := by
    obtain ⟨fuel, hf⟩ := h2
    exact (Opens.int (by kernel_rfl)) hf
  simp [Value.cells] at e2
  subst e2
  refine (v_bool (ads := [.fl 10 m0, .int .u64 a1, .int .u8 a2]) ok_consStates (tab_of_laid hL) rfl rfl rfl (fun p hp => by cases hp) rfl (lr_cons (vr_fl e0) (lr_cons (vr_int o1) (lr_cons (vr_int o2) lr_nil)))).mono fun e W' he => ?_
  obtain ⟨rfl, bel⟩ := he
  exact ⟨_, rfl, _, _, _, [], _, [], hW', trodAll_mk1 (shut_bool (by kernel_rfl) _), (trodAll_cons_mk (Below.trod laidOut (by kernel_rfl) (of_decide_eq_true (by kernel_rfl)) k0 bel lt0) (trodAll_cons_mk (Below.trod laidOut (by kernel_rfl) (of_decide_eq_true (by kernel_rfl)) k1 bel lt1) (trodAll_cons_mk (Below.trod laidOut (by kernel_rfl) (of_decide_eq_true (by kernel_rfl)) k2 bel lt2) trodAll_mk0))), rfl, bel.frame _, fun h => by cases h⟩
theorem consStates_and {a b : Bool} (ha : a = true) (hb : b = true) : (a && b) = true := by rw [ha, hb]; rfl
set_option maxHeartbeats 20000000 in
set_option maxRecDepth 100000 in
theorem consStates_closed : joinedFacts Tryd.pinned.checked.prog 7 Tryd.f7 Rows.consStatesSpec Rows.consStatesRow = true := by
  unfold joinedFacts
  repeat' with_reducible apply consStates_and
  all_goals (as_aux_lemma => kernel_rfl)
set_option maxHeartbeats 20000000 in
set_option maxRecDepth 100000 in
theorem consStates_holds : Rows.ConsStatesSaid :=
  OpenClaim.holds_of_wide 7 Tryd.f7 rfl rfl rfl rfl rfl rfl rfl ⟨rfl, rfl, rfl, rfl, rfl⟩ rfl rfl rfl rfl rfl (by as_aux_lemma => kernel_rfl) Tryd.func7 consStates_closed
    (of_decide_eq_true (by as_aux_lemma => kernel_rfl)) (by unfold Func.isWrapper; first | (rw [if_pos (by decide +kernel)]; kernel_rfl) | (rw [if_neg (by decide +kernel)]; exact ⟨rfl, rfl⟩))
    (fun os started H enc _ => consStates_lifted os started H enc)
set_option maxHeartbeats 20000000 in
set_option maxRecDepth 100000 in
theorem consStates_card : Rows.ConsStatesCardSaid :=
  Claim7.holds_tied_plain_at .later [] [.data] true (true, "bd3d5a2f25a99cd6e25a6ffc304ccbadfc29343db7ef4e6289a3729748af04c9") true
    consStates_holds (fun _ h => by cases h) (by as_aux_lemma => kernel_rfl) (fun _ h => by cases h) consStates_row_tie rfl ⟨rfl, rfl⟩ (by as_aux_lemma => kernel_rfl) rfl
    (fun f fn hf hfn => by
      obtain rfl : f = 7 := Option.some.inj ((show Tryd.prog.funcNamed "shibboleth/shibbolethlaw09.ConsStates" = some 7 by as_aux_lemma => kernel_rfl).symm.trans hf) |>.symm
      obtain rfl : fn = Tryd.f7 := (Option.some.inj (Tryd.func7.symm.trans hfn)).symm
      exact ⟨by as_aux_lemma => kernel_rfl, fun j t ht => by
        rw [Tryd.params7] at ht
        have ht2 : t = 34 ∨ t = 35 ∨ t = 5 := by
          rcases j with _ | j
          · simp at ht; subst ht; simp
          rcases j with _ | j
          · simp at ht; subst ht; simp
          rcases j with _ | j
          · simp at ht; subst ht; simp
          simp at ht
        rcases ht2 with rfl | rfl | rfl
        all_goals (first | exact (show Tryd.prog.wantsStandIn 34 = false by as_aux_lemma => kernel_rfl) | exact (show Tryd.prog.wantsStandIn 35 = false by as_aux_lemma => kernel_rfl) | exact (show Tryd.prog.wantsStandIn 5 = false by as_aux_lemma => kernel_rfl))⟩)
    (by as_aux_lemma => kernel_rfl)
end Go.Proofs.YtgobbgpmdfnfhaaDoor
