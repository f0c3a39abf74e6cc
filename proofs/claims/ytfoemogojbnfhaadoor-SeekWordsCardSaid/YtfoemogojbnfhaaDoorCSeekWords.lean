/- The given statement SeekWords: the law's walk is laid into the row, and the row's card is closed. -/
import Derived.SevenTiedAt
import Derived.Test.YtfoemogojbnfhaaDoorLSeekWords4
namespace Go.Proofs.YtfoemogojbnfhaaDoor
open Go Go.ChangeShapes Go.WideShapes Go.ChangeAt Go.RowKit Gx
set_option linter.unusedVariables false
set_option linter.unusedSimpArgs false
set_option maxHeartbeats 20000000 in
set_option maxRecDepth 100000 in
theorem seekWords_lifted (os : Os) (started : os.Started) (H : Type) (enc : TypeId × Value → H) :
    ReturnsInHanded {} Tryd.checked os 11 .any (fun w args => (Rows.seekWordsSpec.pre enc Tryd.prog Tryd.f11 [] false w args ∧ laidMetH Tryd.prog laid w) ∧ sizedMet enc Tryd.prog Tryd.f11 (OpenSpec.ofChange Rows.seekWordsSpec) false w args) (Rows.seekWordsSpec.post enc Tryd.prog Tryd.f11 false true false false) := by
  refine returnsInHanded_of_change_and (C := Tryd.checked) (X := fun w _ => laidMetH Tryd.prog laid w) (fun _ _ _ hh h => h.of_heap hh) own started (by kernel_rfl) Tryd.func11
    (ChangeSpec.witness_shaped (enc := enc) (C := Tryd.checked) (os := os) (X := fun w _ => laidMetH Tryd.prog laid w) false (World.doorLaid Tryd.prog 4000 os) #[zv35, .string ⟨#[]⟩, .string ⟨#[]⟩] 8 rfl (World.shaped_of_RefB (by kernel_rfl) (by kernel_rfl)) (by kernel_rfl) (by kernel_rfl) (by kernel_rfl) (door_met os _)) ?_
  intro W base args ds gs before hval0 hW _ _ hL _
  have hval : ∀ (j : Nat) t v, Tryd.f11.params[j]? = some t → args[j]? = some v → Value.okWide Tryd.prog W .any base t v := hval0
  have hW' := hW
  obtain ⟨p, q, hA0, hV, rfl, hfz, hnd⟩ := hW
  have hA : DataW.TrodAll enc Tryd.prog W 0 (fun _ => true) true Tryd.f11.params.toList args.toList ds p := hA0
  rw [Tryd.params11] at hA hval
  obtain ⟨v0, vs0, d0, ds0, p0, q0, hargs, rfl, rfl, h0, r0⟩ := trodAll_cons hA
  obtain ⟨v1, vs1, d1, ds1, p1, q1, rfl, rfl, rfl, h1, r1⟩ := trodAll_cons r0
  obtain ⟨v2, vs2, d2, ds2, p2, q2, rfl, rfl, rfl, h2, r2⟩ := trodAll_cons r1
  obtain ⟨rfl, rfl, rfl⟩ := trodAll_nil r2
  obtain rfl : args = #[v0, v1, v2] := by cases args; simp_all
  obtain ⟨rfl, rfl⟩ := trodVars_none hV
  have k0 := h0
  have lt0 : ∀ x ∈ p0, x.block < W.heap.size := by obtain ⟨m, hm⟩ := k0; exact DataW.trod_lt m _ _ _ hm
  obtain ⟨a0, rfl, _⟩ := okWide_struct (fs := Tryd.prog.fieldsOf 35) (by kernel_rfl) (hval 0 35 v0 rfl rfl)
  obtain ⟨m0, A0_1, C0_1, A0_2, C0_2, e0, o0, ⟨b0_1, l0_1⟩, b0_2, l0_2⟩ : ∃ m, (kDfa).rep (hp W) m (Value.agg a0).cells.toList := by
    obtain ⟨fuel, hf⟩ := h0
    exact (Opens.dfa (t0 := 32) (t1 := 24) (t2 := 25) (by kernel_rfl) (by kernel_rfl) (by kernel_rfl) (by kernel_rfl) (by kernel_rfl) (by kernel_rfl) (by kernel_rfl) (Opens.part (a := 30) (b := 3) (by kernel_rfl) (by kernel_rfl) (by kernel_rfl) (by kernel_rfl) (by kernel_rfl) (Opens.ints (e := 5) (by decide) (by kernel_rfl) (by kernel_rfl) (by kernel_rfl) (by kernel_rfl)) (Opens.int (by kernel_rfl))) (Opens.slice (e := 23) (by kernel_rfl) (by kernel_rfl) (Opens.slice (e := 3) (by kernel_rfl) (by kernel_rfl) (Opens.int (by kernel_rfl)))) (Opens.slice (e := 4) (by kernel_rfl) (by kernel_rfl) (Opens.bool (by kernel_rfl)))) hf
  obtain rfl : a0 = (encPart m0.part ++ [Value.slice A0_1 m0.next.length C0_1, Value.slice A0_2 m0.final.length C0_2]).toArray := by apply Array.ext'; simpa [Value.cells] using e0
  have k1 := h1
  have lt1 : ∀ x ∈ p1, x.block < W.heap.size := by obtain ⟨m, hm⟩ := k1; exact DataW.trod_lt m _ _ _ hm
  obtain ⟨a1, rfl⟩ := okWide_string (by kernel_rfl) (hval 1 9 v1 rfl rfl)
  obtain ⟨m1, e1, o1⟩ : ∃ m, (Kd.string).rep (hp W) m (Value.string a1).cells.toList := by
    obtain ⟨fuel, hf⟩ := h1
    exact (Opens.string (by kernel_rfl)) hf
  simp [Value.cells] at e1
  subst e1
  have k2 := h2
  have lt2 : ∀ x ∈ p2, x.block < W.heap.size := by obtain ⟨m, hm⟩ := k2; exact DataW.trod_lt m _ _ _ hm
  obtain ⟨a2, rfl⟩ := okWide_string (by kernel_rfl) (hval 2 9 v2 rfl rfl)
  obtain ⟨m2, e2, o2⟩ : ∃ m, (Kd.string).rep (hp W) m (Value.string a2).cells.toList := by
    obtain ⟨fuel, hf⟩ := h2
    exact (Opens.string (by kernel_rfl)) hf
  simp [Value.cells] at e2
  subst e2
  clear hA0 hval0
  refine (seekWords_calls W m0 o0 A0_1 C0_1 b0_1 l0_1 A0_2 C0_2 b0_2 l0_2 a1 o1 a2 o2 (tab_of_laid hL)).mono fun e W' he => ?_
  obtain ⟨_, rfl, _, T, rfl⟩ := he
  have bel := T.below
  exact ⟨_, rfl, _, _, _, [], _, [], hW', trodAll_mk1 (shut_bool (by kernel_rfl) _), (trodAll_cons_mk (Below.trod laidOut (by kernel_rfl) (of_decide_eq_true (by kernel_rfl)) k0 bel lt0) (trodAll_cons_mk (Below.trod laidOut (by kernel_rfl) (of_decide_eq_true (by kernel_rfl)) k1 bel lt1) (trodAll_cons_mk (Below.trod laidOut (by kernel_rfl) (of_decide_eq_true (by kernel_rfl)) k2 bel lt2) trodAll_mk0))), rfl, bel.frame _, fun h => by cases h⟩
theorem seekWords_and {a b : Bool} (ha : a = true) (hb : b = true) : (a && b) = true := by rw [ha, hb]; rfl
set_option maxHeartbeats 20000000 in
set_option maxRecDepth 100000 in
theorem seekWords_closed : joinedFacts Tryd.pinned.checked.prog 11 Tryd.f11 Rows.seekWordsSpec Rows.seekWordsRow = true := by
  unfold joinedFacts
  repeat' with_reducible apply seekWords_and
  all_goals (as_aux_lemma => kernel_rfl)
set_option maxHeartbeats 20000000 in
set_option maxRecDepth 100000 in
theorem seekWords_holds : Rows.SeekWordsSaid :=
  OpenClaim.holds_of_wide 11 Tryd.f11 rfl rfl rfl rfl rfl rfl rfl ⟨rfl, rfl, rfl, rfl, rfl⟩ rfl rfl rfl rfl rfl (by as_aux_lemma => kernel_rfl) Tryd.func11 seekWords_closed
    (of_decide_eq_true (by as_aux_lemma => kernel_rfl)) (by unfold Func.isWrapper; first | (rw [if_pos (by decide +kernel)]; kernel_rfl) | (rw [if_neg (by decide +kernel)]; exact ⟨rfl, rfl⟩))
    (fun os started H enc _ => seekWords_lifted os started H enc)
set_option maxHeartbeats 20000000 in
set_option maxRecDepth 100000 in
theorem seekWords_card : Rows.SeekWordsCardSaid :=
  Claim7.holds_tied_plain_at .later [] [.data] true (true, "6d06a939527c1bececad9cdba1e2447c4588d6f38a3aba26e960e13327b8b719") true
    seekWords_holds (fun _ h => by cases h) (by as_aux_lemma => kernel_rfl) (fun _ h => by cases h) seekWords_row_tie rfl ⟨rfl, rfl⟩ (by as_aux_lemma => kernel_rfl) rfl
    (fun f fn hf hfn => by
      obtain rfl : f = 11 := Option.some.inj ((show Tryd.prog.funcNamed "shibboleth/shibbolethlaw13.SeekWords" = some 11 by as_aux_lemma => kernel_rfl).symm.trans hf) |>.symm
      obtain rfl : fn = Tryd.f11 := (Option.some.inj (Tryd.func11.symm.trans hfn)).symm
      exact ⟨by as_aux_lemma => kernel_rfl, fun j t ht => by
        rw [Tryd.params11] at ht
        have ht2 : t = 35 ∨ t = 9 ∨ t = 9 := by
          rcases j with _ | j
          · simp at ht; subst ht; simp
          rcases j with _ | j
          · simp at ht; subst ht; simp
          rcases j with _ | j
          · simp at ht; subst ht; simp
          simp at ht
        rcases ht2 with rfl | rfl | rfl
        all_goals (first | exact (show Tryd.prog.wantsStandIn 35 = false by as_aux_lemma => kernel_rfl) | exact (show Tryd.prog.wantsStandIn 9 = false by as_aux_lemma => kernel_rfl) | exact (show Tryd.prog.wantsStandIn 9 = false by as_aux_lemma => kernel_rfl))⟩)
    (by as_aux_lemma => kernel_rfl)
end Go.Proofs.YtfoemogojbnfhaaDoor
