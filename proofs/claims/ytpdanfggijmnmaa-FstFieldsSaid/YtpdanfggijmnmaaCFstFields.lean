/- The given statement FstFields: the law's walk is laid into the row. -/
import Derived.Test.YtpdanfggijmnmaaLFstFields3
namespace Go.Proofs.Ytpdanfggijmnmaa
open Go Go.ChangeShapes Go.WideShapes Go.ChangeAt Go.RowKit Gx
set_option linter.unusedVariables false
set_option linter.unusedSimpArgs false
set_option maxHeartbeats 20000000 in
set_option maxRecDepth 100000 in
theorem fstFields_lifted (os : Os) (started : os.Started) (H : Type) (enc : TypeId × Value → H) :
    ReturnsInHanded {} Try.checked os 7 .any (Rows.fstFieldsSpec.pre6 enc Try.prog Try.f7 Rows.fstFieldsRow.domain false) (Rows.fstFieldsSpec.post enc Try.prog Try.f7 false true false false) := by
  refine returnsInHanded_of_change (C := Try.checked) own started (by kernel_rfl) Try.func7 (ChangeSpec.witness6 (enc := enc) (C := Try.checked) false ⟨#[], #[.agg #[.slice none 0 0, .slice none 0 0, .slice none 0 0, .slice none 0 0, .bool false], .string ⟨#[]⟩], []⟩ 8 (by kernel_rfl) (by kernel_rfl) (by kernel_rfl) (by kernel_rfl)) ?_
  intro W base args ds gs before hval0 hW hcnd _
  have hval : ∀ (j : Nat) t v, Try.f7.params[j]? = some t → args[j]? = some v → Value.okWide Try.prog W .any base t v := hval0
  have hW' := hW
  obtain ⟨p, q, hA0, hV, rfl, hfz, hnd⟩ := hW
  have hA : DataW.TrodAll enc Try.prog W 0 (fun _ => true) true Try.f7.params.toList args.toList ds p := hA0
  rw [Try.params7] at hA hval
  obtain ⟨v0, vs0, d0, ds0, p0, q0, hargs, rfl, rfl, h0, r0⟩ := trodAll_cons hA
  obtain ⟨v1, vs1, d1, ds1, p1, q1, rfl, rfl, rfl, h1, r1⟩ := trodAll_cons r0
  obtain ⟨rfl, rfl, rfl⟩ := trodAll_nil r1
  obtain rfl : args = #[v0, v1] := by cases args; simp_all
  obtain ⟨rfl, rfl⟩ := trodVars_none hV
  have k0 := h0
  have lt0 : ∀ x ∈ p0, x.block < W.heap.size := by obtain ⟨m, hm⟩ := k0; exact DataW.trod_lt m _ _ _ hm
  obtain ⟨a0, rfl, _⟩ := okWide_struct (fs := Try.prog.fieldsOf 27) (by kernel_rfl) (hval 0 27 v0 rfl rfl)
  obtain ⟨m0, A0_0, C0_0, A0_1, C0_1, A0_2, C0_2, A0_3, C0_3, e0, ⟨b0_0, l0_0⟩, ⟨b0_1, l0_1⟩, ⟨b0_2, l0_2⟩, b0_3, l0_3⟩ : ∃ m, (kMach).rep (hp W) m (Value.agg a0).cells.toList := by
    obtain ⟨fuel, hf⟩ := h0
    exact (zcp.mach (t0 := 22) (t1 := 23) (t2 := 24) (t3 := 25) (t4 := 4) (by kernel_rfl) (by kernel_rfl) (by kernel_rfl) (by kernel_rfl) (by kernel_rfl) (by kernel_rfl) (by kernel_rfl) (by kernel_rfl) (by kernel_rfl) (by kernel_rfl) (by kernel_rfl) (zcp.slice (e := 43) (by kernel_rfl) (by kernel_rfl) (zcp.spot (a := 41) (b := 5) (by kernel_rfl) (by kernel_rfl) (by kernel_rfl) (by kernel_rfl) (by kernel_rfl) (zcp.set (e := 39) (by kernel_rfl) (by kernel_rfl) (by kernel_rfl) (by kernel_rfl)) (zcp.int (by kernel_rfl)))) (zcp.slice (e := 3) (by kernel_rfl) (by kernel_rfl) (zcp.int (by kernel_rfl))) (zcp.slice (e := 23) (by kernel_rfl) (by kernel_rfl) (zcp.slice (e := 3) (by kernel_rfl) (by kernel_rfl) (zcp.int (by kernel_rfl)))) (zcp.slice (e := 4) (by kernel_rfl) (by kernel_rfl) (zcp.bool (by kernel_rfl))) (zcp.bool (by kernel_rfl))) hf
  obtain rfl : a0 = #[.slice A0_0 m0.spots.length C0_0, .slice A0_1 m0.first.length C0_1, .slice A0_2 m0.follow.length C0_2, .slice A0_3 m0.last.length C0_3, .bool m0.empty] := by apply Array.ext'; simpa [Value.cells] using e0
  have k1 := h1
  have lt1 : ∀ x ∈ p1, x.block < W.heap.size := by obtain ⟨m, hm⟩ := k1; exact DataW.trod_lt m _ _ _ hm
  obtain ⟨a1, rfl⟩ := okWide_string (by kernel_rfl) (hval 1 9 v1 rfl rfl)
  obtain ⟨m1, e1, o1⟩ : ∃ m, (Kd.string).rep (hp W) m (Value.string a1).cells.toList := by
    obtain ⟨fuel, hf⟩ := h1
    exact (zcp.string (by kernel_rfl)) hf
  simp [Value.cells] at e1
  subst e1
  clear hA0 hval0
  refine (fstFields_calls W m0 A0_0 C0_0 b0_0 l0_0 A0_1 C0_1 b0_1 l0_1 A0_2 C0_2 b0_2 l0_2 A0_3 C0_3 b0_3 l0_3 a1 o1).mono fun e W' he => ?_
  obtain ⟨_, rfl, _, T, rfl⟩ := he
  have bel := T.below
  exact ⟨_, rfl, _, _, _, [], _, [], hW', trodAll_mk1 (shut_bool (by kernel_rfl) _), (trodAll_cons_mk (Below.trod laidOut (by kernel_rfl) (of_decide_eq_true (by kernel_rfl)) k0 bel lt0) (trodAll_cons_mk (Below.trod laidOut (by kernel_rfl) (of_decide_eq_true (by kernel_rfl)) k1 bel lt1) trodAll_mk0)), rfl, bel.frame _, fun h => by cases h⟩
theorem fstFields_and {a b : Bool} (ha : a = true) (hb : b = true) : (a && b) = true := by rw [ha, hb]; rfl
set_option maxHeartbeats 20000000 in
set_option maxRecDepth 100000 in
theorem fstFields_closed : joinedFacts Try.pinned.checked.prog 7 Try.f7 Rows.fstFieldsSpec Rows.fstFieldsRow = true := by
  unfold joinedFacts
  repeat' with_reducible apply fstFields_and
  all_goals (as_aux_lemma => kernel_rfl)
set_option maxHeartbeats 20000000 in
set_option maxRecDepth 100000 in
theorem fstFields_holds : Rows.FstFieldsSaid :=
  OpenClaim.holds_of_wide 7 Try.f7 rfl rfl rfl rfl rfl rfl rfl ⟨rfl, rfl, rfl, rfl, rfl⟩ rfl rfl rfl rfl rfl (by as_aux_lemma => kernel_rfl) Try.func7 fstFields_closed
    (of_decide_eq_true (by as_aux_lemma => kernel_rfl)) (by unfold Func.isWrapper; first | (rw [if_pos (by decide +kernel)]; kernel_rfl) | (rw [if_neg (by decide +kernel)]; exact ⟨rfl, rfl⟩))
    (fun os started H enc _ => fstFields_lifted os started H enc)
end Go.Proofs.Ytpdanfggijmnmaa
