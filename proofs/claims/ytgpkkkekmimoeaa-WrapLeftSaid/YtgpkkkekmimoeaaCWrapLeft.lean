/- The given statement WrapLeft: the law's walk is laid into the row. -/
import Derived.Test.YtgpkkkekmimoeaaLWrapLeft2
namespace Go.Proofs.Ytgpkkkekmimoeaa
open Go Go.ChangeShapes Go.WideShapes Go.ChangeAt Go.RowKit Gx
set_option linter.unusedVariables false
set_option linter.unusedSimpArgs false
set_option maxHeartbeats 20000000 in
set_option maxRecDepth 100000 in
theorem wrapLeft_lifted (os : Os) (started : os.Started) (H : Type) (enc : TypeId × Value → H) :
    ReturnsInHanded {} Try.checked os 5 .any (Rows.wrapLeftSpec.pre6 enc Try.prog Try.f5 Rows.wrapLeftRow.domain false) (Rows.wrapLeftSpec.post enc Try.prog Try.f5 false true false false) := by
  refine returnsInHanded_of_change (C := Try.checked) own started (by kernel_rfl) Try.func5 (ChangeSpec.witness6 (enc := enc) (C := Try.checked) false ⟨#[], #[.string ⟨#[]⟩, .agg #[.int .u64 0, .int .u64 0, .int .u64 0, .int .u64 0], .agg #[.int .u64 0, .int .u64 0, .int .u64 0, .int .u64 0], .agg #[.int .u64 0, .int .u64 0, .int .u64 0, .int .u64 0]], []⟩ 8 (by kernel_rfl) (by kernel_rfl) (by kernel_rfl) (by kernel_rfl)) ?_
  intro W base args ds gs before hval0 hW hcnd _
  have hval : ∀ (j : Nat) t v, Try.f5.params[j]? = some t → args[j]? = some v → Value.okWide Try.prog W .any base t v := hval0
  have hW' := hW
  obtain ⟨p, q, hA0, hV, rfl, hfz, hnd⟩ := hW
  have hA : DataW.TrodAll enc Try.prog W 0 (fun _ => true) true Try.f5.params.toList args.toList ds p := hA0
  rw [Try.params5] at hA hval
  obtain ⟨v0, vs0, d0, ds0, p0, q0, hargs, rfl, rfl, h0, r0⟩ := trodAll_cons hA
  obtain ⟨v1, vs1, d1, ds1, p1, q1, rfl, rfl, rfl, h1, r1⟩ := trodAll_cons r0
  obtain ⟨v2, vs2, d2, ds2, p2, q2, rfl, rfl, rfl, h2, r2⟩ := trodAll_cons r1
  obtain ⟨v3, vs3, d3, ds3, p3, q3, rfl, rfl, rfl, h3, r3⟩ := trodAll_cons r2
  obtain ⟨rfl, rfl, rfl⟩ := trodAll_nil r3
  obtain rfl : args = #[v0, v1, v2, v3] := by cases args; simp_all
  obtain ⟨rfl, rfl⟩ := trodVars_none hV
  have k0 := h0
  have lt0 : ∀ x ∈ p0, x.block < W.heap.size := by obtain ⟨m, hm⟩ := k0; exact DataW.trod_lt m _ _ _ hm
  obtain ⟨a0, rfl⟩ := okWide_string (by kernel_rfl) (hval 0 9 v0 rfl rfl)
  obtain ⟨m0, e0, o0⟩ : ∃ m, (Kd.string).rep (hp W) m (Value.string a0).cells.toList := by
    obtain ⟨fuel, hf⟩ := h0
    exact (Opens.string (by kernel_rfl)) hf
  simp [Value.cells] at e0
  subst e0
  have k1 := h1
  have lt1 : ∀ x ∈ p1, x.block < W.heap.size := by obtain ⟨m, hm⟩ := k1; exact DataW.trod_lt m _ _ _ hm
  obtain ⟨a1, rfl, _⟩ := okWide_array (n := 4) (e := 35) (by kernel_rfl) (hval 1 37 v1 rfl rfl)
  obtain ⟨m1, e1, _⟩ : ∃ m, (kSet).rep (hp W) m (Value.agg a1).cells.toList := by
    obtain ⟨fuel, hf⟩ := h1
    exact (Opens.set (e := 35) (by kernel_rfl) (by kernel_rfl) (by kernel_rfl) (by kernel_rfl)) hf
  obtain rfl : a1 = (zab m1).toArray := by apply Array.ext'; simpa [Value.cells] using e1
  have k2 := h2
  have lt2 : ∀ x ∈ p2, x.block < W.heap.size := by obtain ⟨m, hm⟩ := k2; exact DataW.trod_lt m _ _ _ hm
  obtain ⟨a2, rfl, _⟩ := okWide_array (n := 4) (e := 35) (by kernel_rfl) (hval 2 37 v2 rfl rfl)
  obtain ⟨m2, e2, _⟩ : ∃ m, (kSet).rep (hp W) m (Value.agg a2).cells.toList := by
    obtain ⟨fuel, hf⟩ := h2
    exact (Opens.set (e := 35) (by kernel_rfl) (by kernel_rfl) (by kernel_rfl) (by kernel_rfl)) hf
  obtain rfl : a2 = (zab m2).toArray := by apply Array.ext'; simpa [Value.cells] using e2
  have k3 := h3
  have lt3 : ∀ x ∈ p3, x.block < W.heap.size := by obtain ⟨m, hm⟩ := k3; exact DataW.trod_lt m _ _ _ hm
  obtain ⟨a3, rfl, _⟩ := okWide_array (n := 4) (e := 35) (by kernel_rfl) (hval 3 37 v3 rfl rfl)
  obtain ⟨m3, e3, _⟩ : ∃ m, (kSet).rep (hp W) m (Value.agg a3).cells.toList := by
    obtain ⟨fuel, hf⟩ := h3
    exact (Opens.set (e := 35) (by kernel_rfl) (by kernel_rfl) (by kernel_rfl) (by kernel_rfl)) hf
  obtain rfl : a3 = (zab m3).toArray := by apply Array.ext'; simpa [Value.cells] using e3
  clear hA0 hval0
  refine (wrapLeft_calls W a0 o0 m1 m2 m3).mono fun e W' he => ?_
  obtain ⟨_, rfl, _, T, rfl⟩ := he
  have bel := T.below
  exact ⟨_, rfl, _, _, _, [], _, [], hW', trodAll_mk1 (shut_bool (by kernel_rfl) _), (trodAll_cons_mk (Below.trod laidOut (by kernel_rfl) (of_decide_eq_true (by kernel_rfl)) k0 bel lt0) (trodAll_cons_mk (Below.trod laidOut (by kernel_rfl) (of_decide_eq_true (by kernel_rfl)) k1 bel lt1) (trodAll_cons_mk (Below.trod laidOut (by kernel_rfl) (of_decide_eq_true (by kernel_rfl)) k2 bel lt2) (trodAll_cons_mk (Below.trod laidOut (by kernel_rfl) (of_decide_eq_true (by kernel_rfl)) k3 bel lt3) trodAll_mk0)))), rfl, bel.frame _, fun h => by cases h⟩
theorem wrapLeft_and {a b : Bool} (ha : a = true) (hb : b = true) : (a && b) = true := by rw [ha, hb]; rfl
set_option maxHeartbeats 20000000 in
set_option maxRecDepth 100000 in
theorem wrapLeft_closed : joinedFacts Try.pinned.checked.prog 5 Try.f5 Rows.wrapLeftSpec Rows.wrapLeftRow = true := by
  unfold joinedFacts
  repeat' with_reducible apply wrapLeft_and
  all_goals (as_aux_lemma => kernel_rfl)
set_option maxHeartbeats 20000000 in
set_option maxRecDepth 100000 in
theorem wrapLeft_holds : Rows.WrapLeftSaid :=
  OpenClaim.holds_of_wide 5 Try.f5 rfl rfl rfl rfl rfl rfl rfl ⟨rfl, rfl, rfl, rfl, rfl⟩ rfl rfl rfl rfl rfl (by as_aux_lemma => kernel_rfl) Try.func5 wrapLeft_closed
    (of_decide_eq_true (by as_aux_lemma => kernel_rfl)) (by unfold Func.isWrapper; first | (rw [if_pos (by decide +kernel)]; kernel_rfl) | (rw [if_neg (by decide +kernel)]; exact ⟨rfl, rfl⟩))
    (fun os started H enc _ => wrapLeft_lifted os started H enc)
end Go.Proofs.Ytgpkkkekmimoeaa
