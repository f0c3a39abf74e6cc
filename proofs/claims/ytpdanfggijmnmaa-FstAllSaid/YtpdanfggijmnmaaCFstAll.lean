/- The given statement FstAll: the law's walk is laid into the row. -/
import Derived.Test.YtpdanfggijmnmaaLFstAll4
namespace Go.Proofs.Ytpdanfggijmnmaa
open Go Go.ChangeShapes Go.WideShapes Go.ChangeAt Go.RowKit Gx
set_option linter.unusedVariables false
set_option linter.unusedSimpArgs false
set_option maxHeartbeats 20000000 in
set_option maxRecDepth 100000 in
theorem fstAll_lifted (os : Os) (started : os.Started) (H : Type) (enc : TypeId × Value → H) :
    ReturnsInHanded {} Try.checked os 6 .any (Rows.fstAllSpec.pre6 enc Try.prog Try.f6 Rows.fstAllRow.domain false) (Rows.fstAllSpec.post enc Try.prog Try.f6 false true false false) := by
  refine returnsInHanded_of_change (C := Try.checked) own started (by kernel_rfl) Try.func6 (ChangeSpec.witness6 (enc := enc) (C := Try.checked) false ⟨#[], #[.agg #[.slice none 0 0, .slice none 0 0, .slice none 0 0, .slice none 0 0, .bool false], .string ⟨#[]⟩, .slice none 0 0], []⟩ 8 (by kernel_rfl) (by kernel_rfl) (by kernel_rfl) (by kernel_rfl)) ?_
  intro W base args ds gs before hval0 hW hcnd _
  have hval : ∀ (j : Nat) t v, Try.f6.params[j]? = some t → args[j]? = some v → Value.okWide Try.prog W .any base t v := hval0
  have hW' := hW
  obtain ⟨p, q, hA0, hV, rfl, hfz, hnd⟩ := hW
  have hA : DataW.TrodAll enc Try.prog W 0 (fun _ => true) true Try.f6.params.toList args.toList ds p := hA0
  rw [Try.params6] at hA hval
  obtain ⟨v0, vs0, d0, ds0, p0, q0, hargs, rfl, rfl, h0, r0⟩ := trodAll_cons hA
  obtain ⟨v1, vs1, d1, ds1, p1, q1, rfl, rfl, rfl, h1, r1⟩ := trodAll_cons r0
  obtain ⟨v2, vs2, d2, ds2, p2, q2, rfl, rfl, rfl, h2, r2⟩ := trodAll_cons r1
  obtain ⟨rfl, rfl, rfl⟩ := trodAll_nil r2
  obtain rfl : args = #[v0, v1, v2] := by cases args; simp_all
  obtain ⟨rfl, rfl⟩ := trodVars_none hV
  have k0 := h0
  have lt0 : ∀ x ∈ p0, x.block < W.heap.size := by obtain ⟨m, hm⟩ := k0; exact DataW.trod_lt m _ _ _ hm
  obtain ⟨a0, rfl, _⟩ := okWide_struct (fs := Try.prog.fieldsOf 27) (by kernel_rfl) (hval 0 27 v0 rfl rfl)
  obtain ⟨m0, A0_0, C0_0, A0_1, C0_1, A0_2, C0_2, A0_3, C0_3, e0, ⟨b0_0, l0_0⟩, ⟨b0_1, l0_1⟩, ⟨b0_2, l0_2⟩, b0_3, l0_3⟩ : ∃ m, (kMach).rep (hp W) m (Value.agg a0).cells.toList := by
    obtain ⟨fuel, hf⟩ := h0
    exact (zct.mach (t0 := 22) (t1 := 23) (t2 := 24) (t3 := 25) (t4 := 4) (by kernel_rfl) (by kernel_rfl) (by kernel_rfl) (by kernel_rfl) (by kernel_rfl) (by kernel_rfl) (by kernel_rfl) (by kernel_rfl) (by kernel_rfl) (by kernel_rfl) (by kernel_rfl) (zct.slice (e := 43) (by kernel_rfl) (by kernel_rfl) (zct.spot (a := 41) (b := 5) (by kernel_rfl) (by kernel_rfl) (by kernel_rfl) (by kernel_rfl) (by kernel_rfl) (zct.set (e := 39) (by kernel_rfl) (by kernel_rfl) (by kernel_rfl) (by kernel_rfl)) (zct.int (by kernel_rfl)))) (zct.slice (e := 3) (by kernel_rfl) (by kernel_rfl) (zct.int (by kernel_rfl))) (zct.slice (e := 23) (by kernel_rfl) (by kernel_rfl) (zct.slice (e := 3) (by kernel_rfl) (by kernel_rfl) (zct.int (by kernel_rfl)))) (zct.slice (e := 4) (by kernel_rfl) (by kernel_rfl) (zct.bool (by kernel_rfl))) (zct.bool (by kernel_rfl))) hf
  obtain rfl : a0 = #[.slice A0_0 m0.spots.length C0_0, .slice A0_1 m0.first.length C0_1, .slice A0_2 m0.follow.length C0_2, .slice A0_3 m0.last.length C0_3, .bool m0.empty] := by apply Array.ext'; simpa [Value.cells] using e0
  have k1 := h1
  have lt1 : ∀ x ∈ p1, x.block < W.heap.size := by obtain ⟨m, hm⟩ := k1; exact DataW.trod_lt m _ _ _ hm
  obtain ⟨a1, rfl⟩ := okWide_string (by kernel_rfl) (hval 1 9 v1 rfl rfl)
  obtain ⟨m1, e1, o1⟩ : ∃ m, (Kd.string).rep (hp W) m (Value.string a1).cells.toList := by
    obtain ⟨fuel, hf⟩ := h1
    exact (zct.string (by kernel_rfl)) hf
  simp [Value.cells] at e1
  subst e1
  have k2 := h2
  have lt2 : ∀ x ∈ p2, x.block < W.heap.size := by obtain ⟨m, hm⟩ := k2; exact DataW.trod_lt m _ _ _ hm
  obtain ⟨a2, n2, c2, rfl⟩ := okWide_slice (e := 5) (by kernel_rfl) (hval 2 30 v2 rfl rfl)
  obtain ⟨m2, A2, C2, e2, b2, B2, l2⟩ : ∃ m, ((Kd.int .u8).slice).rep (hp W) m (Value.slice a2 n2 c2).cells.toList := by
    obtain ⟨fuel, hf⟩ := h2
    exact (zct.slice (e := 5) (by kernel_rfl) (by kernel_rfl) (zct.int (by kernel_rfl))) hf
  simp [Value.cells] at e2
  obtain ⟨rfl, rfl, rfl⟩ := e2
  clear hA0 hval0
  refine (fstAll_calls W m0 A0_0 C0_0 b0_0 l0_0 A0_1 C0_1 b0_1 l0_1 A0_2 C0_2 b0_2 l0_2 A0_3 C0_3 b0_3 l0_3 a1 o1 m2 a2 c2 ⟨b2, B2⟩ l2).mono fun e W' he => ?_
  obtain ⟨_, rfl, _, T, rfl⟩ := he
  have bel := T.below
  exact ⟨_, rfl, _, _, _, [], _, [], hW', trodAll_mk1 (shut_bool (by kernel_rfl) _), (trodAll_cons_mk (Below.trod laidOut (by kernel_rfl) (of_decide_eq_true (by kernel_rfl)) k0 bel lt0) (trodAll_cons_mk (Below.trod laidOut (by kernel_rfl) (of_decide_eq_true (by kernel_rfl)) k1 bel lt1) (trodAll_cons_mk (Below.trod laidOut (by kernel_rfl) (of_decide_eq_true (by kernel_rfl)) k2 bel lt2) trodAll_mk0))), rfl, bel.frame _, fun h => by cases h⟩
theorem fstAll_and {a b : Bool} (ha : a = true) (hb : b = true) : (a && b) = true := by rw [ha, hb]; rfl
set_option maxHeartbeats 20000000 in
set_option maxRecDepth 100000 in
theorem fstAll_closed : joinedFacts Try.pinned.checked.prog 6 Try.f6 Rows.fstAllSpec Rows.fstAllRow = true := by
  unfold joinedFacts
  repeat' with_reducible apply fstAll_and
  all_goals (as_aux_lemma => kernel_rfl)
set_option maxHeartbeats 20000000 in
set_option maxRecDepth 100000 in
theorem fstAll_holds : Rows.FstAllSaid :=
  OpenClaim.holds_of_wide 6 Try.f6 rfl rfl rfl rfl rfl rfl rfl ⟨rfl, rfl, rfl, rfl, rfl⟩ rfl rfl rfl rfl rfl (by as_aux_lemma => kernel_rfl) Try.func6 fstAll_closed
    (of_decide_eq_true (by as_aux_lemma => kernel_rfl)) (by unfold Func.isWrapper; first | (rw [if_pos (by decide +kernel)]; kernel_rfl) | (rw [if_neg (by decide +kernel)]; exact ⟨rfl, rfl⟩))
    (fun os started H enc _ => fstAll_lifted os started H enc)
end Go.Proofs.Ytpdanfggijmnmaa
