/- The given statement NfaTrims: the law's walk is laid into the row. -/
import Derived.Test.YtlcmimjdnhjeoaaFrN
import Derived.Test.YtlcmimjdnhjeoaaFNfaTrimsN
namespace Go.Proofs.Ytlcmimjdnhjeoaa
open Go Go.ChangeShapes Go.WideShapes Go.ChangeAt Go.RowKit Gx
set_option linter.unusedVariables false
set_option linter.unusedSimpArgs false

set_option maxRecDepth 100000 in
theorem nfaTrims_lifted (os : Os) (started : os.Started) (H : Type) (enc : TypeId × Value → H) :
    ReturnsInHanded {} Try.checked os 6 .any (Rows.nfaTrimsSpec.pre6 enc Try.prog Try.f6 Rows.nfaTrimsRow.domain false) (Rows.nfaTrimsSpec.post enc Try.prog Try.f6 false true false false) := by
  refine returnsInHanded_of_change (C := Try.checked) own started (by kernel_rfl) Try.func6 (ChangeSpec.witness6 (enc := enc) (C := Try.checked) false ⟨#[], #[.agg #[.slice none 0 0, .slice none 0 0, .slice none 0 0, .slice none 0 0, .bool false], .agg #[.slice none 0 0, .slice none 0 0, .slice none 0 0, .slice none 0 0, .bool false]], []⟩ 8 (by kernel_rfl) (by kernel_rfl) (by kernel_rfl) (by kernel_rfl)) ?_
  intro W base args ds gs before hval0 hW hcnd _
  have hval : ∀ (j : Nat) t v, Try.f6.params[j]? = some t → args[j]? = some v → Value.okWide Try.prog W .any base t v := hval0
  have hW' := hW
  obtain ⟨p, q, hA0, hV, rfl, hfz, hnd⟩ := hW
  have hA : DataW.TrodAll enc Try.prog W 0 (fun _ => true) true Try.f6.params.toList args.toList ds p := hA0
  rw [Try.params6] at hA hval
  obtain ⟨v0, vs0, d0, ds0, p0, q0, hargs, rfl, rfl, h0, r0⟩ := trodAll_cons hA
  obtain ⟨v1, vs1, d1, ds1, p1, q1, rfl, rfl, rfl, h1, r1⟩ := trodAll_cons r0
  obtain ⟨rfl, rfl, rfl⟩ := trodAll_nil r1
  obtain rfl : args = #[v0, v1] := by cases args; simp_all
  obtain ⟨rfl, rfl⟩ := trodVars_none hV
  have k0 := h0
  have lt0 : ∀ x ∈ p0, x.block < W.heap.size := by obtain ⟨m, hm⟩ := k0; exact DataW.trod_lt m _ _ _ hm
  obtain ⟨a0, rfl, _⟩ := okWide_struct (fs := Try.prog.fieldsOf 27) (by kernel_rfl) (hval 0 27 v0 rfl rfl)
  obtain ⟨m0, A0_0, C0_0, A0_1, C0_1, A0_2, C0_2, A0_3, C0_3, e0, ⟨b0_0, l0_0⟩, ⟨b0_1, l0_1⟩, ⟨b0_2, l0_2⟩, b0_3, l0_3⟩ : ∃ m, (kMach).rep (hp W) m (Value.agg a0).cells.toList := by
    obtain ⟨fuel, hf⟩ := h0
    exact (Opens.mach (t0 := 22) (t1 := 23) (t2 := 24) (t3 := 25) (t4 := 4) (by kernel_rfl) (by kernel_rfl) (by kernel_rfl) (by kernel_rfl) (by kernel_rfl) (by kernel_rfl) (by kernel_rfl) (by kernel_rfl) (by kernel_rfl) (by kernel_rfl) (by kernel_rfl) (Opens.slice (e := 39) (by kernel_rfl) (by kernel_rfl) (Opens.spot (a := 37) (b := 5) (by kernel_rfl) (by kernel_rfl) (by kernel_rfl) (by kernel_rfl) (by kernel_rfl) (Opens.set (e := 35) (by kernel_rfl) (by kernel_rfl) (by kernel_rfl) (by kernel_rfl)) (Opens.int (by kernel_rfl)))) (Opens.slice (e := 3) (by kernel_rfl) (by kernel_rfl) (Opens.int (by kernel_rfl))) (Opens.slice (e := 23) (by kernel_rfl) (by kernel_rfl) (Opens.slice (e := 3) (by kernel_rfl) (by kernel_rfl) (Opens.int (by kernel_rfl)))) (Opens.slice (e := 4) (by kernel_rfl) (by kernel_rfl) (Opens.bool (by kernel_rfl))) (Opens.bool (by kernel_rfl))) hf
  obtain rfl : a0 = #[.slice A0_0 m0.spots.length C0_0, .slice A0_1 m0.first.length C0_1, .slice A0_2 m0.follow.length C0_2, .slice A0_3 m0.last.length C0_3, .bool m0.empty] := by apply Array.ext'; simpa [Value.cells] using e0
  have k1 := h1
  have lt1 : ∀ x ∈ p1, x.block < W.heap.size := by obtain ⟨m, hm⟩ := k1; exact DataW.trod_lt m _ _ _ hm
  obtain ⟨a1, rfl, _⟩ := okWide_struct (fs := Try.prog.fieldsOf 27) (by kernel_rfl) (hval 1 27 v1 rfl rfl)
  obtain ⟨m1, A1_0, C1_0, A1_1, C1_1, A1_2, C1_2, A1_3, C1_3, e1, ⟨b1_0, l1_0⟩, ⟨b1_1, l1_1⟩, ⟨b1_2, l1_2⟩, b1_3, l1_3⟩ : ∃ m, (kMach).rep (hp W) m (Value.agg a1).cells.toList := by
    obtain ⟨fuel, hf⟩ := h1
    exact (Opens.mach (t0 := 22) (t1 := 23) (t2 := 24) (t3 := 25) (t4 := 4) (by kernel_rfl) (by kernel_rfl) (by kernel_rfl) (by kernel_rfl) (by kernel_rfl) (by kernel_rfl) (by kernel_rfl) (by kernel_rfl) (by kernel_rfl) (by kernel_rfl) (by kernel_rfl) (Opens.slice (e := 39) (by kernel_rfl) (by kernel_rfl) (Opens.spot (a := 37) (b := 5) (by kernel_rfl) (by kernel_rfl) (by kernel_rfl) (by kernel_rfl) (by kernel_rfl) (Opens.set (e := 35) (by kernel_rfl) (by kernel_rfl) (by kernel_rfl) (by kernel_rfl)) (Opens.int (by kernel_rfl)))) (Opens.slice (e := 3) (by kernel_rfl) (by kernel_rfl) (Opens.int (by kernel_rfl))) (Opens.slice (e := 23) (by kernel_rfl) (by kernel_rfl) (Opens.slice (e := 3) (by kernel_rfl) (by kernel_rfl) (Opens.int (by kernel_rfl)))) (Opens.slice (e := 4) (by kernel_rfl) (by kernel_rfl) (Opens.bool (by kernel_rfl))) (Opens.bool (by kernel_rfl))) hf
  obtain rfl : a1 = #[.slice A1_0 m1.spots.length C1_0, .slice A1_1 m1.first.length C1_1, .slice A1_2 m1.follow.length C1_2, .slice A1_3 m1.last.length C1_3, .bool m1.empty] := by apply Array.ext'; simpa [Value.cells] using e1
  clear hA0 hval0
  refine (nfaTrims_calls W m0 A0_0 C0_0 b0_0 l0_0 A0_1 C0_1 b0_1 l0_1 A0_2 C0_2 b0_2 l0_2 A0_3 C0_3 b0_3 l0_3 m1 A1_0 C1_0 b1_0 l1_0 A1_1 C1_1 b1_1 l1_1 A1_2 C1_2 b1_2 l1_2 A1_3 C1_3 b1_3 l1_3).mono fun e W' he => ?_
  obtain ⟨_, rfl, _, T, rfl⟩ := he
  have bel := T.below
  exact ⟨_, rfl, _, _, _, [], _, [], hW', trodAll_mk1 (shut_bool (by kernel_rfl) _), (trodAll_cons_mk (Below.trod laidOut (by kernel_rfl) (of_decide_eq_true (by kernel_rfl)) k0 bel lt0) (trodAll_cons_mk (Below.trod laidOut (by kernel_rfl) (of_decide_eq_true (by kernel_rfl)) k1 bel lt1) trodAll_mk0)), rfl, bel.frame _, fun h => by cases h⟩
theorem nfaTrims_holds : Rows.NfaTrimsSaid :=
  OpenClaim.holds_of_wide 6 Try.f6 rfl rfl rfl rfl rfl rfl rfl ⟨rfl, rfl, rfl, rfl, rfl⟩ rfl rfl rfl rfl rfl (by kernel_rfl) Try.func6 (by kernel_rfl)
    (of_decide_eq_true (by kernel_rfl)) (by unfold Func.isWrapper; first | (rw [if_pos (by decide +kernel)]; kernel_rfl) | (rw [if_neg (by decide +kernel)]; exact ⟨rfl, rfl⟩))
    (fun os started H enc _ => nfaTrims_lifted os started H enc)

end Go.Proofs.Ytlcmimjdnhjeoaa
