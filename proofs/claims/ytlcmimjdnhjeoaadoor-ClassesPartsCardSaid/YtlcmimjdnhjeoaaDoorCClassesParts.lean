/- The given statement ClassesParts: the law's walk is laid into the row, and the row's card is closed. -/
import Derived.Test.YtlcmimjdnhjeoaaDoorFrD
import Derived.Test.YtlcmimjdnhjeoaaDoorFClassesPartsD
import Derived.SevenTiedAt
namespace Go.Proofs.YtlcmimjdnhjeoaaDoor
open Go Go.ChangeShapes Go.WideShapes Go.ChangeAt Go.RowKit Gx
set_option linter.unusedVariables false
set_option linter.unusedSimpArgs false

set_option maxRecDepth 100000 in
theorem classesParts_lifted (os : Os) (started : os.Started) (H : Type) (enc : TypeId × Value → H) :
    ReturnsInHanded {} Tryd.checked os 10 .any (fun w args => (Rows.classesPartsSpec.pre enc Tryd.prog Tryd.f10 [] false w args ∧ laidMetH Tryd.prog laid w) ∧ sizedMet enc Tryd.prog Tryd.f10 (OpenSpec.ofChange Rows.classesPartsSpec) false w args) (Rows.classesPartsSpec.post enc Tryd.prog Tryd.f10 false true false false) := by
  refine returnsInHanded_of_change_and (C := Tryd.checked) (X := fun w _ => laidMetH Tryd.prog laid w) (fun _ _ _ hh h => h.of_heap hh) own started (by kernel_rfl) Tryd.func10
    (ChangeSpec.witness_shaped (enc := enc) (C := Tryd.checked) (os := os) (X := fun w _ => laidMetH Tryd.prog laid w) false (World.doorLaid Tryd.prog 4000 os) #[.slice none 0 0, .agg #[.int .u64 0, .int .u64 0, .int .u64 0, .int .u64 0], .int .i64 0] 8 rfl (World.shaped_of_RefB (by kernel_rfl) (by kernel_rfl)) (by kernel_rfl) (by kernel_rfl) (by kernel_rfl) (door_met os _)) ?_
  intro W base args ds gs before hval0 hW _ _ hL _
  have hval : ∀ (j : Nat) t v, Tryd.f10.params[j]? = some t → args[j]? = some v → Value.okWide Tryd.prog W .any base t v := hval0
  have hW' := hW
  obtain ⟨p, q, hA0, hV, rfl, hfz, hnd⟩ := hW
  have hA : DataW.TrodAll enc Tryd.prog W 0 (fun _ => true) true Tryd.f10.params.toList args.toList ds p := hA0
  rw [Tryd.params10] at hA hval
  obtain ⟨v0, vs0, d0, ds0, p0, q0, hargs, rfl, rfl, h0, r0⟩ := trodAll_cons hA
  obtain ⟨v1, vs1, d1, ds1, p1, q1, rfl, rfl, rfl, h1, r1⟩ := trodAll_cons r0
  obtain ⟨v2, vs2, d2, ds2, p2, q2, rfl, rfl, rfl, h2, r2⟩ := trodAll_cons r1
  obtain ⟨rfl, rfl, rfl⟩ := trodAll_nil r2
  obtain rfl : args = #[v0, v1, v2] := by cases args; simp_all
  obtain ⟨rfl, rfl⟩ := trodVars_none hV
  have k0 := h0
  have lt0 : ∀ x ∈ p0, x.block < W.heap.size := by obtain ⟨m, hm⟩ := k0; exact DataW.trod_lt m _ _ _ hm
  obtain ⟨a0, n0, c0, rfl⟩ := okWide_slice (e := 27) (by kernel_rfl) (hval 0 44 v0 rfl rfl)
  obtain ⟨m0, A0, C0, e0, b0, B0, l0⟩ : ∃ m, (kSet.slice).rep (hp W) m (Value.slice a0 n0 c0).cells.toList := by
    obtain ⟨fuel, hf⟩ := h0
    exact (Opens.slice (e := 27) (by kernel_rfl) (by kernel_rfl) (Opens.set (e := 25) (by kernel_rfl) (by kernel_rfl) (by kernel_rfl) (by kernel_rfl))) hf
  simp [Value.cells] at e0
  obtain ⟨rfl, rfl, rfl⟩ := e0
  have k1 := h1
  have lt1 : ∀ x ∈ p1, x.block < W.heap.size := by obtain ⟨m, hm⟩ := k1; exact DataW.trod_lt m _ _ _ hm
  obtain ⟨a1, rfl, _⟩ := okWide_array (n := 4) (e := 25) (by kernel_rfl) (hval 1 27 v1 rfl rfl)
  obtain ⟨m1, e1, _⟩ : ∃ m, (kSet).rep (hp W) m (Value.agg a1).cells.toList := by
    obtain ⟨fuel, hf⟩ := h1
    exact (Opens.set (e := 25) (by kernel_rfl) (by kernel_rfl) (by kernel_rfl) (by kernel_rfl)) hf
  obtain rfl : a1 = (encSet m1).toArray := by apply Array.ext'; simpa [Value.cells] using e1
  have k2 := h2
  have lt2 : ∀ x ∈ p2, x.block < W.heap.size := by obtain ⟨m, hm⟩ := k2; exact DataW.trod_lt m _ _ _ hm
  obtain ⟨a2, rfl⟩ := okWide_int (k := .i64) (by kernel_rfl) (hval 2 3 v2 rfl rfl)
  obtain ⟨m2, e2, o2⟩ : ∃ m, ((Kd.int .i64)).rep (hp W) m (Value.int .i64 a2).cells.toList := by
    obtain ⟨fuel, hf⟩ := h2
    exact (Opens.int (by kernel_rfl)) hf
  simp [Value.cells] at e2
  subst e2
  clear hA0 hval0
  refine (classesParts_calls W m0 a0 c0 ⟨b0, B0⟩ l0 m1 a2 o2 (tab_of_laid hL)).mono fun e W' he => ?_
  obtain ⟨_, rfl, _, T, rfl⟩ := he
  have bel := T.below
  exact ⟨_, rfl, _, _, _, [], _, [], hW', trodAll_mk1 (shut_bool (by kernel_rfl) _), (trodAll_cons_mk (Below.trod laidOut (by kernel_rfl) (of_decide_eq_true (by kernel_rfl)) k0 bel lt0) (trodAll_cons_mk (Below.trod laidOut (by kernel_rfl) (of_decide_eq_true (by kernel_rfl)) k1 bel lt1) (trodAll_cons_mk (Below.trod laidOut (by kernel_rfl) (of_decide_eq_true (by kernel_rfl)) k2 bel lt2) trodAll_mk0))), rfl, bel.frame _, fun h => by cases h⟩
theorem classesParts_holds : Rows.ClassesPartsSaid :=
  OpenClaim.holds_of_wide 10 Tryd.f10 rfl rfl rfl rfl rfl rfl rfl ⟨rfl, rfl, rfl, rfl, rfl⟩ rfl rfl rfl rfl rfl (by kernel_rfl) Tryd.func10 (by kernel_rfl)
    (of_decide_eq_true (by kernel_rfl)) (by unfold Func.isWrapper; first | (rw [if_pos (by decide +kernel)]; kernel_rfl) | (rw [if_neg (by decide +kernel)]; exact ⟨rfl, rfl⟩))
    (fun os started H enc _ => classesParts_lifted os started H enc)
theorem classesParts_card : Rows.ClassesPartsCardSaid :=
  Claim7.holds_tied_plain_at .later [] [.data] true (true, "d64a5d63d7f652c06b84abee1169a8ff0e10a5891fefebaec06a2c7ff4aa6304") false
    classesParts_holds (fun _ h => by cases h) (by kernel_rfl) (fun _ h => by cases h) classesParts_row_tie rfl ⟨rfl, rfl⟩ (by kernel_rfl) rfl
    (fun f fn hf hfn => by
      obtain rfl : f = 10 := Option.some.inj ((show Tryd.prog.funcNamed "shibboleth/shibbolethlaw02.ClassesParts" = some 10 by kernel_rfl).symm.trans hf) |>.symm
      obtain rfl : fn = Tryd.f10 := (Option.some.inj (Tryd.func10.symm.trans hfn)).symm
      exact ⟨by kernel_rfl, fun j t ht => by
        rw [Tryd.params10] at ht
        have ht2 : t = 44 ∨ t = 27 ∨ t = 3 := by
          rcases j with _ | j
          · simp at ht; subst ht; simp
          rcases j with _ | j
          · simp at ht; subst ht; simp
          rcases j with _ | j
          · simp at ht; subst ht; simp
          simp at ht
        rcases ht2 with rfl | rfl | rfl
        all_goals (first | exact (show Tryd.prog.wantsStandIn 44 = false by kernel_rfl) | exact (show Tryd.prog.wantsStandIn 27 = false by kernel_rfl) | exact (show Tryd.prog.wantsStandIn 3 = false by kernel_rfl))⟩)
    (by kernel_rfl)

end Go.Proofs.YtlcmimjdnhjeoaaDoor
