/- A struct of this translation as a key of a map; no conditions. -/
import Derived.Test.YtdfkpjchnndniaaDoorProg
import Derived.Test.YtdfkpjchnndniaaDoorN1
import Derived.KernelRfl
namespace Go.Proofs.YtdfkpjchnndniaaDoor
open Go Go.RowKit Gx
set_option linter.unusedSimpArgs false
theorem side_fields : (Tryd.prog.fieldsOf 77).toList = [⟨"class", 5, 0, false, "", "shibboleth/classes", 0⟩, ⟨"in", 4, 1, false, "", "shibboleth/classes", 1⟩] := by kernel_rfl
theorem side_under : Tryd.prog.underlying 77 = some (.struct #[⟨"class", 5, 0, false, "", "shibboleth/classes", 0⟩, ⟨"in", 4, 1, false, "", "shibboleth/classes", 1⟩]) := by kernel_rfl
theorem side_under2 : Tryd.prog.underlying 77 = some (.struct (Tryd.prog.fieldsOf 77)) := by kernel_rfl
theorem key77 : KeyK Tryd.prog 77 (fun x : (Int × Bool) => Value.agg (encSide x).toArray) where
  eq := fun a b w => by
    have h5 : Tryd.prog.underlying 5 = some (.int .u8) := by kernel_rfl
    have h4 : Tryd.prog.underlying 4 = some .bool := by kernel_rfl
    have hp : Tryd.prog.stoodInHeld 77 = false := by kernel_rfl
    have i5 : tyInfo Tryd.prog 5 = some (1, 1, false, some (.int .u8 0)) := by kernel_rfl
    have i4 : tyInfo Tryd.prog 4 = some (1, 1, false, some (.bool false)) := by kernel_rfl
    obtain ⟨ii5, d5, hi5, hd5, hs5, _, hg5, _⟩ := tyInfo_parts i5
    obtain ⟨ii4, d4, hi4, hd4, hs4, _, hg4, _⟩ := tyInfo_parts i4
    have p5 : ∀ (x : Int × Bool) (w : World), (part 5 (encSide x).toArray 0).run Tryd.prog w = .ok (.int .u8 x.1) w := fun x w => by
      simp only [part, Sem.run_bind, run_isAgg hd5, hg5, Result.andThen_ok, Bool.false_eq_true, if_false]; rfl
    have p4 : ∀ (x : Int × Bool) (w : World), (part 4 (encSide x).toArray 1).run Tryd.prog w = .ok (.bool x.2) w := fun x w => by
      simp only [part, Sem.run_bind, run_isAgg hd4, hg4, Result.andThen_ok, Bool.false_eq_true, if_false]; rfl
    show (Op.equalIn 10000 77 _ _).run _ _ = _
    rw [run_equalIn_agg w 9999 77 _ _ side_under2 hp, side_fields]
    obtain ⟨a1, a2⟩ := a
    obtain ⟨b1, b2⟩ := b
    have e5 := fun (w : World) (x y : Int) => run_equalIn_int w 9998 5 .u8 .u8 x y h5
    have e4 := fun (w : World) (x y : Bool) => run_equalIn_bool' w 9998 4 x y h4
    by_cases h : a1 = b1 <;> by_cases h2 : a2 = b2 <;> simp [Op.eqFields, h, h2, Sem.run_pure, Sem.run_bind, p5, p4, e5, e4]
  chk := fun a e w => by
    have h5 : Tryd.prog.underlying 5 = some (.int .u8) := by kernel_rfl
    have h4 : Tryd.prog.underlying 4 = some .bool := by kernel_rfl
    have i5 : tyInfo Tryd.prog 5 = some (1, 1, false, some (.int .u8 0)) := by kernel_rfl
    have i4 : tyInfo Tryd.prog 4 = some (1, 1, false, some (.bool false)) := by kernel_rfl
    obtain ⟨ii5, d5, hi5, hd5, hs5, _, hg5, _⟩ := tyInfo_parts i5
    obtain ⟨ii4, d4, hi4, hd4, hs4, _, hg4, _⟩ := tyInfo_parts i4
    have p5 : ∀ (w : World), (part 5 (encSide a).toArray 0).run Tryd.prog w = .ok (.int .u8 a.1) w := fun w => by
      simp only [part, Sem.run_bind, run_isAgg hd5, hg5, Result.andThen_ok, Bool.false_eq_true, if_false]; rfl
    have p4 : ∀ (w : World), (part 4 (encSide a).toArray 1).run Tryd.prog w = .ok (.bool a.2) w := fun w => by
      simp only [part, Sem.run_bind, run_isAgg hd4, hg4, Result.andThen_ok, Bool.false_eq_true, if_false]; rfl
    have c5 : ∀ (n : Nat) (w : World), (Instr.checkKey e (n + 1) 5 (.int .u8 a.1)).run Tryd.prog w = .ok () w := fun n w => by
      rw [Instr.checkKey]
      simp only [Sem.run_bind, run_underlying h5, Result.andThen_ok]; rfl
    have c4 : ∀ (n : Nat) (w : World), (Instr.checkKey e (n + 1) 4 (.bool a.2)).run Tryd.prog w = .ok () w := fun n w => by
      rw [Instr.checkKey]
      simp only [Sem.run_bind, run_underlying h4, Result.andThen_ok]; rfl
    have main : ∀ n, (Instr.checkKey e (n + 1 + 1) 77 (.agg (encSide a).toArray)).run Tryd.prog w = .ok () w := fun n => by
      rw [Instr.checkKey]
      simp only [Sem.run_bind, run_underlying side_under, Result.andThen_ok]
      simp [Sem.run_bind, Result.andThen_ok, p5, p4, c5, c4, Sem.run_pure]
    exact main 9998
  now := ⟨_, side_under, .inl fun a b => rfl⟩
  same := fun a => by simp [encSide, Instr.sameBits]
end Go.Proofs.YtdfkpjchnndniaaDoor
