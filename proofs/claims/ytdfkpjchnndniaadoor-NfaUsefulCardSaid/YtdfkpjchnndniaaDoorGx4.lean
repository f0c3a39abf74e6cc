/- My own library for walks through the translated code, part Gx4: laws of the model alone, no word of the program. -/
import Derived.Test.YtdfkpjchnndniaaDoorGx3
namespace Gx
open Go Go.RowKit
set_option linter.unusedSimpArgs false

/-! ### Numbers -/
theorem in_i64 {x : Int} (h1 : -9223372036854775808 ≤ x) (h2 : x ≤ 9223372036854775807) : inK .i64 x := ⟨h1, h2⟩
theorem in_u8 {x : Int} (h1 : 0 ≤ x) (h2 : x ≤ 255) : inK .u8 x := ⟨h1, h2⟩
theorem in_u64 {x : Int} (h1 : 0 ≤ x) (h2 : x ≤ 18446744073709551615) : inK .u64 x := ⟨h1, h2⟩
theorem i64_lo {x : Int} (h : inK .i64 x) : -9223372036854775808 ≤ x := h.1
theorem i64_hi {x : Int} (h : inK .i64 x) : x ≤ 9223372036854775807 := h.2
theorem u8_lo {x : Int} (h : inK .u8 x) : 0 ≤ x := h.1
theorem u8_hi {x : Int} (h : inK .u8 x) : x ≤ 255 := h.2
theorem u64_lo {x : Int} (h : inK .u64 x) : 0 ≤ x := h.1
theorem u64_hi {x : Int} (h : inK .u64 x) : x ≤ 18446744073709551615 := h.2
theorem wrap_in {k : IntKind} {x : Int} (h : inK k x) : k.wrap x = x := by
  obtain ⟨h1, h2⟩ := h
  unfold IntKind.wrap
  cases k <;> simp only [IntKind.min, IntKind.max, IntKind.bits, IntKind.signed] at * <;> simp at * <;> omega

section
variable {P : Program} {w : World} {ρ : Env} {d : Option Tmp} {ty : TypeId} {pos : String} {af : Array Edge} {g : Option (Nat × Bool)} {x y : Operand}

theorem x_move {v : Value} (h : ev ρ x = v) : (execOp (ev ρ) ⟨d, .move x, ty, pos, af, g⟩).run P w = .ok (.value v) w := by subst h; rfl
theorem x_assign {v : Value} (h : ev ρ x = v) : (execOp (ev ρ) ⟨d, .assign x, ty, pos, af, g⟩).run P w = .ok (.value v) w := by subst h; rfl
theorem x_pick_t {c : Operand} {v : Value} (hc : ev ρ c = .bool true) (h : ev ρ x = v) : (execOp (ev ρ) ⟨d, .pick c x y, ty, pos, af, g⟩).run P w = .ok (.value v) w := by
  subst h; simp [execOp, hc, asBool, go_sem]
theorem x_pick_f {c : Operand} {v : Value} (hc : ev ρ c = .bool false) (h : ev ρ y = v) : (execOp (ev ρ) ⟨d, .pick c x y, ty, pos, af, g⟩).run P w = .ok (.value v) w := by
  subst h; simp [execOp, hc, asBool, go_sem]
theorem x_add {k : IntKind} {a b : Int} {t t2 : TypeId} (hx : ev ρ x = .int k a) (hy : ev ρ y = .int k b) (hr : inK k (a + b)) : (execOp (ev ρ) ⟨d, .binOp .add t x y t2, ty, pos, af, g⟩).run P w = .ok (.value (.int k (a + b))) w := by
  simp [execOp, hx, hy, eqGuard, binOp, Op.intArith, wrap_in hr, go_sem]
theorem x_sub {k : IntKind} {a b : Int} {t t2 : TypeId} (hx : ev ρ x = .int k a) (hy : ev ρ y = .int k b) (hr : inK k (a - b)) : (execOp (ev ρ) ⟨d, .binOp .sub t x y t2, ty, pos, af, g⟩).run P w = .ok (.value (.int k (a - b))) w := by
  simp [execOp, hx, hy, eqGuard, binOp, Op.intArith, wrap_in hr, go_sem]
theorem x_mul {k : IntKind} {a b : Int} {t t2 : TypeId} (hx : ev ρ x = .int k a) (hy : ev ρ y = .int k b) (hr : inK k (a * b)) : (execOp (ev ρ) ⟨d, .binOp .mul t x y t2, ty, pos, af, g⟩).run P w = .ok (.value (.int k (a * b))) w := by
  simp [execOp, hx, hy, eqGuard, binOp, Op.intArith, wrap_in hr, go_sem]
theorem x_quo {k : IntKind} {a b : Int} {t t2 : TypeId} (hx : ev ρ x = .int k a) (hy : ev ρ y = .int k b) (ha : 0 ≤ a) (hb : 0 < b) (hr : inK k (a / b)) : (execOp (ev ρ) ⟨d, .binOp .quo t x y t2, ty, pos, af, g⟩).run P w = .ok (.value (.int k (a / b))) w := by
  have h0 : b ≠ 0 := by omega
  simp [execOp, hx, hy, eqGuard, binOp, Op.intDiv, h0, Int.tdiv_eq_ediv_of_nonneg ha, wrap_in hr, go_sem]
theorem x_rem {k : IntKind} {a b : Int} {t t2 : TypeId} (hx : ev ρ x = .int k a) (hy : ev ρ y = .int k b) (ha : 0 ≤ a) (hb : 0 < b) : (execOp (ev ρ) ⟨d, .binOp .rem t x y t2, ty, pos, af, g⟩).run P w = .ok (.value (.int k (a % b))) w := by
  have h0 : b ≠ 0 := by omega
  simp [execOp, hx, hy, eqGuard, binOp, Op.intDiv, h0, Int.tmod_eq_emod_of_nonneg ha, go_sem]
theorem x_lss {k : IntKind} {a b : Int} {t t2 : TypeId} (hx : ev ρ x = .int k a) (hy : ev ρ y = .int k b) : (execOp (ev ρ) ⟨d, .binOp .lss t x y t2, ty, pos, af, g⟩).run P w = .ok (.value (.bool (decide (a < b)))) w := by
  simp [execOp, hx, hy, eqGuard, binOp, Op.intCmp, go_sem]
theorem x_leq {k : IntKind} {a b : Int} {t t2 : TypeId} (hx : ev ρ x = .int k a) (hy : ev ρ y = .int k b) : (execOp (ev ρ) ⟨d, .binOp .leq t x y t2, ty, pos, af, g⟩).run P w = .ok (.value (.bool (decide (a ≤ b)))) w := by
  simp [execOp, hx, hy, eqGuard, binOp, Op.intCmp, go_sem]
theorem x_gtr {k : IntKind} {a b : Int} {t t2 : TypeId} (hx : ev ρ x = .int k a) (hy : ev ρ y = .int k b) : (execOp (ev ρ) ⟨d, .binOp .gtr t x y t2, ty, pos, af, g⟩).run P w = .ok (.value (.bool (decide (b < a)))) w := by
  simp [execOp, hx, hy, eqGuard, binOp, Op.intCmp, go_sem]
theorem x_geq {k : IntKind} {a b : Int} {t t2 : TypeId} (hx : ev ρ x = .int k a) (hy : ev ρ y = .int k b) : (execOp (ev ρ) ⟨d, .binOp .geq t x y t2, ty, pos, af, g⟩).run P w = .ok (.value (.bool (decide (b ≤ a)))) w := by
  simp [execOp, hx, hy, eqGuard, binOp, Op.intCmp, go_sem]
theorem x_eql {k : IntKind} {a b : Int} {t t2 : TypeId} (hx : ev ρ x = .int k a) (hy : ev ρ y = .int k b) : (execOp (ev ρ) ⟨d, .binOp .eql t x y t2, ty, pos, af, g⟩).run P w = .ok (.value (.bool (decide (a = b)))) w := by
  simp [execOp, hx, hy, eqGuard, binOp, Op.intCmp, go_sem]; rfl
theorem x_neq {k : IntKind} {a b : Int} {t t2 : TypeId} (hx : ev ρ x = .int k a) (hy : ev ρ y = .int k b) : (execOp (ev ρ) ⟨d, .binOp .neq t x y t2, ty, pos, af, g⟩).run P w = .ok (.value (.bool (decide (a ≠ b)))) w := by
  simp [execOp, hx, hy, eqGuard, binOp, Op.intCmp, go_sem]; rfl
theorem x_not {b : Bool} {t : TypeId} (hx : ev ρ x = .bool b) : (execOp (ev ρ) ⟨d, .unOp .not t x, ty, pos, af, g⟩).run P w = .ok (.value (.bool (!b))) w := by
  simp [execOp, hx, Op.unary, go_sem]
theorem x_conv {k k' : IntKind} {a : Int} {s t : TypeId} {D : TypeDesc} (hs : P.underlying s = some D) (ht : P.underlying t = some (.int k')) (hx : ev ρ x = .int k a) (hr : inK k' a) : (execOp (ev ρ) ⟨d, .convert s t x, ty, pos, af, g⟩).run P w = .ok (.value (.int k' a)) w := by
  simp [execOp, hx, convert, run_underlying hs, run_underlying ht, Conv.intToInt, wrap_in hr, go_sem]
theorem x_conv_wrap {k k' : IntKind} {a : Int} {s t : TypeId} {D : TypeDesc} (hs : P.underlying s = some D) (ht : P.underlying t = some (.int k')) (hx : ev ρ x = .int k a) : (execOp (ev ρ) ⟨d, .convert s t x, ty, pos, af, g⟩).run P w = .ok (.value (.int k' (k'.wrap a))) w := by
  simp [execOp, hx, convert, run_underlying hs, run_underlying ht, Conv.intToInt, go_sem]
theorem x_extract {vs : List Value} {v : Value} {j : Nat} (hx : ev ρ x = .tuple vs.toArray) (hj : vs[j]? = some v) : (execOp (ev ρ) ⟨d, .extract x j, ty, pos, af, g⟩).run P w = .ok (.value v) w := by
  simp [execOp, hx, Instr.extract, hj, go_sem]
theorem x_len_slice {A : Option Addr} {n c : Nat} {t : TypeId} {E : TypeId} (ht : P.underlying t = some (.slice E)) (hx : ev ρ x = .slice A n c) : (execOp (ev ρ) ⟨d, .call ⟨.builtin .len, #[x], #[t]⟩, ty, pos, af, g⟩).run P w = .ok (.value (.int .i64 n)) w := by
  simp [execOp, resolve, invoke, builtin, Builtin.len_, run_underlying ht, hx, goInt, go_sem]
theorem x_len_string {s : ByteArray} {t : TypeId} (ht : P.underlying t = some .string) (hx : ev ρ x = .string s) : (execOp (ev ρ) ⟨d, .call ⟨.builtin .len, #[x], #[t]⟩, ty, pos, af, g⟩).run P w = .ok (.value (.int .i64 s.size)) w := by
  simp [execOp, resolve, invoke, builtin, Builtin.len_, run_underlying ht, hx, goInt, go_sem]
theorem x_makeFunc {fn : Fn} {fs cs : Array Operand} {fv cv : Array Value} (hf : fs.map (ev ρ) = fv) (hc : cs.map (ev ρ) = cv) : (execOp (ev ρ) ⟨d, .makeFunc fn fs cs, ty, pos, af, g⟩).run P w = .ok (.value (.func fn fv cv)) w := by
  subst hf; subst hc; simp [execOp, Instr.makeFunc, go_sem]
/-- A function with a body. -/
def Callable (P : Program) (f : FuncId) : Prop := ∃ fn : Func, P.funcs[f]? = some fn ∧ fn.body.isNone = false ∧ (fn.name == "runtime.NumGoroutine") = false
/-- A call of a function of the program. -/
theorem x_call {fo : Operand} {f : FuncId} {as : Array Operand} {ts : Array TypeId} {cap args : Array Value} (hf : Callable P f)
    (ho : ev ρ fo = .func (.func f) #[] cap) (ha : as.map (ev ρ) ++ cap = args) : (execOp (ev ρ) ⟨d, .call ⟨.value fo, as, ts⟩, ty, pos, af, g⟩).run P w = .ok (.enter f args) w := by
  subst ha
  obtain ⟨fn, hf, hb, hn⟩ := hf
  have h1 : ¬ fn.name = "runtime.NumGoroutine" := by simpa using hn
  have h2 : ¬ fn.body = none := by intro e; rw [e] at hb; cases hb
  simp [execOp, resolve, ho, Deferred.ofValue, invoke, callFunc, program, Sem.run, hf, h1, h2, go_sem]
end
end Gx
