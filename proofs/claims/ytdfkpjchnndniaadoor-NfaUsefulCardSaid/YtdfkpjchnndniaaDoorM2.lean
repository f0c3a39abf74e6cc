/- My own library for walks through the translated code, part M2: laws of the model alone, no word of the program. -/
import Derived.Test.YtdfkpjchnndniaaDoorM1
import Derived.ChangeKeysEq
namespace Gx
open Go Go.RowKit
set_option linter.unusedSimpArgs false
set_option linter.unusedSectionVars false
set_option linter.unusedVariables false
def iand (a b : Int) : Int := ((a.toNat &&& b.toNat : Nat) : Int)
def ior (a b : Int) : Int := ((a.toNat ||| b.toNat : Nat) : Int)
theorem iand_nonneg (a b : Int) : 0 ≤ iand a b := by unfold iand; omega
theorem iand_le {a b : Int} (h : 0 ≤ a) : iand a b ≤ a := by
  unfold iand
  have := Nat.and_le_left (n := a.toNat) (m := b.toNat)
  omega
theorem iand_le' {a b : Int} (h : 0 ≤ b) : iand a b ≤ b := by
  unfold iand
  have := Nat.and_le_right (n := a.toNat) (m := b.toNat)
  omega
theorem ior_in {a b : Int} (ha : inK .u64 a) (hb : inK .u64 b) : inK .u64 (ior a b) := by
  have a0 := u64_lo ha; have a1 := u64_hi ha; have b0 := u64_lo hb; have b1 := u64_hi hb
  have h := Nat.or_lt_two_pow (x := a.toNat) (y := b.toNat) (n := 64) (by omega) (by omega)
  unfold ior
  exact in_u64 (by omega) (by omega)
theorem iand_in {a : Int} (b : Int) (ha : inK .u64 a) : inK .u64 (iand a b) := in_u64 (iand_nonneg a b) (Int.le_trans (iand_le (u64_lo ha)) (u64_hi ha))
theorem pow_in {b : Int} (h0 : 0 ≤ b) (h1 : b < 64) : inK .u64 (2 ^ b.toNat) := by
  have h : (2 : Nat) ^ b.toNat < 2 ^ 64 := Nat.pow_lt_pow_right (by omega) (by omega)
  have e : ((2 : Int) ^ b.toNat) = (((2 : Nat) ^ b.toNat : Nat) : Int) := by simp
  rw [e]
  generalize (2 : Nat) ^ b.toNat = z at h
  exact in_u64 (by omega) (by omega)
theorem ofInt_toNat {a : Int} (h0 : 0 ≤ a) (h1 : a < 18446744073709551616) : (BitVec.ofInt 64 a).toNat = a.toNat := by
  rw [BitVec.toNat_ofInt]
  omega
section
variable {P : Program} {ρ : Env} {w w' : World} {d : Option Tmp} {ty : TypeId} {pos : String} {af : Array Edge} {g : Option (Nat × Bool)} {x y : Operand}
theorem guard_int {a b : Int} {k k' : IntKind} {t : TypeId} {o : BinOp} : (eqGuard o t x y (.int k a) (.int k' b)).run P w = .ok () w := by
  unfold eqGuard
  cases o <;> rfl
theorem x_and_u64 {a b : Int} {t t2 : TypeId} (hx : ev ρ x = .int .u64 a) (hy : ev ρ y = .int .u64 b) (ha : inK .u64 a) (hb : inK .u64 b) : (execOp (ev ρ) ⟨d, .binOp .and t x y t2, ty, pos, af, g⟩).run P w = .ok (.value (.int .u64 (iand a b))) w := by
  have h1 : (BitVec.ofInt 64 a).toNat = a.toNat := ofInt_toNat (u64_lo ha) (by have := u64_hi ha; omega)
  have h2 : (BitVec.ofInt 64 b).toNat = b.toNat := ofInt_toNat (u64_lo hb) (by have := u64_hi hb; omega)
  have h3 : IntKind.u64.wrap ((BitVec.ofInt 64 a &&& BitVec.ofInt 64 b).toNat : Int) = iand a b := by
    rw [BitVec.toNat_and, h1, h2]; exact wrap_in (iand_in b ha)
  simp only [execOp, hx, hy, Sem.run_bind, guard_int, Result.andThen_ok]
  show ((Sem.pure (Value.int .u64 (IntKind.u64.wrap ((BitVec.ofInt 64 a &&& BitVec.ofInt 64 b).toNat : Int)))).run P w).andThen _ = _
  rw [h3]; rfl
theorem x_or_u64 {a b : Int} {t t2 : TypeId} (hx : ev ρ x = .int .u64 a) (hy : ev ρ y = .int .u64 b) (ha : inK .u64 a) (hb : inK .u64 b) : (execOp (ev ρ) ⟨d, .binOp .or t x y t2, ty, pos, af, g⟩).run P w = .ok (.value (.int .u64 (ior a b))) w := by
  have h1 : (BitVec.ofInt 64 a).toNat = a.toNat := ofInt_toNat (u64_lo ha) (by have := u64_hi ha; omega)
  have h2 : (BitVec.ofInt 64 b).toNat = b.toNat := ofInt_toNat (u64_lo hb) (by have := u64_hi hb; omega)
  have h3 : IntKind.u64.wrap ((BitVec.ofInt 64 a ||| BitVec.ofInt 64 b).toNat : Int) = ior a b := by
    rw [BitVec.toNat_or, h1, h2]; exact wrap_in (ior_in ha hb)
  simp only [execOp, hx, hy, Sem.run_bind, guard_int, Result.andThen_ok]
  show ((Sem.pure (Value.int .u64 (IntKind.u64.wrap ((BitVec.ofInt 64 a ||| BitVec.ofInt 64 b).toNat : Int)))).run P w).andThen _ = _
  rw [h3]; rfl
/-- The complement of a number. -/
theorem x_com_u64 {a : Int} {t : TypeId} (hx : ev ρ x = .int .u64 a) (ha : inK .u64 a) : (execOp (ev ρ) ⟨d, .unOp .xor t x, ty, pos, af, g⟩).run P w = .ok (.value (.int .u64 (18446744073709551615 - a))) w := by
  have a0 := u64_lo ha; have a1 := u64_hi ha
  have h1 : (BitVec.ofInt 64 a).toNat = a.toNat := ofInt_toNat a0 (by omega)
  have h2 : (BitVec.ofInt 64 18446744073709551615).toNat = 18446744073709551615 := ofInt_toNat (by omega) (by omega)
  have h4 : (BitVec.ofInt 64 18446744073709551615 ^^^ BitVec.ofInt 64 a) = ~~~ (BitVec.ofInt 64 a) := by
    have : (BitVec.ofInt 64 18446744073709551615) = BitVec.allOnes 64 := by decide
    rw [this, BitVec.allOnes_xor]
  have h3 : IntKind.u64.wrap ((BitVec.ofInt 64 18446744073709551615 ^^^ BitVec.ofInt 64 a).toNat : Int) = 18446744073709551615 - a := by
    rw [h4, BitVec.toNat_not, h1]
    have e : (((2 : Nat) ^ 64 - 1 - a.toNat : Nat) : Int) = 18446744073709551615 - a := by
      have : (2 : Nat) ^ 64 = 18446744073709551616 := by decide
      rw [this]; omega
    rw [e]
    exact wrap_in (in_u64 (by omega) (by omega))
  simp only [execOp, hx]
  show ((Op.intBits .xor .u64 18446744073709551615 a >>= fun v => (pure (Next.value v) : Sem Next))).run P w = _
  rw [Sem.run_bind]
  show ((Sem.pure (Value.int .u64 (IntKind.u64.wrap ((BitVec.ofInt 64 18446744073709551615 ^^^ BitVec.ofInt 64 a).toNat : Int)))).run P w).andThen _ = _
  rw [h3]; rfl
/-- 1 << y. -/
theorem x_shl_one {b : Int} {yk : IntKind} {t t2 : TypeId} (hx : ev ρ x = .int .u64 1) (hy : ev ρ y = .int yk b) (h0 : 0 ≤ b) (h1 : b < 64) : (execOp (ev ρ) ⟨d, .binOp .shl t x y t2, ty, pos, af, g⟩).run P w = .ok (.value (.int .u64 (2 ^ b.toNat))) w := by
  have hn : ¬ b < 0 := by omega
  have hm : min b.toNat (IntKind.u64.bits) = b.toNat := by
    have : IntKind.u64.bits = 64 := rfl
    rw [this]; omega
  have hs : (Op.shift .shl .u64 1 yk b).run P w = .ok (.int .u64 (2 ^ b.toNat)) w := by
    unfold Op.shift
    rw [if_neg hn]
    simp only [hm, Int.one_mul]
    rw [wrap_in (pow_in h0 h1)]; rfl
  simp only [execOp, hx, hy, Sem.run_bind, guard_int, Result.andThen_ok]
  show ((Op.shift .shl .u64 1 yk b).run P w).andThen _ = _
  rw [hs]; rfl
/-- x >> y. -/
theorem x_shr {a b : Int} {k yk : IntKind} {t t2 : TypeId} (hx : ev ρ x = .int k a) (hy : ev ρ y = .int yk b) (h0 : 0 ≤ b) (h1 : b.toNat ≤ k.bits) : (execOp (ev ρ) ⟨d, .binOp .shr t x y t2, ty, pos, af, g⟩).run P w = .ok (.value (.int k (a / 2 ^ b.toNat))) w := by
  have hn : ¬ b < 0 := by omega
  have hm : min b.toNat k.bits = b.toNat := by omega
  have hs : (Op.shift .shr k a yk b).run P w = .ok (.int k (a / 2 ^ b.toNat)) w := by
    unfold Op.shift
    rw [if_neg hn]
    simp only [hm]
    rw [Int.fdiv_eq_ediv_of_nonneg _ (Int.le_of_lt (Int.pow_pos (by omega)))]; rfl
  simp only [execOp, hx, hy, Sem.run_bind, guard_int, Result.andThen_ok]
  show ((Op.shift .shr k a yk b).run P w).andThen _ = _
  rw [hs]; rfl
theorem x_shr_lit {a b q : Int} {k yk : IntKind} {t t2 : TypeId} (hx : ev ρ x = .int k a) (hy : ev ρ y = .int yk b) (h0 : 0 ≤ b) (h1 : b.toNat ≤ k.bits) (hq : (2 : Int) ^ b.toNat = q) : (execOp (ev ρ) ⟨d, .binOp .shr t x y t2, ty, pos, af, g⟩).run P w = .ok (.value (.int k (a / q))) w := by
  subst hq
  exact x_shr hx hy h0 h1
theorem x_and_i64 {a b : Int} {t t2 : TypeId} (hx : ev ρ x = .int .i64 a) (hy : ev ρ y = .int .i64 b) (ha : 0 ≤ a) (ha1 : a ≤ 9223372036854775807) (hb : 0 ≤ b) (hb1 : b ≤ 9223372036854775807) : (execOp (ev ρ) ⟨d, .binOp .and t x y t2, ty, pos, af, g⟩).run P w = .ok (.value (.int .i64 (iand a b))) w := by
  have h1 : (BitVec.ofInt 64 a).toNat = a.toNat := ofInt_toNat ha (by omega)
  have h2 : (BitVec.ofInt 64 b).toNat = b.toNat := ofInt_toNat hb (by omega)
  have h3 : IntKind.i64.wrap ((BitVec.ofInt 64 a &&& BitVec.ofInt 64 b).toNat : Int) = iand a b := by
    rw [BitVec.toNat_and, h1, h2]
    have := iand_nonneg a b
    have := iand_le (b := b) ha
    exact wrap_in (in_i64 (by show _ ≤ iand a b; omega) (by show iand a b ≤ _; omega))
  simp only [execOp, hx, hy, Sem.run_bind, guard_int, Result.andThen_ok]
  show ((Sem.pure (Value.int .i64 (IntKind.i64.wrap ((BitVec.ofInt 64 a &&& BitVec.ofInt 64 b).toNat : Int)))).run P w).andThen _ = _
  rw [h3]; rfl
theorem x_neg_u64 {a : Int} {t : TypeId} (hx : ev ρ x = .int .u64 a) : (execOp (ev ρ) ⟨d, .unOp .neg t x, ty, pos, af, g⟩).run P w = .ok (.value (.int .u64 (IntKind.u64.wrap (0 - a)))) w := by
  simp only [execOp, hx]; rfl
theorem x_mul_wrap {k : IntKind} {a b : Int} {t t2 : TypeId} (hx : ev ρ x = .int k a) (hy : ev ρ y = .int k b) : (execOp (ev ρ) ⟨d, .binOp .mul t x y t2, ty, pos, af, g⟩).run P w = .ok (.value (.int k (k.wrap (a * b)))) w := by
  simp [execOp, hx, hy, eqGuard, binOp, Op.intArith, go_sem]
theorem x_max {k k2 : IntKind} {a b : Int} {ts : Array TypeId} (hx : ev ρ x = .int k a) (hy : ev ρ y = .int k2 b) : (execOp (ev ρ) ⟨d, .call ⟨.builtin .max, #[x, y], ts⟩, ty, pos, af, g⟩).run P w = .ok (.value (.int k (max a b))) w := by
  have e : (if b > a then b else a) = max a b := by omega
  simp [execOp, resolve, invoke, builtin, Builtin.max_, Builtin.max2, hx, hy, go_sem]
  omega
theorem x_min {k k2 : IntKind} {a b : Int} {ts : Array TypeId} (hx : ev ρ x = .int k a) (hy : ev ρ y = .int k2 b) : (execOp (ev ρ) ⟨d, .call ⟨.builtin .min, #[x, y], ts⟩, ty, pos, af, g⟩).run P w = .ok (.value (.int k (min a b))) w := by
  simp [execOp, resolve, invoke, builtin, Builtin.min_, Builtin.min2, hx, hy, go_sem]
  omega

/-! ### Arrays held against each other -/
theorem part_ints {E : TypeId} {k : IntKind} {xs : List Int} {n b' : Nat} {z : Option Value} (ht : tyInfo P E = some (1, b', false, z)) (hx : okInts k n xs) {i : Nat} (hi : i < n) : (part E (encInts k xs).toArray (i * 1)).run P w = .ok (.int k (at_ xs i)) w := by
  obtain ⟨ii, d2, hii, hd2, hsz, _, hg, _⟩ := tyInfo_parts ht
  have hg2 := encInts_get hx (i := (i : Int)) (by omega) (by omega)
  rw [Int.toNat_natCast] at hg2
  simp only [part, Sem.run_bind, run_isAgg hd2, hg, Result.andThen_ok, Bool.false_eq_true, if_false, Nat.mul_one, List.getElem?_toArray, hg2]
  rfl
theorem eqItems_ints {E : TypeId} {k : IntKind} {xs ys : List Int} {n b' : Nat} {z : Option Value} (hE : P.underlying E = some (.int k)) (ht : tyInfo P E = some (1, b', false, z)) (hx : okInts k n xs) (hy : okInts k n ys) (dd : Nat) : ∀ is : List Nat, (∀ i ∈ is, i < n) →
    (Op.eqItems (dd + 1) E 1 (encInts k xs).toArray (encInts k ys).toArray is).run P w = .ok (is.all fun i => at_ xs i == at_ ys i) w
  | [], _ => rfl
  | i :: is, h => by
    have hi := h i (by simp)
    simp only [Op.eqItems, Sem.run_bind, part_ints ht hx hi, part_ints ht hy hi, Result.andThen_ok, run_equalIn_int w dd E k k _ _ hE]
    cases hb : (at_ xs i == at_ ys i)
    · simp only [Bool.not_false, if_true, Sem.run_pure, List.all_cons, hb, Bool.false_and]
    · simp only [Bool.not_true, Bool.false_eq_true, if_false, List.all_cons, hb, Bool.true_and]
      exact eqItems_ints hE ht hx hy dd is (fun j hj => h j (by simp [hj]))
theorem eqIn_ints {len : Nat} {T E : TypeId} {k : IntKind} {xs ys : List Int} {b' : Nat} {z : Option Value} (hT : P.underlying T = some (.array len E)) (hE : P.underlying E = some (.int k)) (ht : tyInfo P E = some (1, b', false, z)) (hx : okInts k len xs) (hy : okInts k len ys) (dd : Nat) :
    (Op.equalIn (dd + 2) T (.agg (encInts k xs).toArray) (.agg (encInts k ys).toArray)).run P w = .ok (decide (xs = ys)) w := by
  obtain ⟨ii, d2, hii, hd2, hsz, _, hg, _⟩ := tyInfo_parts ht
  have hc : P.cellsOf E = 1 := by simp [Program.cellsOf, hii, hsz]
  rw [run_equalIn_array w (dd + 1) _ _ hT hii, hc, eqItems_ints hE ht hx hy dd _ (fun i hi => List.mem_range.1 hi)]
  congr 1
  rw [Bool.eq_iff_iff]
  simp only [List.all_eq_true, List.mem_range, beq_iff_eq, decide_eq_true_eq]
  constructor
  · intro h
    apply List.ext_getElem?
    intro i
    by_cases hi : i < len
    · have h1 := at_some (xs := xs) (i := (i : Int)) (by omega) (by rw [hx.1]; omega)
      have h2 := at_some (xs := ys) (i := (i : Int)) (by omega) (by rw [hy.1]; omega)
      rw [Int.toNat_natCast] at h1 h2
      rw [h1, h2, h i hi]
    · rw [List.getElem?_eq_none (by rw [hx.1]; omega), List.getElem?_eq_none (by rw [hy.1]; omega)]
  · intro e i _; rw [e]
theorem x_eql_set {a b : BSet} {t t2 E : TypeId} {b' : Nat} {z : Option Value} (hT : P.underlying t = some (.array 4 E)) (hE : P.underlying E = some (.int .u64)) (ht : tyInfo P E = some (1, b', false, z)) (hg : P.eqGuardType P.depth t = false) (hx : ev ρ x = .agg (encSet a).toArray) (hy : ev ρ y = .agg (encSet b).toArray) :
    (execOp (ev ρ) ⟨d, .binOp .eql t x y t2, ty, pos, af, g⟩).run P w = .ok (.value (.bool (decide (a = b)))) w := by
  have e : decide (words a = words b) = decide (a = b) := by
    by_cases h : a = b
    · subst h; simp
    · rw [decide_eq_false h, decide_eq_false (fun e => h (words_inj e))]
  have h1 := eqIn_ints (w := w) hT hE ht (okWords a) (okWords b) 9998
  simp only [execOp, hx, hy, Sem.run_bind, run_eqGuard_agg w .eql t x y _ _ hg, Result.andThen_ok, run_eql_struct, encSet, h1, e]
  rfl
theorem x_neq_set {a b : BSet} {t t2 E : TypeId} {b' : Nat} {z : Option Value} (hT : P.underlying t = some (.array 4 E)) (hE : P.underlying E = some (.int .u64)) (ht : tyInfo P E = some (1, b', false, z)) (hg : P.eqGuardType P.depth t = false) (hx : ev ρ x = .agg (encSet a).toArray) (hy : ev ρ y = .agg (encSet b).toArray) :
    (execOp (ev ρ) ⟨d, .binOp .neq t x y t2, ty, pos, af, g⟩).run P w = .ok (.value (.bool (decide (a ≠ b)))) w := by
  have e : (!decide (words a = words b)) = decide (a ≠ b) := by
    by_cases h : a = b
    · subst h; simp
    · rw [decide_eq_true h, decide_eq_false (fun e => h (words_inj e))]; rfl
  have h1 := eqIn_ints (w := w) hT hE ht (okWords a) (okWords b) 9998
  simp only [execOp, hx, hy, Sem.run_bind, run_eqGuard_agg w .neq t x y _ _ hg, Result.andThen_ok, run_neq_struct, encSet, h1, e]
  rfl
end
end Gx
