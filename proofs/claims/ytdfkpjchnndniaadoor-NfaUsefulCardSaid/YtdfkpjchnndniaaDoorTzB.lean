/- The library function TrailingZeros64 by the shelf, and its table as cells; the walk needs the table where it was laid. -/
import Derived.Test.YtdfkpjchnndniaaDoorProg
import Derived.Test.YtdfkpjchnndniaaDoorM4
import Derived.Shelf.Spec.TrailingZeros
import Derived.KernelRfl
namespace Go.Proofs.YtdfkpjchnndniaaDoor
open Go Gx Go.Shelf
def tzRen : Ren := ⟨fun | 29 => 33 | n => n, fun | 22 => 47 | 25 => 82 | 54 => 81 | n => n, fun | 1 => 0 | n => n⟩
theorem tzLays : Lays7.n29 Tryd.prog tzRen where
  mixed := by kernel_rfl
  f29 := by kernel_rfl
  t0 := by kernel_rfl
  a0 := fun _ => by kernel_rfl
  z0 := fun _ => by kernel_rfl
  v0 := fun _ => by kernel_rfl
  i0 := by kernel_rfl
  t3 := by kernel_rfl
  a3 := fun _ => by kernel_rfl
  z3 := fun _ => by kernel_rfl
  v3 := fun _ => by kernel_rfl
  i3 := by kernel_rfl
  t4 := by kernel_rfl
  a4 := fun _ => by kernel_rfl
  z4 := fun _ => by kernel_rfl
  v4 := fun _ => by kernel_rfl
  i4 := by kernel_rfl
  t5 := by kernel_rfl
  a5 := fun _ => by kernel_rfl
  z5 := fun _ => by kernel_rfl
  v5 := fun _ => by kernel_rfl
  i5 := by kernel_rfl
  t22 := by kernel_rfl
  a22 := fun _ => by kernel_rfl
  z22 := fun _ => by kernel_rfl
  v22 := fun _ => by kernel_rfl
  i22 := by kernel_rfl
  t25 := by kernel_rfl
  a25 := fun _ => by kernel_rfl
  z25 := fun _ => by kernel_rfl
  v25 := fun _ => by kernel_rfl
  i25 := by kernel_rfl
  t54 := by kernel_rfl
  a54 := fun _ => by kernel_rfl
  z54 := fun _ => by kernel_rfl
  g1 := by kernel_rfl
theorem tz_of (x : Nat) (hx : x < 18446744073709551616) (w : World) (hT : TabAt 0 Lib.deBruijn64tab w) : Calls Tryd.prog 33 #[.int .u64 x] w fun e w' => e = .returned (.int .i64 (Lib.ctz 64 x)) ∧ w' = w :=
  Any7.bits_TrailingZeros64 tzLays x hx w (fun _ => hT)
def tzTab : List Value := Lib.deBruijn64tab.map fun n => .int .u8 (n : Nat)
theorem tz_calls (w : World) (x : Int) (i0 : inK .u64 x) (tb : Block 0 tzTab w) :
    Calls Tryd.prog 33 #[.int .u64 x] w fun e w' => ∃ v, e = .returned v ∧ ∃ (hn : Ghost), St w.heap.size w hn w' [] ∧ v = .int .i64 (Lib.ctz 64 x.toNat : Nat) ∧ inK .i64 (Lib.ctz 64 x.toNat : Nat) := by
  have h0 := u64_lo i0; have h1 := u64_hi i0
  obtain ⟨n, rfl⟩ := Int.eq_ofNat_of_zero_le h0
  refine (tz_of n (by omega) w ?_).mono fun e w' he => ?_
  · intro j hj
    have := tb j (by simpa [tzTab] using hj)
    rw [this]
    simp [tzTab, hj]
  · obtain ⟨rfl, rfl⟩ := he
    have hc : Lib.ctz 64 n ≤ 64 := by
      by_cases hn : n = 0
      · subst hn; decide
      · exact Nat.le_of_lt (Lib.lowest_bit 64 n hn (by omega)).2
    have e : ((n : Nat) : Int).toNat = n := Int.toNat_natCast n
    rw [e]
    exact ⟨_, rfl, fun _ => none, St.init w', rfl, in_i64 (by omega) (by omega)⟩
end Go.Proofs.YtdfkpjchnndniaaDoor
