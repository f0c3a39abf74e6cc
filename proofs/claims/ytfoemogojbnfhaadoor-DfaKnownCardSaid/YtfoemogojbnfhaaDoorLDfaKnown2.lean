/- My own library for walks through the translated code, and the walks of the functions that the law DfaKnown comes to, part 3; no conditions but those that each contract tells. -/
import Derived.Test.YtfoemogojbnfhaaDoorProg
import Derived.KernelRfl
import Derived.Test.YtfoemogojbnfhaaDoorLDfaKnown1
namespace Gx
open Go Go.RowKit
set_option linter.unusedSimpArgs false
set_option linter.unusedSectionVars false
set_option linter.unusedVariables false
def badQ (n q : Int) : Bool := decide (q < 0) || decide (n ≤ q)
def zd0 (d : Dfa) (n : Int) (l : List Int) : Bool := decide ((l.length : Int) ≠ d.part.n) || l.any (badQ n)
def zb7 (d : Dfa) : Bool := !decide ((d.next.length : Int) = 0) && decide ((d.final.length : Int) = (d.next.length : Int)) && zdu d.part && !d.next.any (zd0 d d.next.length)
structure RightD (d : Dfa) : Prop where
  some_ : 0 < (d.next.length : Int)
  final : (d.final.length : Int) = d.next.length
  rp : zdu d.part = true
  part : RightP d.part
  row : ∀ q : Int, 0 ≤ q → q < (d.next.length : Int) → ((at_ d.next q).length : Int) = d.part.n
  cell : ∀ q : Int, 0 ≤ q → q < (d.next.length : Int) → ∀ x ∈ at_ d.next q, 0 ≤ x ∧ x < (d.next.length : Int)
theorem bad_row {d : Dfa} {n : Int} {l : List Int} : zd0 d n l = false ↔ (l.length : Int) = d.part.n ∧ ∀ x ∈ l, 0 ≤ x ∧ x < n := by
  unfold zd0
  rw [Bool.or_eq_false_iff, decide_eq_false_iff_not, Decidable.not_not, List.any_eq_false]
  refine and_congr Iff.rfl ⟨fun h x hx => ?_, fun h x hx => ?_⟩
  · have := h x hx
    unfold badQ at this
    simp only [Bool.or_eq_true, decide_eq_true_eq, not_or] at this
    omega
  · have := h x hx
    unfold badQ
    simp only [Bool.or_eq_true, decide_eq_true_eq, not_or]
    omega
theorem rightD_of {d : Dfa} (ho : okPart d.part) (h : zb7 d = true) : RightD d := by
  unfold zb7 at h
  simp only [Bool.and_eq_true, Bool.not_eq_true', decide_eq_true_eq, decide_eq_false_iff_not] at h
  obtain ⟨⟨⟨h1, h2⟩, h3⟩, h4⟩ := h
  have hr : ∀ q : Int, 0 ≤ q → q < (d.next.length : Int) → zd0 d d.next.length (at_ d.next q) = false := fun q h0 hq => by
    have := List.any_eq_false.1 h4 _ (at_mem h0 hq)
    simpa using this
  exact ⟨by omega, h2, h3, rightP_of ho h3, fun q h0 hq => (bad_row.1 (hr q h0 hq)).1, fun q h0 hq => (bad_row.1 (hr q h0 hq)).2⟩
theorem rightD_to {d : Dfa} (h1 : 0 < (d.next.length : Int)) (h2 : (d.final.length : Int) = d.next.length) (h3 : zdu d.part = true) (h4 : ∀ l ∈ d.next, (l.length : Int) = d.part.n ∧ ∀ x ∈ l, 0 ≤ x ∧ x < (d.next.length : Int)) : zb7 d = true := by
  unfold zb7
  rw [h3, decide_eq_true h2, decide_eq_false (by omega)]
  have : d.next.any (zd0 d d.next.length) = false := List.any_eq_false.2 fun l hl => by rw [bad_row.2 (h4 l hl)]; simp
  rw [this]; rfl
theorem badQ_1 {n q : Int} (h : q < 0) : badQ n q = true := by unfold badQ; rw [decide_eq_true h]; rfl
theorem badQ_2 {n q : Int} (h : ¬ q < 0) : badQ n q = decide (n ≤ q) := by unfold badQ; rw [decide_eq_false h]; rfl
theorem badRow_1 {d : Dfa} {n : Int} {l : List Int} (h : (l.length : Int) ≠ d.part.n) : zd0 d n l = true := by unfold zd0; rw [decide_eq_true h]; rfl
theorem badRow_2 {d : Dfa} {n t : Int} {l : List Int} (h0 : 0 ≤ t) (h1 : t < (l.length : Int)) (h : badQ n (at_ l t) = true) : zd0 d n l = true := by
  unfold zd0
  rw [List.any_eq_true.2 ⟨_, at_mem h0 h1, h⟩]; simp
theorem badRow_3 {d : Dfa} {n t : Int} {l : List Int} (hl : ¬ (l.length : Int) ≠ d.part.n) (h1 : (l.length : Int) ≤ t) (h : (l.take t.toNat).any (badQ n) = false) : zd0 d n l = false := by
  rw [List.take_of_length_le (by omega)] at h
  unfold zd0
  rw [decide_eq_false hl, h]; rfl
theorem rightD_1 {d : Dfa} (h : (d.next.length : Int) = 0) : zb7 d = false := by unfold zb7; rw [decide_eq_true h]; rfl
theorem rightD_2 {d : Dfa} (h : (d.final.length : Int) ≠ d.next.length) : zb7 d = false := by unfold zb7; rw [decide_eq_false h]; simp
theorem rightD_3 {d : Dfa} (h : zdu d.part = false) : zb7 d = false := by unfold zb7; rw [h]; simp
theorem rightD_4 {d : Dfa} {t : Int} (h0 : 0 ≤ t) (h1 : t < (d.next.length : Int)) (h : zd0 d d.next.length (at_ d.next t) = true) : zb7 d = false := by
  unfold zb7
  rw [List.any_eq_true.2 ⟨_, at_mem h0 h1, h⟩]; simp
theorem rightD_5 {d : Dfa} {t : Int} (ha : ¬ (d.next.length : Int) = 0) (hb : ¬ (d.final.length : Int) ≠ d.next.length) (hc : zdu d.part = true) (h1 : (d.next.length : Int) ≤ t) (h : (d.next.take t.toNat).any (zd0 d d.next.length) = false) : zb7 d = true := by
  rw [List.take_of_length_le (by omega)] at h
  unfold zb7
  rw [decide_eq_false ha, decide_eq_true (Decidable.not_not.1 hb), hc, h]; rfl
def goD (d : Dfa) (w : ByteArray) : Nat → Int
  | 0 => 0
  | i + 1 => at_ (at_ d.next (goD d w i)) (at_ d.part.of (byt w ((i : Nat) : Int)))
def runD (d : Dfa) (w : ByteArray) : Bool := zb7 d && at_ d.final (goD d w w.size)
theorem of_in {d : Dfa} (ho : okPart d.part) (R : RightD d) (w : ByteArray) (i : Int) : 0 ≤ at_ d.part.of (byt w i) ∧ at_ d.part.of (byt w i) < d.part.n := by
  have hb := byt_range w i
  exact ⟨u8_lo (zcv ho.1 (by omega) (by omega)), R.part.of_lt _ (by omega) (by omega)⟩
theorem goD_in {d : Dfa} (ho : okPart d.part) (R : RightD d) (w : ByteArray) : ∀ i, 0 ≤ goD d w i ∧ goD d w i < (d.next.length : Int)
  | 0 => ⟨by simp [goD], by have := R.some_; simpa [goD] using this⟩
  | i + 1 => by
    have ih := goD_in ho R w i
    have hc := of_in ho R w ((i : Nat) : Int)
    exact R.cell _ ih.1 ih.2 _ (at_mem hc.1 (by rw [R.row _ ih.1 ih.2]; exact hc.2))
theorem goD_0 (d : Dfa) (w : ByteArray) : (0 : Int) = goD d w (0 : Int).toNat := rfl
theorem goD_step (d : Dfa) (w : ByteArray) {t : Int} (h0 : 0 ≤ t) : at_ (at_ d.next (goD d w t.toNat)) (at_ d.part.of (byt w t)) = goD d w (t + 1).toNat := by
  rw [show (t + 1).toNat = t.toNat + 1 by omega]
  show _ = at_ (at_ d.next (goD d w t.toNat)) (at_ d.part.of (byt w ((t.toNat : Nat) : Int)))
  rw [Int.toNat_of_nonneg h0]
theorem runD_no {d : Dfa} {w : ByteArray} (h : zb7 d = false) : runD d w = false := by unfold runD; rw [h]; rfl
theorem runD_yes {d : Dfa} {w : ByteArray} {t : Int} (h : zb7 d = true) (ht : t = w.size) : runD d w = at_ d.final (goD d w t.toNat) := by
  unfold runD
  rw [h, ht, Int.toNat_natCast]; rfl
def zeroD : Dfa := ⟨⟨List.replicate 256 0, 0⟩, [], []⟩
def notD (d : Dfa) : Dfa := if zb7 d then ⟨d.part, d.next, d.final.map fun x => !x⟩ else zeroD
def errD (d : Dfa) : Int := if zb7 d then 0 else 1
theorem notD_yes {d : Dfa} (h : zb7 d = true) : notD d = ⟨d.part, d.next, d.final.map fun x => !x⟩ := by unfold notD; rw [if_pos h]
theorem notD_no {d : Dfa} (h : zb7 d = false) : notD d = zeroD := by unfold notD; rw [if_neg (by rw [h]; simp)]
theorem errD_yes {d : Dfa} (h : zb7 d = true) : errD d = 0 := by unfold errD; rw [if_pos h]
theorem errD_no {d : Dfa} (h : zb7 d = false) : errD d = 1 := by unfold errD; rw [if_neg (by rw [h]; simp)]
def notTo (d : Dfa) (t : Int) : List Bool := (d.final.take t.toNat).map fun x => !x
theorem not_step (d : Dfa) {t : Int} (h0 : 0 ≤ t) (h1 : t < (d.final.length : Int)) : notTo d t ++ [!at_ d.final t] = notTo d (t + 1) := by
  unfold notTo
  rw [zdp _ h0 h1, List.map_append]; rfl
theorem not_0 (d : Dfa) : ([] : List Bool) = notTo d 0 := rfl
theorem not_end (d : Dfa) {t : Int} (h : (d.final.length : Int) ≤ t) : notTo d t = d.final.map fun x => !x := by
  unfold notTo
  rw [List.take_of_length_le (by omega)]
theorem not_len (d : Dfa) {t : Int} (h0 : 0 ≤ t) : ((notTo d t).length : Int) ≤ t := by
  unfold notTo
  rw [List.length_map, List.length_take]; omega
def zav (x : Int × Int) : List Value := [.int .i64 x.1, .int .i64 x.2]
def okPair (x : Int × Int) : Prop := inK .i64 x.1 ∧ inK .i64 x.2
theorem encPair_one (x : Int × Int) : ∀ u ∈ zav x, u.oneCell' = true := fun u hu => by
  simp only [zav, List.mem_cons, List.not_mem_nil, or_false] at hu
  rcases hu with rfl | rfl <;> rfl
def kPair : Kd (Int × Int) := .flat zav okPair 2 (by omega) (fun _ _ => rfl) (fun x => encPair_one x)
def zcd (a b : Dfa) (s : Int × Int) (k : Int) : Int × Int := (at_ (at_ a.next s.1) k, at_ (at_ b.next s.2) k)
def howB (x y : Bool) (how : Int) : Bool := if how = 1 then x && y else if how = 2 then x || y else decide (x ≠ y)
def zde (a b : Dfa) (how : Int) (s : Int × Int) : Bool := howB (at_ a.final s.1) (at_ b.final s.2) how
def zdv (a b : Dfa) (how : Int) : Bool := zb7 a && zb7 b && decide (a.part = b.part) && decide (1 ≤ how) && decide (how ≤ 3)
noncomputable def zae (a b : Dfa) (how : Int) : Dfa := if zdv a b how then madeM a.part (0, 0) (zcd a b) (zde a b how) else zeroD
def errO (a b : Dfa) (how : Int) : Int := if zdv a b how then 0 else 1
def InP (a b : Dfa) (s : Int × Int) : Prop := (0 ≤ s.1 ∧ s.1 < (a.next.length : Int)) ∧ 0 ≤ s.2 ∧ s.2 < (b.next.length : Int)
theorem nextP_in {a b : Dfa} (ha : RightD a) (hb : RightD b) (he : a.part.n = b.part.n) {s : Int × Int} (hs : InP a b s) {k : Int} (h0 : 0 ≤ k) (h1 : k < a.part.n) : InP a b (zcd a b s k) :=
  ⟨ha.cell _ hs.1.1 hs.1.2 _ (at_mem h0 (by rw [ha.row _ hs.1.1 hs.1.2]; exact h1)), hb.cell _ hs.2.1 hs.2.2 _ (at_mem h0 (by rw [hb.row _ hs.2.1 hs.2.2, ← he]; exact h1))⟩
def codeP (b : Dfa) (s : Int × Int) : Nat := s.1.toNat * b.next.length + s.2.toNat
theorem codeP_lt {a b : Dfa} {s : Int × Int} (h : InP a b s) : codeP b s < a.next.length * b.next.length := by
  unfold codeP
  have h1 : s.1.toNat + 1 ≤ a.next.length := by have := h.1; omega
  have h2 : s.2.toNat < b.next.length := by have := h.2; omega
  have := Nat.mul_le_mul_right b.next.length h1
  rw [Nat.succ_mul] at this
  omega
theorem codeP_inj {a b : Dfa} {s t : Int × Int} (hs : InP a b s) (ht : InP a b t) (h : codeP b s = codeP b t) : s = t := by
  unfold codeP at h
  have h1 : s.2.toNat < b.next.length := by have := hs.2; omega
  have h2 : t.2.toNat < b.next.length := by have := ht.2; omega
  have e2 : s.2.toNat = t.2.toNat := by
    have e := congrArg (· % b.next.length) h
    simp only [Nat.mul_comm _ b.next.length, Nat.mul_add_mod, Nat.mod_eq_of_lt h1, Nat.mod_eq_of_lt h2] at e
    exact e
  have e1 : s.1.toNat = t.1.toNat := by
    rw [e2] at h
    have h3 : s.1.toNat * b.next.length = t.1.toNat * b.next.length := by omega
    exact Nat.eq_of_mul_eq_mul_right (by omega) h3
  have := hs.1; have := hs.2; have := ht.1; have := ht.2
  exact Prod.ext (by omega) (by omega)
section
variable {a b : Dfa} {fin : Int × Int → Bool} {all all2 : List (Int × Int)} {mp mp2 : List ((Int × Int) × Int)} {nx : List (List Int)} {fl : List Bool} {l : List Int} {i k : Int} {s : Int × Int}
theorem mul_bound {x y : Nat} (hx : (x : Int) ≤ 1048577) (hy : (y : Int) ≤ 1048577) : x * y ≤ 1099513724929 := Nat.le_trans (Nat.mul_le_mul (by omega : x ≤ 1048577) (by omega : y ≤ 1048577)) (by decide)
theorem pairs_bound (ha : RightD a) (hb : RightD b) (he : a.part.n = b.part.n) (h1 : (a.next.length : Int) ≤ 1048577) (h2 : (b.next.length : Int) ≤ 1048577) (W : MadeI (zcd a b) a.part.n (0, 0) fin all mp nx fl i) : (all.length : Int) ≤ 1099513724929 := by
  have := bfs_bound (P := InP a b) (f := codeP b) (N := a.next.length * b.next.length) (next := zcd a b) (n := a.part.n) (first := ((0, 0) : Int × Int)) ⟨⟨by omega, ha.some_⟩, by omega, hb.some_⟩ (fun s k hs h0 h1 => nextP_in ha hb he hs h0 h1) (fun s t => codeP_inj) (fun s h => codeP_lt h) i.toNat
  have h3 := mul_bound h1 h2
  rw [W.all_]; omega
theorem pairs_bound2 (ha : RightD a) (hb : RightD b) (he : a.part.n = b.part.n) (h1 : (a.next.length : Int) ≤ 1048577) (h2 : (b.next.length : Int) ≤ 1048577) (W : MadeI (zcd a b) a.part.n (0, 0) fin all mp nx fl i) (hs : s ∈ all) (K : MadeK (zcd a b) s all all2 mp2 l k) (hk : k ≤ a.part.n) : (all2.length : Int) ≤ 1099513724929 := by
  have := fold_bound (P := InP a b) (f := codeP b) (N := a.next.length * b.next.length) (first := ((0, 0) : Int × Int)) ⟨⟨by omega, ha.some_⟩, by omega, hb.some_⟩ (fun s k hs h0 h1 => nextP_in ha hb he hs h0 h1) (fun s t => codeP_inj) (fun s h => codeP_lt h) W hs K hk
  have h3 := mul_bound h1 h2
  omega
theorem pairs_in (ha : RightD a) (hb : RightD b) (he : a.part.n = b.part.n) (W : MadeI (zcd a b) a.part.n (0, 0) fin all mp nx fl i) (hs : s ∈ all) : InP a b s := by
  rw [W.all_] at hs
  exact bfs_all (P := InP a b) ⟨⟨by omega, ha.some_⟩, by omega, hb.some_⟩ (fun s k hs h0 h1 => nextP_in ha hb he hs h0 h1) _ s hs
end
end Gx
namespace Gx
open Go Go.RowKit
set_option linter.unusedSimpArgs false
set_option linter.unusedSectionVars false
set_option linter.unusedVariables false
theorem keyk_set {P : Program} {t E : TypeId} {b' : Nat} {z : Option Value} (hT : P.underlying t = some (.array 4 E)) (hE : P.underlying E = some (.int .u64)) (ht : zbw P E = some (1, b', false, z)) : KeyK P t (fun x : BSet => Value.agg (zak x).toArray) where
  eq := fun a b w => by
    have e : decide (zbh a = zbh b) = decide (a = b) := by
      by_cases h : a = b
      · subst h; simp
      · rw [decide_eq_false h, decide_eq_false (fun e => h (words_inj e))]
    have h1 := eqIn_ints (w := w) hT hE ht (zc6 a) (zc6 b) 9998
    rw [e] at h1
    exact h1
  chk := fun a e w => by
    obtain ⟨ii, d2, hi, hd2, hsz, _, hg, _⟩ := zbv ht
    have pE : ∀ (i : Nat) (x : Int) (w : World), (zak a).toArray[i]? = some (.int .u64 x) → (part E (zak a).toArray i).run P w = .ok (.int .u64 x) w := fun i x w hx => by
      simp only [part, Sem.run_bind, zdr hd2, hg, Result.andThen_ok, Bool.false_eq_true, if_false]
      rw [hx]; rfl
    have cE : ∀ (n : Nat) (x : Int) (w : World), (Instr.checkKey e (n + 1) E (.int .u64 x)).run P w = .ok () w := fun n x w => by
      rw [Instr.checkKey]
      simp only [Sem.run_bind, run_underlying hE, Result.andThen_ok]; rfl
    have p0 := fun w => pE 0 (wd a 0) w rfl
    have p1 := fun w => pE 1 (wd a 1) w rfl
    have p2 := fun w => pE 2 (wd a 2) w rfl
    have p3 := fun w => pE 3 (wd a 3) w rfl
    have main : ∀ n, (Instr.checkKey e (n + 1 + 1) t (.agg (zak a).toArray)).run P w = .ok () w := fun n => by
      rw [Instr.checkKey]
      simp only [Sem.run_bind, run_underlying hT, Result.andThen_ok]
      simp [Std.Legacy.Range.forIn_eq_forIn_range', List.range', Std.Legacy.Range.size, Sem.run_bind, Result.andThen_ok, zdw hi, hsz, p0, p1, p2, p3, cE, Sem.run_pure]
    exact main 9998
  now := ⟨_, hT, .inl fun a b => rfl⟩
  same := fun a => by simp [zak, zbb, zbh, Instr.sameBits]
end Gx
namespace Go.Proofs.YtfoemogojbnfhaaDoor
open Go Go.RowKit Gx
set_option linter.unusedSimpArgs false
theorem pair_fields : (Tryd.prog.fieldsOf 130).toList = [⟨"a", 3, 0, false, "", "shibboleth/dfa", 0⟩, ⟨"b", 3, 1, false, "", "shibboleth/dfa", 8⟩] := by kernel_rfl
theorem pair_under : Tryd.prog.underlying 130 = some (.struct #[⟨"a", 3, 0, false, "", "shibboleth/dfa", 0⟩, ⟨"b", 3, 1, false, "", "shibboleth/dfa", 8⟩]) := by kernel_rfl
theorem pair_under2 : Tryd.prog.underlying 130 = some (.struct (Tryd.prog.fieldsOf 130)) := by kernel_rfl
theorem key130 : KeyK Tryd.prog 130 (fun x : (Int × Int) => Value.agg (zav x).toArray) where
  eq := fun a b w => by
    have h3 : Tryd.prog.underlying 3 = some (.int .i64) := by kernel_rfl
    have hp : Tryd.prog.stoodInHeld 130 = false := by kernel_rfl
    have i3 : zbw Tryd.prog 3 = some (1, 8, false, some (.int .i64 0)) := by kernel_rfl
    obtain ⟨ii3, d3, hi3, hd3, hs3, _, hg3, _⟩ := zbv i3
    have pa : ∀ (x : Int × Int) (w : World), (part 3 (zav x).toArray 0).run Tryd.prog w = .ok (.int .i64 x.1) w := fun x w => by
      simp only [part, Sem.run_bind, zdr hd3, hg3, Result.andThen_ok, Bool.false_eq_true, if_false]; rfl
    have pb : ∀ (x : Int × Int) (w : World), (part 3 (zav x).toArray 1).run Tryd.prog w = .ok (.int .i64 x.2) w := fun x w => by
      simp only [part, Sem.run_bind, zdr hd3, hg3, Result.andThen_ok, Bool.false_eq_true, if_false]; rfl
    show (Op.equalIn 10000 130 _ _).run _ _ = _
    rw [run_equalIn_agg w 9999 130 _ _ pair_under2 hp, pair_fields]
    obtain ⟨a1, a2⟩ := a
    obtain ⟨b1, b2⟩ := b
    have e3 := fun (w : World) (x y : Int) => run_equalIn_int w 9998 3 .i64 .i64 x y h3
    by_cases h : a1 = b1 <;> by_cases h2 : a2 = b2 <;> simp [Op.eqFields, h, h2, Sem.run_pure, Sem.run_bind, pa, pb, e3]
  chk := fun a e w => by
    have h3 : Tryd.prog.underlying 3 = some (.int .i64) := by kernel_rfl
    have i3 : zbw Tryd.prog 3 = some (1, 8, false, some (.int .i64 0)) := by kernel_rfl
    obtain ⟨ii3, d3, hi3, hd3, hs3, _, hg3, _⟩ := zbv i3
    have pa : ∀ (w : World), (part 3 (zav a).toArray 0).run Tryd.prog w = .ok (.int .i64 a.1) w := fun w => by
      simp only [part, Sem.run_bind, zdr hd3, hg3, Result.andThen_ok, Bool.false_eq_true, if_false]; rfl
    have pb : ∀ (w : World), (part 3 (zav a).toArray 1).run Tryd.prog w = .ok (.int .i64 a.2) w := fun w => by
      simp only [part, Sem.run_bind, zdr hd3, hg3, Result.andThen_ok, Bool.false_eq_true, if_false]; rfl
    have c3 : ∀ (n : Nat) (x : Int) (w : World), (Instr.checkKey e (n + 1) 3 (.int .i64 x)).run Tryd.prog w = .ok () w := fun n x w => by
      rw [Instr.checkKey]
      simp only [Sem.run_bind, run_underlying h3, Result.andThen_ok]; rfl
    have main : ∀ n, (Instr.checkKey e (n + 1 + 1) 130 (.agg (zav a).toArray)).run Tryd.prog w = .ok () w := fun n => by
      rw [Instr.checkKey]
      simp only [Sem.run_bind, run_underlying pair_under, Result.andThen_ok]
      simp [Sem.run_bind, Result.andThen_ok, pa, pb, c3, Sem.run_pure]
    exact main 9998
  now := ⟨_, pair_under, .inl fun a b => rfl⟩
  same := fun a => by simp [zav, Instr.sameBits]
end Go.Proofs.YtfoemogojbnfhaaDoor
