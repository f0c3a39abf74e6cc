/- My own library for walks through the translated code, part M10: laws of the model alone, no word of the program. -/
import Derived.Test.YtdfkpjchnndniaaDoorM9
import Derived.Laws.BytesArg
namespace Gx
open Go Go.RowKit
set_option linter.unusedSimpArgs false
set_option linter.unusedSectionVars false
set_option linter.unusedVariables false

/-! ### Bytes as a string -/
section
variable {P : Program} {ρ : Env} {w w' : World} {d : Option Tmp} {ty : TypeId} {pos : String} {af : Array Edge} {g : Option (Nat × Bool)} {x y : Operand}
theorem x_bytes_string {src dst e : TypeId} {A : Option Addr} {c : Nat} {xs : List Int} (hs : P.underlying src = some (.slice e)) (he : P.underlying e = some (.int .u8)) (hd : P.underlying dst = some .string)
    (hx : ev ρ x = .slice A xs.length c) (hl : Leads (Kd.int .u8) (hp w) A xs) : (execOp (ev ρ) ⟨d, .convert src dst x, ty, pos, af, g⟩).run P w = .ok (.value (.string (strOfNums xs))) w := by
  have key : (convert src dst (.slice A xs.length c)).run P w = .ok (.string (strOfNums xs)) w := by
    cases xs with
    | nil =>
      rw [run_convert_bytes_string w src dst e A _ c hs he hd]
      cases A with
      | none => rfl
      | some a =>
        have hc := run_loadCells_list (P := P) w a [] (fun j v hj => by simp at hj)
        simp only [List.length_nil] at hc
        have := run_bytesToString (P := P) w a 0 c [] (by simpa using hc)
        exact this
    | cons z zs =>
      obtain ⟨a, rfl, hcells⟩ := hl (by simp)
      rw [run_convert_bytes_string w src dst e _ _ c hs he hd]
      have hl2 := run_loadCells_list (P := P) w a ((z :: zs).map (Value.int .u8)) (fun j v hj => by
        rw [List.getElem?_map] at hj
        cases hq : (z :: zs)[j]? with
        | none => rw [hq] at hj; cases hj
        | some n =>
          rw [hq] at hj
          obtain ⟨seg, ⟨rfl, _⟩, hs2⟩ := hcells j n hq
          have := hs2 0 _ rfl
          simp only [Option.map_some, Option.some.injEq] at hj
          subst hj
          have e1 : (Kd.int .u8).sz = 1 := rfl
          rw [e1, Nat.mul_one, Nat.add_zero] at this
          rw [← gcell_of_block (h := hp w) (by rfl)]
          exact this)
      simp only [List.length_map] at hl2
      rw [run_bytesToString (P := P) w a _ c _ hl2, foldl_push_bytes]
      simp [strOfNums, ByteArray.empty, ByteArray.emptyWithCapacity]
      rfl
  simp only [execOp, hx, Sem.run_bind, key, Result.andThen_ok]
  rfl
theorem str_small {xs : List Int} (h : xs.length ≤ maxLen) : (strOfNums xs).size ≤ maxLen := by rw [strOfNums_size]; exact h
end
/-! ### Structs held against each other -/
structure EqK {α : Type} [DecidableEq α] (P : Program) (T : TypeId) (enc : α → List Value) (ok : α → Prop) : Prop where
  run : ∀ (w : World) (a b : α), ok a → ok b → ∀ d, (Op.equalIn (d + 6) T (.agg (enc a).toArray) (.agg (enc b).toArray)).run P w = .ok (decide (a = b)) w
section
variable {P : Program} {ρ : Env} {w w' : World} {d : Option Tmp} {ty : TypeId} {pos : String} {af : Array Edge} {g : Option (Nat × Bool)} {x y : Operand}
theorem x_eql_agg {α : Type} [DecidableEq α] {enc : α → List Value} {ok : α → Prop} {t t2 : TypeId} {a b : α} (E : EqK P t enc ok) (ha : ok a) (hb : ok b) (hg : P.eqGuardType P.depth t = false) (hx : ev ρ x = .agg (enc a).toArray) (hy : ev ρ y = .agg (enc b).toArray) :
    (execOp (ev ρ) ⟨d, .binOp .eql t x y t2, ty, pos, af, g⟩).run P w = .ok (.value (.bool (decide (a = b)))) w := by
  have h1 := E.run w a b ha hb 9994
  simp only [execOp, hx, hy, Sem.run_bind, run_eqGuard_agg w .eql t x y _ _ hg, Result.andThen_ok, run_eql_struct, h1]
  rfl
theorem x_neq_agg {α : Type} [DecidableEq α] {enc : α → List Value} {ok : α → Prop} {t t2 : TypeId} {a b : α} (E : EqK P t enc ok) (ha : ok a) (hb : ok b) (hg : P.eqGuardType P.depth t = false) (hx : ev ρ x = .agg (enc a).toArray) (hy : ev ρ y = .agg (enc b).toArray) :
    (execOp (ev ρ) ⟨d, .binOp .neq t x y t2, ty, pos, af, g⟩).run P w = .ok (.value (.bool (decide (a ≠ b)))) w := by
  have h1 := E.run w a b ha hb 9994
  have e : (!decide (a = b)) = decide (a ≠ b) := by simp
  simp only [execOp, hx, hy, Sem.run_bind, run_eqGuard_agg w .neq t x y _ _ hg, Result.andThen_ok, run_neq_struct, h1, e]
  rfl
end
section
variable {P : Program}
def eqF (d : Nat) (xs ys : Array Value) : List (TypeId × Nat) → Sem Bool
  | [] => pure true
  | f :: fs => do
    let a ← part f.1 xs f.2
    let b ← part f.1 ys f.2
    let r ← Op.equalIn d f.1 a b
    if (!r) = true then pure false else eqF d xs ys fs
theorem eqF_of (d : Nat) (xs ys : Array Value) : ∀ (fs : List Field), (fs.all fun f => f.name != "_") = true → Op.eqFields d xs ys fs = eqF d xs ys (fs.map fun f => (f.type, f.offset))
  | [], _ => rfl
  | f :: fs, h => by
    simp only [List.all_cons, Bool.and_eq_true, bne_iff_ne, ne_eq] at h
    simp only [Op.eqFields, List.map_cons, eqF, h.1, ne_eq, not_false_eq_true, if_true]
    rw [eqF_of d xs ys fs h.2]
theorem eqF_cons {w : World} {d : Nat} {xs ys : Array Value} {t : TypeId} {o : Nat} {fs : List (TypeId × Nat)} {a b : Value} {r q : Bool} (ha : (part t xs o).run P w = .ok a w) (hb : (part t ys o).run P w = .ok b w) (hr : (Op.equalIn d t a b).run P w = .ok r w) (hq : (eqF d xs ys fs).run P w = .ok q w) :
    (eqF d xs ys ((t, o) :: fs)).run P w = .ok (r && q) w := by
  simp only [eqF, Sem.run_bind, ha, hb, hr, Result.andThen_ok]
  cases r
  · rfl
  · simpa using hq
theorem eqF_nil {w : World} {d : Nat} {xs ys : Array Value} : (eqF d xs ys []).run P w = .ok true w := rfl
theorem part_one {w : World} {t : TypeId} {n b : Nat} {z : Option Value} {cs : List Value} {o : Nat} {v : Value} (ht : tyInfo P t = some (n, b, false, z)) (hv : cs[o]? = some v) : (part t cs.toArray o).run P w = .ok v w := by
  obtain ⟨ii, d5, hi5, hd5, hs5, _, hg5, _⟩ := tyInfo_parts ht
  simp only [part, Sem.run_bind, run_isAgg hd5, hg5, Result.andThen_ok, Bool.false_eq_true, if_false, List.getElem?_toArray, hv]; rfl
theorem part_agg {w : World} {t : TypeId} {n b : Nat} {z : Option Value} {cs seg : List Value} {o : Nat} (ht : tyInfo P t = some (n, b, true, z)) (hv : (cs.drop o).take n = seg) : (part t cs.toArray o).run P w = .ok (.agg seg.toArray) w := by
  obtain ⟨ii, d5, hi5, hd5, hs5, _, hg5, _⟩ := tyInfo_parts ht
  have e : cs.toArray.extract o (o + n) = seg.toArray := by
    rw [← hv, List.extract_toArray, List.extract_eq_take_drop]; simp
  simp only [part, Sem.run_bind, run_isAgg hd5, hg5, Result.andThen_ok, if_true, run_sizeOf w hi5, show P.cellsOf t = n by simp [Program.cellsOf, hi5, hs5], e]; rfl
theorem eq_struct {α : Type} [DecidableEq α] {T : TypeId} {enc : α → List Value} {ok : α → Prop} {L : List (TypeId × Nat)} (hT : P.underlying T = some (.struct (P.fieldsOf T))) (hp : P.stoodInHeld T = false) (hn : ((P.fieldsOf T).toList.all fun f => f.name != "_") = true) (hL : ((P.fieldsOf T).toList.map fun f => (f.type, f.offset)) = L)
    (h : ∀ (w : World) (a b : α), ok a → ok b → ∀ d, (eqF (d + 5) (enc a).toArray (enc b).toArray L).run P w = .ok (decide (a = b)) w) : EqK P T enc ok where
  run := fun w a b ha hb d => by
    rw [run_equalIn_agg w (d + 5) T _ _ hT hp, eqF_of _ _ _ _ hn, hL]
    exact h w a b ha hb d
theorem eq_part {T A B N : TypeId} {b1 b2 : Nat} {z1 z2 z3 : Option Value} {b3 : Nat} (hT : P.underlying T = some (.struct (P.fieldsOf T))) (hp : P.stoodInHeld T = false) (hn : ((P.fieldsOf T).toList.all fun f => f.name != "_") = true) (hL : ((P.fieldsOf T).toList.map fun f => (f.type, f.offset)) = [(A, 0), (N, 256)])
    (hA : P.underlying A = some (.array 256 B)) (hB : P.underlying B = some (.int .u8)) (hN : P.underlying N = some (.int .i64)) (tA : tyInfo P A = some (256, b1, true, z1)) (tB : tyInfo P B = some (1, b2, false, z2)) (tN : tyInfo P N = some (1, b3, false, z3)) : EqK P T encPart okPart :=
  eq_struct hT hp hn hL fun w a b ha hb d => by
    have e : decide (a = b) = (decide (a.of = b.of) && (decide (a.n = b.n) && true)) := by
      obtain ⟨o, n⟩ := a; obtain ⟨o', n'⟩ := b
      rw [Bool.and_true, Bool.eq_iff_iff]; simp
    rw [e]
    have g : ∀ {p : PartM}, okPart p → (encPart p)[256]? = some (.int .i64 p.n) := fun {p} h => by
      have := encPart_n h
      have h2 := congrArg (fun l : List Value => l[0]?) this
      simpa [List.getElem?_take, List.getElem?_drop] using h2
    refine eqF_cons (part_agg tA (encPart_of ha)) (part_agg tA (encPart_of hb)) (eqIn_ints (w := w) hA hB tB ha.1 hb.1 (d + 3)) (eqF_cons (part_one tN (g ha)) (part_one tN (g hb)) ?_ eqF_nil)
    rw [run_equalIn_int w (d + 4) N .i64 .i64 _ _ hN]; congr 1
theorem eq_spot {T A B N : TypeId} {b1 b2 : Nat} {z1 z2 z3 : Option Value} {b3 : Nat} (hT : P.underlying T = some (.struct (P.fieldsOf T))) (hp : P.stoodInHeld T = false) (hn : ((P.fieldsOf T).toList.all fun f => f.name != "_") = true) (hL : ((P.fieldsOf T).toList.map fun f => (f.type, f.offset)) = [(A, 0), (N, 4)])
    (hA : P.underlying A = some (.array 4 B)) (hB : P.underlying B = some (.int .u64)) (hN : P.underlying N = some (.int .u8)) (tA : tyInfo P A = some (4, b1, true, z1)) (tB : tyInfo P B = some (1, b2, false, z2)) (tN : tyInfo P N = some (1, b3, false, z3)) : EqK P T encSpot okSpot :=
  eq_struct hT hp hn hL fun w a b ha hb d => by
    have e : decide (a = b) = (decide (words a.set = words b.set) && (decide (a.tag = b.tag) && true)) := by
      obtain ⟨o, n⟩ := a; obtain ⟨o', n'⟩ := b
      rw [Bool.and_true, Bool.eq_iff_iff]; simp
      intro _
      exact ⟨fun h => by rw [h], words_inj⟩
    rw [e]
    refine eqF_cons (part_agg (seg := encInts .u64 (words a.set)) tA rfl) (part_agg (seg := encInts .u64 (words b.set)) tA rfl) (eqIn_ints (w := w) hA hB tB (okWords _) (okWords _) (d + 3)) (eqF_cons (part_one (v := .int .u8 a.tag) tN rfl) (part_one (v := .int .u8 b.tag) tN rfl) ?_ eqF_nil)
    rw [run_equalIn_int w (d + 4) N .u8 .u8 _ _ hN]; congr 1
end
end Gx
