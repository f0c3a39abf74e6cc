/- My own library for walks through the translated code, part Gx13: laws of the model alone, no word of the program. -/
import Derived.Test.YtdfkpjchnndniaaDoorGx12
import Derived.Laws.Strings
namespace Gx
open Go Go.RowKit
set_option linter.unusedSimpArgs false
set_option linter.unusedSectionVars false
set_option linter.unusedVariables false

theorem all_nil {w : World} : ∀ p ∈ ([] : Held), p.2.1 w := fun p hp => by cases hp
theorem all_cons {w : World} {i : Nat} {F : Sp} {H : Held} (h : F.1 w) (hs : ∀ p ∈ H, p.2.1 w) : ∀ p ∈ (i, F) :: H, p.2.1 w := fun p hp => by
  rcases List.mem_cons.1 hp with e | e
  · subst e; exact h
  · exact hs p e

section
variable {P : Program} {f n : Nat} {k : List Item} {ρ : Env} {w w' : World} {R : Ending → World → Prop} {ops : Array Oper} {H : Held} {fuel : Nat} {listed : Array Bool}
theorem keep_more {X : Held} {i : Nat} (h : Keep ops i w (X ++ H)) : Keep ops i w H := by
  induction X with
  | nil => exact h
  | cons p r ih => exact ih h.2
theorem anyL_more {Q : Exit → Act → World → Prop} {X : Held} : ∀ (fuel : Nat) (listed : Array Bool) (a : Act) (w : World), AnyL P ops Q (X ++ H) fuel listed a w → AnyL P ops Q H fuel listed a w
  | 0, _, _, _, h => h
  | fuel + 1, _, _, _, h => fun w2 g => ⟨(h w2 g).1, fun i hi => wpOp_mono (fun a' w' h' => ⟨h'.1.imp id keep_more, anyL_more fuel _ a' w' h'.2⟩) ((h w2 g).2 i hi)⟩
theorem ra_more (X : Held) (h : RA P f n ops (X ++ H) fuel listed k ρ w R) : RA P f n ops H fuel listed k ρ w R := fun tmps ht => anyL_more _ _ _ _ (h tmps ht)

theorem run_cond_nprop {c : Operand} {x y : Code} {p : Prop} [Decidable p] (hc : ev ρ c = .bool (!decide p)) (ht : ¬ p → Run P f n (.code x :: k) ρ w R) (hf : p → Run P f n (.code y :: k) ρ w R) : Run P f n (.code (.cond c x y) :: k) ρ w R :=
  run_cond_split hc (fun h => ht (by simpa using h)) (fun h => hf (by simpa using h))
theorem run_cond_nsplit {c : Operand} {x y : Code} {b : Bool} (hc : ev ρ c = .bool (!b)) (ht : b = false → Run P f n (.code x :: k) ρ w R) (hf : b = true → Run P f n (.code y :: k) ρ w R) : Run P f n (.code (.cond c x y) :: k) ρ w R :=
  run_cond_split hc (fun h => ht (by simpa using h)) (fun h => hf (by simpa using h))
theorem wanted_of {op : Op} {dd : Option Tmp} {ty : TypeId} {pos : String} {af : Array Edge} {j d : Nat} {want b r : Bool} {o' : Oper} (ho : ops[j]? = some o') (hd : o'.dst = some d) (hv : ρ d = .bool b) (hr : (some b == some want) = r) : wantedE ρ ops ⟨dd, op, ty, pos, af, some (j, want)⟩ = r := by
  simp only [wantedE, ho, Option.bind_some, hd, hv, boolOf]
  exact hr
end

section
variable {P : Program} {ρ : Env} {w w' : World} {d : Option Tmp} {ty : TypeId} {pos : String} {af : Array Edge} {g : Option (Nat × Bool)} {x y : Operand}
variable {base : Nat} {w0 : World} {h : Ghost} {L : List Asrt}
variable {α : Type} [Inhabited α] {kd : Kd α} {xs : List α}
theorem St.le0 (S : St w.heap.size w h w' L) : Le (hp w) (hp w') := Le.below S.below
theorem leads_nil (kd : Kd α) (h : Ghost) : Leads kd h none ([] : List α) := fun hne => (hne rfl).elim
theorem slice_nil_rep (kd : Kd α) (h : Ghost) : kd.slice.rep h [] [.slice none 0 0] := ⟨none, 0, rfl, by simp, by simp [maxLen], leads_nil _ _⟩
theorem row_leads_eq {j : Nat} {T : TypeId} {A : Option Addr} {c : Nat} {v : Value} (S : St base w0 h w L) (hj : L[j]? = some (row T kd v xs)) (hv : v = .slice A xs.length c) : Leads kd (hp w) A xs := by
  subst hv
  exact S.row_leads hj
theorem row_one {j : Nat} {T : TypeId} {v : Value} (S : St base w0 h w L) (hj : L[j]? = some (row T kd v xs)) : v.oneCell' = true := by
  obtain ⟨A, c, e, _⟩ := S.row_val hj
  rw [e]; rfl
theorem call_joins {hn : Ghost} {M : List Asrt} (S : St base w0 h w L) (T : St w.heap.size w hn w' M) : ∃ k, Le h k ∧ Le hn k ∧ St base w0 k w' (L ++ M) :=
  ⟨gor h hn, Le.gor_left _ _, Le.gor_right (fun b o e => by
    cases e2 : hn b with
    | none => rfl
    | some o2 => have := T.dom b o2 e2; have := hp_lt (S.ghost b o e); omega), S.call T⟩
theorem eqIn_bool {a b : Bool} {t : TypeId} (hT : P.underlying t = some .bool) (m : Nat) : (Op.equalIn (m + 1) t (.bool a) (.bool b)).run P w = .ok (a == b) w := by
  rw [Op.equalIn]
  simp only [Sem.run_bind, run_underlying hT, Result.andThen_ok]
  rfl
theorem guard_bool {a b : Bool} {t : TypeId} {o : BinOp} : (eqGuard o t x y (.bool a) (.bool b)).run P w = .ok () w := by
  unfold eqGuard
  cases o <;> rfl
theorem x_eql_bool {a b : Bool} {t t2 : TypeId} (hT : P.underlying t = some .bool) (hx : ev ρ x = .bool a) (hy : ev ρ y = .bool b) : (execOp (ev ρ) ⟨d, .binOp .eql t x y t2, ty, pos, af, g⟩).run P w = .ok (.value (.bool (decide (a = b)))) w := by
  have e : (a == b) = decide (a = b) := by cases a <;> cases b <;> rfl
  have h2 : (binOp .eql t (.bool a) (.bool b)).run P w = .ok (.bool (a == b)) w := by
    show ((do pure (.bool (← Op.equalIn (9999 + 1) t (.bool a) (.bool b))) : Sem Value)).run P w = _
    rw [Sem.run_bind, eqIn_bool hT]; rfl
  simp only [execOp, hx, hy, Sem.run_bind, guard_bool, Result.andThen_ok, h2, e]
  rfl
theorem x_neq_bool {a b : Bool} {t t2 : TypeId} (hT : P.underlying t = some .bool) (hx : ev ρ x = .bool a) (hy : ev ρ y = .bool b) : (execOp (ev ρ) ⟨d, .binOp .neq t x y t2, ty, pos, af, g⟩).run P w = .ok (.value (.bool (decide (a ≠ b)))) w := by
  have e : (!(a == b)) = decide (a ≠ b) := by cases a <;> cases b <;> rfl
  have h2 : (binOp .neq t (.bool a) (.bool b)).run P w = .ok (.bool (!(a == b))) w := by
    show ((do pure (.bool (!(← Op.equalIn (9999 + 1) t (.bool a) (.bool b)))) : Sem Value)).run P w = _
    rw [Sem.run_bind, eqIn_bool hT]; rfl
  simp only [execOp, hx, hy, Sem.run_bind, guard_bool, Result.andThen_ok, h2, e]
  rfl
theorem bytes_list (a : ByteArray) : a.toList = a.data.toList := ByteArray.toList_eq a
theorem bytes_eq {a b : ByteArray} : (a.toList == b.toList) = decide (a = b) := by
  rw [bytes_list, bytes_list]
  by_cases h : a = b
  · subst h; simp
  · have : a.data.toList ≠ b.data.toList := fun e => h (by cases a; cases b; congr; exact Array.ext' e)
    rw [decide_eq_false h]
    exact beq_eq_false_iff_ne.mpr this
theorem x_eql_string {a b : ByteArray} {t t2 : TypeId} (hx : ev ρ x = .string a) (hy : ev ρ y = .string b) : (execOp (ev ρ) ⟨d, .binOp .eql t x y t2, ty, pos, af, g⟩).run P w = .ok (.value (.bool (decide (a = b)))) w := by
  rw [← bytes_eq]
  simp [execOp, hx, hy, eqGuard, binOp, Op.stringOp, go_sem]
theorem x_neq_string {a b : ByteArray} {t t2 : TypeId} (hx : ev ρ x = .string a) (hy : ev ρ y = .string b) : (execOp (ev ρ) ⟨d, .binOp .neq t x y t2, ty, pos, af, g⟩).run P w = .ok (.value (.bool (decide (a ≠ b)))) w := by
  have e : (!(a.toList == b.toList)) = decide (a ≠ b) := by rw [bytes_eq]; simp
  rw [← e]
  simp [execOp, hx, hy, eqGuard, binOp, Op.stringOp, go_sem]
/-- A byte of a string, as a number. -/
def byt (s : ByteArray) (i : Int) : Int := ((s.data.toList.getD i.toNat 0).toNat : Nat)
theorem byt_range (s : ByteArray) (i : Int) : 0 ≤ byt s i ∧ byt s i ≤ 255 := by
  unfold byt
  have := (s.data.toList.getD i.toNat 0).toNat_lt
  omega
theorem x_index_byt {T : TypeId} {s : ByteArray} {q : Int} {kk : IntKind} (hT : P.underlying T = some .string) (hx : ev ρ x = .string s) (hy : ev ρ y = .int kk q) (h0 : 0 ≤ q) (h1 : q < (s.size : Int)) :
    (execOp (ev ρ) ⟨d, .index T x y, ty, pos, af, g⟩).run P w = .ok (.value (.int .u8 (byt s q))) w := x_index_string hT hx hy h0 h1
end
end Gx
