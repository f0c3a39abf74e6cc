/- My own library for walks through the translated code, part Gx7: laws of the model alone, no word of the program. -/
import Derived.Test.YtdfkpjchnndniaaDoorGx6
namespace Gx
open Go Go.RowKit
set_option linter.unusedSimpArgs false
set_option linter.unusedSectionVars false
set_option linter.unusedVariables false

theorem drop_take_set {α : Type} {k : Kd α} {h : Ghost} {xs : List α} {cs seg : List Value} {i : Nat} {x : α} (he : Elems k h xs cs) (hi : i < xs.length) (hx : k.rep h x seg) : Elems k h (xs.set i x) (lput cs (i * k.sz) seg) := by
  have hl := k.len hx
  have hfit : i * k.sz + k.sz ≤ cs.length := by rw [he.1, ← Nat.succ_mul]; exact Nat.mul_le_mul_right _ hi
  refine ⟨by rw [lput_length, he.1, List.length_set], fun j y hj => ?_⟩
  have hjl : j < xs.length := by have := (List.getElem?_eq_some_iff.1 hj).1; simpa using this
  by_cases hji : j = i
  · subst hji
    rw [List.getElem?_set_self hjl] at hj
    injection hj with hj
    subst hj
    have : ((lput cs (j * k.sz) seg).drop (j * k.sz)).take k.sz = seg := by
      apply List.ext_getElem?
      intro q
      rw [List.getElem?_take]
      split
      · rw [List.getElem?_drop, lput_get seg cs _ _ (by omega), if_pos (by omega)]
        congr 1; omega
      · rw [List.getElem?_eq_none (by omega)]
    rw [this]; exact hx
  · rw [List.getElem?_set_ne (fun e => hji e.symm)] at hj
    have : ((lput cs (i * k.sz) seg).drop (j * k.sz)).take k.sz = (cs.drop (j * k.sz)).take k.sz := by
      apply List.ext_getElem?
      intro q
      rw [List.getElem?_take, List.getElem?_take]
      split
      · rw [List.getElem?_drop, List.getElem?_drop, lput_get seg cs _ _ (by omega), if_neg]
        rintro ⟨h1, h2⟩
        rcases Nat.lt_or_gt_of_ne hji with hlt | hgt
        · have : (j + 1) * k.sz ≤ i * k.sz := Nat.mul_le_mul_right _ hlt
          rw [Nat.succ_mul] at this; omega
        · have : (i + 1) * k.sz ≤ j * k.sz := Nat.mul_le_mul_right _ hgt
          rw [Nat.succ_mul] at this; omega
      · rfl
    rw [this]; exact he.2 j y hj

theorem Elems.app {α : Type} {k : Kd α} {h : Ghost} {xs ys : List α} {cs ds : List Value} (hx : Elems k h xs cs) (hy : Elems k h ys ds) : Elems k h (xs ++ ys) (cs ++ ds) := by
  refine ⟨by rw [List.length_append, List.length_append, hx.1, hy.1, Nat.add_mul], fun i z hi => ?_⟩
  by_cases hlt : i < xs.length
  · rw [List.getElem?_append_left hlt] at hi
    have hfit : i * k.sz + k.sz ≤ cs.length := by rw [hx.1, ← Nat.succ_mul]; exact Nat.mul_le_mul_right _ hlt
    rw [List.drop_append_of_le_length (by omega), List.take_append_of_le_length (by rw [List.length_drop]; omega)]
    exact hx.2 i z hi
  · rw [List.getElem?_append_right (by omega)] at hi
    have e : i * k.sz = cs.length + (i - xs.length) * k.sz := by rw [hx.1, ← Nat.add_mul]; congr 1; omega
    rw [e, List.drop_append]
    simp only [List.drop_eq_nil_of_le (show cs.length ≤ cs.length + (i - xs.length) * k.sz by omega), List.nil_append]
    rw [show cs.length + (i - xs.length) * k.sz - cs.length = (i - xs.length) * k.sz by omega]
    exact hy.2 _ z hi
theorem Elems.nil {α : Type} (k : Kd α) (h : Ghost) : Elems k h [] [] := ⟨by simp, fun i x hi => by simp at hi⟩
theorem Elems.one {α : Type} {k : Kd α} {h : Ghost} {xs : List α} {cs : List Value} (he : Elems k h xs cs) : ∀ u ∈ cs, u.oneCell' = true := by
  intro u hu
  obtain ⟨q, hq, rfl⟩ := List.mem_iff_getElem.1 hu
  have hp := k.pos
  have hql : q / k.sz < xs.length := by rw [Nat.div_lt_iff_lt_mul hp, ← he.1]; exact hq
  refine k.one (he.2 (q / k.sz) _ (List.getElem?_eq_getElem hql)) _ ?_
  rw [List.mem_iff_getElem?]
  refine ⟨q % k.sz, ?_⟩
  rw [List.getElem?_take, if_pos (Nat.mod_lt _ hp), List.getElem?_drop, Nat.mul_comm, Nat.div_add_mod, List.getElem?_eq_getElem hq]
theorem Elems.single {α : Type} {k : Kd α} {h : Ghost} {x : α} {cs : List Value} (hx : k.rep h x cs) : Elems k h [x] cs := by
  refine ⟨by rw [k.len hx]; simp, fun i y hi => ?_⟩
  cases i with
  | zero =>
    simp only [List.getElem?_cons_zero, Option.some.injEq] at hi
    subst hi
    rw [Nat.zero_mul, List.drop_zero, List.take_of_length_le (by rw [k.len hx]; exact Nat.le_refl _)]; exact hx
  | succ i => simp at hi
theorem Elems.cons {α : Type} {k : Kd α} {h : Ghost} {x : α} {xs : List α} {cs ds : List Value} (hx : k.rep h x cs) (hy : Elems k h xs ds) : Elems k h (x :: xs) (cs ++ ds) := (Elems.single hx).app hy
theorem Elems.take_ {α : Type} {k : Kd α} {h : Ghost} {xs : List α} {cs : List Value} (he : Elems k h xs cs) (m : Nat) : Elems k h (xs.take m) (cs.take (m * k.sz)) := by
  refine ⟨?_, fun i x hi => ?_⟩
  · rw [List.length_take, List.length_take, he.1]
    rcases Nat.le_total m xs.length with hle | hle
    · rw [Nat.min_eq_left hle, Nat.min_eq_left (Nat.mul_le_mul_right _ hle)]
    · rw [Nat.min_eq_right hle, Nat.min_eq_right (Nat.mul_le_mul_right _ hle)]
  · rw [List.getElem?_take] at hi
    split at hi
    · rename_i him
      have : (i + 1) * k.sz ≤ m * k.sz := Nat.mul_le_mul_right _ him
      rw [Nat.succ_mul] at this
      rw [List.drop_take, List.take_take, Nat.min_eq_left (by omega)]
      exact he.2 i x hi
    · cases hi

section
variable {P : Program} {f n : Nat} {k : List Item} {ρ : Env} {w : World} {R : Ending → World → Prop} {ops : Array Oper} {rest : List Nat} {i : Nat}
variable {d : Tmp} {ty : TypeId} {pos : String} {af : Array Edge} {x y : Operand} {op : Op}
variable {base : Nat} {w0 : World} {h : Ghost} {L : List Asrt}
variable {α : Type} [Inhabited α] {kd : Kd α} {xs : List α}

/-- An element of a slice of the call's own is written. -/
theorem go_store_own {j : Nat} {v u : Value} {q : Int} {T : TypeId} {m b' : Nat} {gg : Bool} {z : Option Value} {ad : Addr} {e : α} {vs : List Value} {a : Operand} (S : St base w0 h w L) (ho : ops[i]? = some ⟨none, .store T a x, ty, pos, af, none⟩) (ht : tyInfo P T = some (m, b', gg, z)) (hm : kd.sz = m)
    (hj : L[j]? = some (row T kd v xs)) (ha : ev ρ a = .pointer (some ad)) (hx : ev ρ x = u) (hc : u.cells = vs.toArray) (hr : kd.rep h e vs) (hat : AtOwn v m q ad) (h0 : 0 ≤ q) (hq : q < (xs.length : Int))
    (hk : ∀ w', St base w0 h w' (L.set j (row T kd v (xs.set q.toNat e))) → Run P f n (.inRegion ops rest :: k) ρ w' R) : Run P f n (.inRegion ops (i :: rest) :: k) ρ w R := by
  obtain ⟨Fs, hF, _⟩ := S.sep
  obtain ⟨g, hg, rfl⟩ := hat
  subst hm
  have hql : q.toNat < xs.length := by omega
  obtain ⟨⟨cs, hown, hel, hfo⟩, _⟩ := hF j _ hj
  rcases hown.2 with ⟨_, he⟩ | ⟨g', cap, cur, hv, hb, hh, hl, hcap, hcs, htk⟩
  · omega
  have hgg : g' = g := by rw [hv] at hg; simpa [Value.ownBlock] using hg
  subst hgg
  have hlt : g' < w.heap.size := (Array.getElem?_eq_some_iff.1 hh).1
  have hvl := kd.len hr
  have hfit : q.toNat * kd.sz + kd.sz ≤ xs.length * kd.sz := by rw [← Nat.succ_mul]; exact Nat.mul_le_mul_right _ hql
  have hcap' : xs.length * kd.sz ≤ cap * kd.sz := Nat.mul_le_mul_right _ hl
  have hh' : w.heap[g']? = some (.cells cur.toList.toArray T (0, 0)) := by rw [hh]
  have hcl : cur.toList.length = cap * kd.sz := by rw [Array.length_toList]; exact hcs
  have S' : St base w0 h (putBlock w g' T (lput cur.toList (q.toNat * kd.sz) vs)) (L.set j (row T kd v (xs.set q.toNat e))) := by
    refine S.upd hj fun F hF' hFU => ?_
    obtain ⟨cs2, hown2, hel2, hfo2⟩ := hF'
    have hFg : F g' := hfo2 g' hg
    refine ⟨(putBlock_chg w g' T _).mono (fun b hb => by subst hb; exact hFg), F, ⟨lput cs (q.toNat * kd.sz) vs, ⟨?_, .inr ⟨g', cap, (lput cur.toList (q.toNat * kd.sz) vs).toArray, ?_, hb, putBlock_at hlt _ _, ?_, hcap, ?_, ?_⟩⟩, drop_take_set hel hql hr, hfo2⟩, fun b hb => .inl hb⟩
    · rw [lput_length, hown.1, List.length_set]
    · rw [hv, List.length_set]
    · rw [List.length_set]; exact hl
    · simp [lput_length, hcs]
    · rw [List.length_set]
      show (lput cur.toList (q.toNat * kd.sz) vs).take _ = _
      apply List.ext_getElem?
      intro p
      rw [List.getElem?_take, lput_get vs cur.toList _ _ (by omega), lput_get vs cs _ _ (by rw [hown.1]; omega)]
      split
      · split
        · rfl
        · rw [← htk, List.getElem?_take, if_pos (by assumption)]
      · rw [if_neg (by omega), List.getElem?_eq_none (by rw [hown.1]; omega)]
  refine run_op_skip (w' := putBlock w g' T (lput cur.toList (q.toNat * kd.sz) vs)) ho rfl rfl ?_ (hk _ S')
  have hrun := run_storeVar_box (P := P) (v := u) (off := q.toNat * kd.sz) ht hh' (by rw [hc]; simpa using hvl) (by omega) (by rw [hc]; simpa using kd.one hr)
  rw [hc] at hrun
  simp only [execOp, ha, hx, Instr.storeAt, Instr.sureAddr, Sem.run_bind]
  show (((Sem.pure (⟨g', q.toNat * kd.sz, none⟩ : Addr)).run P w).andThen fun a w' => ((storeVar T a u).run P w')).andThen _ = _
  simp only [Sem.run, Result.andThen_ok, hrun]
  rfl

/-- A new row joins. -/
theorem St.row_add {w' : World} {T : TypeId} {v : Value} {cs : List Value} (S : St base w0 h w L) (hc : Chg w w' (fun _ => False)) (hown : w'.ownsRow w.heap.size T kd.sz v xs.length cs) (hel : Elems kd h xs cs) : St base w0 h w' (L ++ [row T kd v xs]) := by
  have S' := S.keep hc
  obtain ⟨Fs, hF, hD⟩ := S.sep
  have hsame : ∀ b, b < w.heap.size → w'.heap[b]? = w.heap[b]? := fun b hb => hc.block b hb (fun x => x)
  have hfresh : ∀ b, w.heap.size ≤ b → h b = none := fun b hb => by
    cases e : h b with
    | none => rfl
    | some o => have := hp_lt (S.ghost b o e); omega
  have hlt := hown.lt
  refine ⟨S'.below, S'.bsz, S'.ghost, S'.dom, fun q => if q < L.length then Fs q else fun b => v.ownBlock = some b, fun q A hq => ?_, fun p q hp hq hpq b h1 h2 => ?_⟩
  · by_cases hql : q < L.length
    · rw [List.getElem?_append_left hql] at hq
      obtain ⟨hA, hU⟩ := hF q A hq
      simp only [if_pos hql]
      exact ⟨A.far (fun b hb => hsame b (hU b hb).2.1) hA, fun b hb => ⟨(hU b hb).1, Nat.lt_of_lt_of_le (hU b hb).2.1 hc.size, (hU b hb).2.2⟩⟩
    · rw [List.getElem?_append_right (by omega)] at hq
      have h0 : q - L.length = 0 := by
        have := (List.getElem?_eq_some_iff.1 hq).1
        simp at this; omega
      rw [h0] at hq
      simp only [List.getElem?_cons_zero, Option.some.injEq] at hq
      subst hq
      simp only [if_neg hql]
      refine ⟨⟨cs, ⟨hown.1, ?_⟩, hel, fun g hg => hg⟩, fun b hb => ?_⟩
      · rcases hown.2 with h4 | ⟨g, cap, cur, hv, hb, hr⟩
        · exact .inl h4
        · exact .inr ⟨g, cap, cur, hv, Nat.zero_le _, hr⟩
      · have := hlt b hb
        exact ⟨Nat.le_trans S.bsz this.1, this.2, hfresh b this.1⟩
  · rw [List.length_append] at hp hq
    simp only [List.length_cons, List.length_nil] at hp hq
    by_cases hpl : p < L.length <;> by_cases hql : q < L.length
    · simp only [if_pos hpl] at h1; simp only [if_pos hql] at h2
      exact hD p q hpl hql hpq b h1 h2
    · simp only [if_pos hpl] at h1; simp only [if_neg hql] at h2
      have a1 := ((hF p _ (List.getElem?_eq_getElem hpl)).2 b h1).2.1
      have a2 := (hlt b h2).1; omega
    · simp only [if_neg hpl] at h1; simp only [if_pos hql] at h2
      have a1 := ((hF q _ (List.getElem?_eq_getElem hql)).2 b h2).2.1
      have a2 := (hlt b h1).1; omega
    · omega
end
end Gx
