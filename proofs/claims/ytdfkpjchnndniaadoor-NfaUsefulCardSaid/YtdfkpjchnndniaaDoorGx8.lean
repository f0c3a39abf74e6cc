/- My own library for walks through the translated code, part Gx8: laws of the model alone, no word of the program. -/
import Derived.Test.YtdfkpjchnndniaaDoorGx7
namespace Gx
open Go Go.RowKit
set_option linter.unusedSimpArgs false
set_option linter.unusedSectionVars false
set_option linter.unusedVariables false

section
variable {P : Program} {f n : Nat} {k : List Item} {ρ : Env} {w : World} {R : Ending → World → Prop} {ops : Array Oper} {rest : List Nat} {i : Nat}
variable {d : Tmp} {ty : TypeId} {pos : String} {af : Array Edge} {x y : Operand} {op : Op}
variable {base : Nat} {w0 : World} {h : Ghost} {L : List Asrt}
variable {α : Type} [Inhabited α] {kd : Kd α} {xs : List α}

/-- The nil slice is the call's own. -/
theorem St.row_nil (S : St base w0 h w L) (T : TypeId) (kd : Kd α) : St base w0 h w (L ++ [row T kd (.slice none 0 0) []]) :=
  S.row_add (kd := kd) (xs := []) (cs := []) (Chg.refl w _) (World.ownsRow_nil w _ T kd.sz) (Elems.nil kd h)

theorem made_get {z : List Value} {sz m : Nat} (hz : z.length = sz) (h0 : 0 < sz) (i : Nat) (hi : i < m) : ((madeCells z.toArray (m * sz)).toList.drop (i * sz)).take sz = z := by
  have hfit : i * sz + sz ≤ m * sz := by rw [← Nat.succ_mul]; exact Nat.mul_le_mul_right _ hi
  have hlen : (madeCells z.toArray (m * sz)).toList.length = m * sz := by rw [Array.length_toList, size_madeCells]
  apply List.ext_getElem?
  intro q
  rw [List.getElem?_take]
  split
  · rename_i hq
    rw [List.getElem?_drop, List.getElem?_eq_getElem (by omega), List.getElem?_eq_getElem (by omega)]
    congr 1
    simp only [madeCells, Array.getElem_toList, Array.getElem_map, Array.getElem_range, List.size_toArray, hz]
    have : (i * sz + q) % sz = q := by rw [Nat.add_comm, Nat.add_mul_mod_self_right, Nat.mod_eq_of_lt hq]
    rw [this]
    simp [hz, hq]
  · rw [List.getElem?_eq_none (by omega)]
theorem made_elems {z : α} {zc : List Value} {m : Nat} (hr : kd.rep h z zc) : Elems kd h (List.replicate m z) (madeCells zc.toArray (m * kd.sz)).toList := by
  refine ⟨by rw [Array.length_toList, size_madeCells, List.length_replicate], fun i x hi => ?_⟩
  rw [List.getElem?_replicate] at hi
  split at hi
  · injection hi with hi
    subst hi
    rw [made_get (kd.len hr) kd.pos i (by assumption)]
    exact hr
  · cases hi

/-- A slice is made. -/
theorem go_make {T E : TypeId} {kk kk' : IntKind} {q : Int} {m b' : Nat} {gg : Bool} {zv : Value} {z : α} {zc : List Value} (S : St base w0 h w L) (ho : ops[i]? = some ⟨some d, .makeSlice T x y, ty, pos, af, none⟩) (hd : Nat.blt d n = true) (hT : P.underlying T = some (.slice E))
    (ht : tyInfo P E = some (m, b', gg, some zv)) (hm : kd.sz = m) (hz : zv.cells = zc.toArray) (hr : kd.rep h z zc) (hx : ev ρ x = .int kk q) (hy : ev ρ y = .int kk' q) (h0 : 0 ≤ q) (hb : (b' : Int) * q ≤ 281474976710656) (h63 : q ≤ 9223372036854775807)
    (hk : ∀ v w', St base w0 h w' (L ++ [row E kd v (List.replicate q.toNat z)]) → Run P f n (.inRegion ops rest :: k) (upd ρ d v) w' R) : Run P f n (.inRegion ops (i :: rest) :: k) ρ w R := by
  obtain ⟨ii, dd, hi, _, hs, hby, _, hzz⟩ := tyInfo_parts ht
  have hrun := run_make (P := P) w T E ii zv hT hi hzz kk kk' q q h0 (Int.le_refl _) (by rw [hby]; exact hb) h63
  rw [hz, hs, ← hm] at hrun
  refine run_op (v := .slice (some ⟨w.heap.size, 0, none⟩) q.toNat q.toNat) (w' := w.alloc (.cells (madeCells zc.toArray (q.toNat * kd.sz)) E)) ho rfl hd ?_ (hk _ _ ?_)
  · simp only [execOp, hx, hy, Sem.run_bind, hrun, Result.andThen_ok]
    rfl
  · have hown := World.ownsRow_lit (e := E) (base := w.heap.size) (size := kd.sz) w (madeCells zc.toArray (q.toNat * kd.sz)) q.toNat (Nat.le_refl _) (by simp only [maxLen]; omega) (size_madeCells _ _)
    refine S.row_add (cs := (madeCells zc.toArray (q.toNat * kd.sz)).toList) (Chg.alloc _ _) ?_ (made_elems hr)
    simpa using hown

theorem run_build_slice {T E : TypeId} {m b' len : Nat} {gg : Bool} {zv : Value} {pv : List (Nat × Value)} {cs : List Value} {zc : Array Value} (hT : P.underlying T = some (.slice E))
    (ht : tyInfo P E = some (m, b', gg, some zv)) (hsm : len * m ≤ 1000) (hz : (if len * m = 0 then #[] else zv.cells) = zc) (hf : Instr.fill (fun i => some (i * m, m)) ((Array.range (len * m)).map (zc[· % zc.size]!)) pv = some cs.toArray) :
    (Instr.buildSlice T len pv.toArray).run P w = .ok (.slice (some ⟨w.heap.size, 0, none⟩) len len) (w.alloc (.cells cs.toArray E)) := by
  obtain ⟨ii, dd, hi, _, hs, hby, _, hzz⟩ := tyInfo_parts ht
  have hns : ¬ (len * m > 2 ^ 24) := by omega
  have e : Instr.buildSlice T len pv.toArray = (do
    let .slice elem ← underlying T | stuck "buildSlice: slice type expected"
    let size ← Go.sizeOf elem
    if len * size > 2 ^ 24 then unsupported (.resourceLimit "buildSlice: more than 2^24 cells")
    let zero ← if len * size = 0 then pure #[] else do pure (← zeroValue elem).cells
    let some cells := Instr.fill (fun i => some (i * size, size)) ((Array.range (len * size)).map (zero[· % zero.size]!)) pv
      | stuck "buildSlice: a part of the wrong size"
    pure (.slice (some (← newRow elem cells)) len len)) := rfl
  rw [e]
  simp only [Sem.run_bind, run_underlying hT, Result.andThen_ok, rn_sizeOf hi, hs, if_neg hns]
  by_cases h0 : len * m = 0
  · rw [if_pos h0] at hz ⊢
    subst hz
    simp only [Sem.run_bind, Sem.run_pure, Result.andThen_ok, hf]
    rfl
  · rw [if_neg h0] at hz ⊢
    subst hz
    simp only [Sem.run_bind, Sem.run_pure, Result.andThen_ok, zero_cells ht, hf]
    rfl
/-- A slice is written out. -/
theorem go_build_slice {T E : TypeId} {m b' len : Nat} {gg : Bool} {zv : Value} {parts : Array (Nat × Operand)} {pv : List (Nat × Value)} {cs : List Value} {zc : Array Value} (S : St base w0 h w L) (ho : ops[i]? = some ⟨some d, .buildSlice T len parts, ty, pos, af, none⟩) (hd : Nat.blt d n = true) (hT : P.underlying T = some (.slice E))
    (ht : tyInfo P E = some (m, b', gg, some zv)) (hm : kd.sz = m) (hp : (parts.map fun (i, x) => (i, ev ρ x)) = pv.toArray) (hlen : xs.length = len) (hsmall : Nat.ble (len * m) 1000 = true)
    (hz : (if len * m = 0 then #[] else zv.cells) = zc) (hf : Instr.fill (fun i => some (i * m, m)) ((Array.range (len * m)).map (zc[· % zc.size]!)) pv = some cs.toArray) (hel : Elems kd h xs cs)
    (hk : ∀ v w', St base w0 h w' (L ++ [row E kd v xs]) → Run P f n (.inRegion ops rest :: k) (upd ρ d v) w' R) : Run P f n (.inRegion ops (i :: rest) :: k) ρ w R := by
  have hsm : len * m ≤ 1000 := by simpa [Nat.ble_eq] using hsmall
  refine run_op (v := .slice (some ⟨w.heap.size, 0, none⟩) len len) (w' := w.alloc (.cells cs.toArray E)) ho rfl hd ?_ (hk _ _ ?_)
  · simp only [execOp, hp, Sem.run_bind, run_build_slice hT ht hsm hz hf, Result.andThen_ok]
    rfl
  · have hcs : cs.length = len * kd.sz := by rw [hel.1, hlen]
    have hown := World.ownsRow_lit (e := E) (base := w.heap.size) (size := kd.sz) w cs.toArray len (Nat.le_refl _) (by have := kd.pos; simp only [maxLen]; rw [← hm] at hsm; have : len ≤ len * kd.sz := Nat.le_mul_of_pos_right _ kd.pos; omega) (by simpa using hcs)
    subst hlen
    refine S.row_add (cs := cs) (Chg.alloc _ _) ?_ hel
    simpa using hown

theorem grown_chg {w w' : World} {v : Value} (hg : w.grownBy w' v.ownBlock) : Chg w w' (fun b => v.ownBlock = some b) := Chg.grown hg

theorem run_append_nothing {B : Nat} {t ty E : TypeId} {ii : TypeInfo} {sz n : Nat} {v : Value} {cs : List Value} (ht : P.underlying t = some (.slice E)) (hi : P.info? E = some ii) (hown : w.ownsRow B E sz v n cs) (c : Nat) : (Builtin.append_ #[t, t] ty #[v, .slice none 0 c]).run P w = .ok v w := by
  rcases hown.2 with ⟨rfl, rfl⟩ | ⟨g, cap, cur, rfl, _, _, hnc, _⟩
  · simp [Builtin.append_, run_underlying ht, Go.sizeOf, typeInfo, hi, Builtin.lenOf, Builtin.firstCells, go_sem]
  · simp [Builtin.append_, run_underlying ht, Go.sizeOf, typeInfo, hi, Builtin.lenOf, Builtin.firstCells, hnc, storeCells, go_sem]
theorem Leads.cells {A : Addr} {ys : List α} (hl : Leads kd (hp w) (some A) ys) : ∃ news, Elems kd (hp w) ys news ∧ ∀ j u, news[j]? = some u → w.cell? (A.add j) = some u := by
  rcases ys with _ | ⟨y0, ys'⟩
  · exact ⟨[], Elems.nil _ _, fun j u hj => by simp at hj⟩
  generalize hys : y0 :: ys' = ys at hl
  obtain ⟨ad, hA, hx⟩ := hl (by rw [← hys]; simp)
  injection hA with hA
  subst hA
  let news := (List.range (ys.length * kd.sz)).map fun j => (w.cell? (A.add j)).getD undef
  have hlen : news.length = ys.length * kd.sz := by simp [news]
  have hget : ∀ i e, ys[i]? = some e → ∃ seg, kd.rep (hp w) e seg ∧ ∀ q, q < kd.sz → w.cell? (A.add (i * kd.sz + q)) = seg[q]? := fun i e he => by
    obtain ⟨seg, h1, h2⟩ := hx i e he
    refine ⟨seg, h1, fun q hq => ?_⟩
    have hql : q < seg.length := by rw [kd.len h1]; exact hq
    rw [List.getElem?_eq_getElem hql]
    exact gcell_world (Le.refl _) (h2 q _ (List.getElem?_eq_getElem hql))
  have hcell : ∀ j u, news[j]? = some u → w.cell? (A.add j) = some u := fun j u hj => by
    have hjl : j < ys.length * kd.sz := by rw [← hlen]; exact (List.getElem?_eq_some_iff.1 hj).1
    have hi : j / kd.sz < ys.length := by rw [Nat.div_lt_iff_lt_mul kd.pos]; exact hjl
    obtain ⟨seg, h1, h2⟩ := hget (j / kd.sz) _ (List.getElem?_eq_getElem hi)
    have h3 := h2 (j % kd.sz) (Nat.mod_lt _ kd.pos)
    rw [Nat.mul_comm, Nat.div_add_mod] at h3
    have hql : j % kd.sz < seg.length := by rw [kd.len h1]; exact Nat.mod_lt _ kd.pos
    rw [List.getElem?_eq_getElem hql] at h3
    simp only [news, List.getElem?_map, List.getElem?_range hjl, Option.map_some, h3, Option.getD_some, Option.some.injEq] at hj
    rw [h3, hj]
  refine ⟨news, ⟨hlen, fun i e he => ?_⟩, hcell⟩
  obtain ⟨seg, h1, h2⟩ := hget i e he
  have hi : i < ys.length := (List.getElem?_eq_some_iff.1 he).1
  have hfit : i * kd.sz + kd.sz ≤ ys.length * kd.sz := by rw [← Nat.succ_mul]; exact Nat.mul_le_mul_right _ hi
  have : (news.drop (i * kd.sz)).take kd.sz = seg := by
    apply List.ext_getElem?
    intro q
    rw [List.getElem?_take]
    split
    · rename_i hq
      rw [List.getElem?_drop, List.getElem?_eq_getElem (by omega)]
      have := hcell _ _ (List.getElem?_eq_getElem (show i * kd.sz + q < news.length by omega))
      rw [← h2 q hq, this]
    · rw [List.getElem?_eq_none (by rw [kd.len h1]; omega)]
  rw [this]; exact h1

/-- append: the elements behind are known in the world, and stand for themselves in the ghost. -/
theorem go_append {j : Nat} {T E : TypeId} {m b' : Nat} {gg : Bool} {zv : Value} {v : Value} {A : Option Addr} {c : Nat} {ys : List α} {len : Nat} (S : St base w0 h w L) (ho : ops[i]? = some ⟨some d, .call ⟨.builtin .append, #[x, y], #[T, T]⟩, ty, pos, af, none⟩) (hd : Nat.blt d n = true) (hT : P.underlying T = some (.slice E))
    (ht : tyInfo P E = some (m, b', gg, some zv)) (hm : kd.sz = m) (hzs : zv.cells.size = m) (hj : L[j]? = some (row E kd v xs)) (hx : ev ρ x = v) (hy : ev ρ y = .slice A len c) (hlen : ys.length = len)
    (hl : Leads kd (hp w) A ys) (hel : ∀ (q : Nat) (e : α), ys[q]? = some e → ∀ seg, kd.rep (hp w) e seg → kd.rep h e seg) (hbytes : (xs.length + ys.length) * b' ≤ 140737488355328) (hbig : xs.length + ys.length ≤ 9223372036854775807)
    (hk : ∀ v' w', St base w0 h w' (L.set j (row E kd v' (xs ++ ys))) → Run P f n (.inRegion ops rest :: k) (upd ρ d v') w' R) : Run P f n (.inRegion ops (i :: rest) :: k) ρ w R := by
  obtain ⟨cs, hown, helx⟩ := S.row_at hj
  obtain ⟨ii, dd, hi, _, hs, hby, _, hzz⟩ := tyInfo_parts ht
  subst hlen; subst hm
  have finish : ∀ v' w' news, (Builtin.append_ #[T, T] ty #[v, .slice A ys.length c]).run P w = .ok v' w' → Elems kd (hp w) ys news → w'.ownsRow w.heap.size E kd.sz v' (xs.length + ys.length) (cs ++ news) ∨ w'.ownsRow 0 E kd.sz v' (xs.length + ys.length) (cs ++ news) → w.grownBy w' v.ownBlock → (v'.ownBlock = v.ownBlock ∨ v'.ownBlock = some w.heap.size) → Run P f n (.inRegion ops (i :: rest) :: k) ρ w R := by
    intro v' w' news hrun helN hown' hg hwhere
    have hown2 : w'.ownsRow 0 E kd.sz v' (xs.length + ys.length) (cs ++ news) := by
      rcases hown' with h1 | h1
      · refine ⟨h1.1, ?_⟩
        rcases h1.2 with h4 | ⟨g, cap, cur, hv, hb, hr⟩
        · exact .inl h4
        · exact .inr ⟨g, cap, cur, hv, Nat.zero_le _, hr⟩
      · exact h1
    have helN' : Elems kd h ys news := ⟨helN.1, fun q e he => hel q e he _ (helN.2 q e he)⟩
    have hlt := hown2.lt
    have S' : St base w0 h w' (L.set j (row E kd v' (xs ++ ys))) := by
      refine S.upd hj fun F hF hFU => ?_
      obtain ⟨cs2, hown3, hel3, hfo⟩ := hF
      have hsame : cs2 = cs := by
        rcases hown3.2 with ⟨hv, h0⟩ | ⟨g, cap, cur, hv, _, hh, _, _, _, htk⟩
        · have e1 : cs2 = [] := List.eq_nil_of_length_eq_zero (by rw [hown3.1, h0]; simp)
          have e2 : cs = [] := List.eq_nil_of_length_eq_zero (by rw [hown.1, h0]; simp)
          rw [e1, e2]
        · rcases hown.2 with ⟨hv', h0'⟩ | ⟨g', cap', cur', hv', _, hh', _, _, _, htk'⟩
          · rw [hv] at hv'; cases hv'
          · rw [hv] at hv'
            injection hv' with e1 _ _
            injection e1 with e1
            injection e1 with e1 _ _
            subst e1
            rw [hh] at hh'
            injection hh' with e2
            injection e2 with e2 _ _
            subst e2
            rw [← htk, ← htk']
      subst hsame
      refine ⟨(grown_chg hg).mono fun b hb => hfo b hb, fun b => v'.ownBlock = some b, ⟨cs2 ++ news, by rw [List.length_append]; exact hown2, hel3.app helN', fun g hg' => hg'⟩, fun b hb => ?_⟩
      rcases hwhere with e | e
      · left; exact hfo b (by rw [← e]; exact hb)
      · right
        have hb2 := (hlt b hb).2
        rw [hb] at e; injection e with e
        omega
    refine run_op (v := v') (w' := w') ho rfl hd ?_ (hk v' w' S')
    have h1 : ((#[x, y] : Array Operand).map (ev ρ)) = #[v, .slice A ys.length c] := by simp [hx, hy]
    simp only [execOp, resolve, invoke, builtin, Sem.run_bind, Sem.run_pure, Result.andThen_ok, h1, hrun]
  rcases A with _ | ad
  · have hys : ys = [] := by
      rcases ys with _ | ⟨a, b⟩
      · rfl
      · obtain ⟨_, e, _⟩ := hl (by simp); cases e
    subst hys
    refine finish v w [] (run_append_nothing hT hi hown c) (Elems.nil _ _) (.inr (by simpa using hown)) (World.grownBy.refl w _) (.inl rfl)
  · obtain ⟨news, helN, hcell⟩ := hl.cells
    obtain ⟨v', w', hrun, h2, h3, _, h5⟩ := run_append_own_at (P := P) w 0 T ty E ii zv kd.sz b' hT hi hzz hs hby hzs kd.pos v xs.length cs hown ad ys.length c news helN.1 hcell helN.one (by simp only [maxLen]; omega) hbytes (Nat.zero_le _)
    exact finish v' w' news hrun helN (.inr h2) h3 h5
end
end Gx
