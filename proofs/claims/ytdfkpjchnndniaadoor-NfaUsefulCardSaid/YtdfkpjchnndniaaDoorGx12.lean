/- My own library for walks through the translated code, part Gx12: laws of the model alone, no word of the program. -/
import Derived.Test.YtdfkpjchnndniaaDoorGx11
namespace Gx
open Go Go.RowKit
set_option linter.unusedSimpArgs false
set_option linter.unusedSectionVars false
set_option linter.unusedVariables false
section
variable {P : Program} {w : World} {base : Nat} {w0 : World} {h : Ghost} {L : List Asrt}
variable {α : Type} [Inhabited α] {kd : Kd α} {xs : List α}

/-- An element of a slice of the call's own is written. -/
theorem e_store_own {j : Nat} {v u : Value} {q : Int} {T : TypeId} {m b' : Nat} {gg : Bool} {z : Option Value} {ad : Addr} (e : α) {vs : List Value} (S : St base w0 h w L) (ht : tyInfo P T = some (m, b', gg, z)) (hm : kd.sz = m)
    (hj : L[j]? = some (row T kd v xs)) (hc : u.cells = vs.toArray) (hr : kd.rep h e vs) (hat : AtOwn v m q ad) (h0 : 0 ≤ q) (hq : q < (xs.length : Int)) :
    ∃ w', (storeVar T ad u).run P w = .ok () w' ∧ Chg w w' (fun b => v.ownBlock = some b) ∧ St base w0 h w' (L.set j (row T kd v (xs.set q.toNat e))) := by
  obtain ⟨Fs, hF, _⟩ := S.sep
  obtain ⟨g, hg, rfl⟩ := hat
  subst hm
  have hql : q.toNat < xs.length := by omega
  obtain ⟨⟨cs, hown, hel, hfo⟩, _⟩ := hF j _ hj
  rcases hown.2 with ⟨_, he⟩ | ⟨g', cap, cur, hv, hb, hh, hl, hcap, hcs, htk⟩
  · omega
  have hgg : g' = g := by rw [hv] at hg; simpa [Value.ownBlock] using hg
  subst hgg
  have hlt : g' < w.heap.size := (Array.getElem?_eq_some_iff.1 hh).1
  have hvl := kd.len hr
  have hfit : q.toNat * kd.sz + kd.sz ≤ xs.length * kd.sz := by rw [← Nat.succ_mul]; exact Nat.mul_le_mul_right _ hql
  have hcap' : xs.length * kd.sz ≤ cap * kd.sz := Nat.mul_le_mul_right _ hl
  have hh' : w.heap[g']? = some (.cells cur.toList.toArray T (0, 0)) := by rw [hh]
  have hcl : cur.toList.length = cap * kd.sz := by rw [Array.length_toList]; exact hcs
  have S' : St base w0 h (putBlock w g' T (lput cur.toList (q.toNat * kd.sz) vs)) (L.set j (row T kd v (xs.set q.toNat e))) := by
    refine S.upd hj fun F hF' hFU => ?_
    obtain ⟨cs2, hown2, hel2, hfo2⟩ := hF'
    have hFg : F g' := hfo2 g' hg
    refine ⟨(putBlock_chg w g' T _).mono (fun b hb => by subst hb; exact hFg), F, ⟨lput cs (q.toNat * kd.sz) vs, ⟨?_, .inr ⟨g', cap, (lput cur.toList (q.toNat * kd.sz) vs).toArray, ?_, hb, putBlock_at hlt _ _, ?_, hcap, ?_, ?_⟩⟩, drop_take_set hel hql hr, hfo2⟩, fun b hb => .inl hb⟩
    · rw [lput_length, hown.1, List.length_set]
    · rw [hv, List.length_set]
    · rw [List.length_set]; exact hl
    · simp [lput_length, hcs]
    · rw [List.length_set]
      show (lput cur.toList (q.toNat * kd.sz) vs).take _ = _
      apply List.ext_getElem?
      intro p
      rw [List.getElem?_take, lput_get vs cur.toList _ _ (by omega), lput_get vs cs _ _ (by rw [hown.1]; omega)]
      split
      · split
        · rfl
        · rw [← htk, List.getElem?_take, if_pos (by assumption)]
      · rw [if_neg (by omega), List.getElem?_eq_none (by rw [hown.1]; omega)]
  have hrun := run_storeVar_box (P := P) (v := u) (off := q.toNat * kd.sz) ht hh' (by rw [hc]; simpa using hvl) (by omega) (by rw [hc]; simpa using kd.one hr)
  rw [hc] at hrun
  exact ⟨_, hrun, (putBlock_chg w g' T _).mono (fun b hb => by subst hb; exact hg), S'⟩

/-- What is appended. -/
def News (kd : Kd α) (h : Ghost) (w : World) (A : Option Addr) (ys : List α) : Prop := (A = none ∧ ys = []) ∨ ∃ ad news, A = some ad ∧ Elems kd h ys news ∧ ∀ j u, news[j]? = some u → w.cell? (ad.add j) = some u
theorem news_flat {A : Option Addr} {ys : List α} (hl : Leads kd (hp w) A ys) (hel : ∀ (e : α) seg, kd.rep (hp w) e seg → kd.rep h e seg) : News kd h w A ys := by
  rcases A with _ | ad
  · left
    refine ⟨rfl, ?_⟩
    rcases ys with _ | ⟨a, b⟩
    · rfl
    · obtain ⟨_, e, _⟩ := hl (by simp); cases e
  · obtain ⟨news, h1, h2⟩ := hl.cells
    exact .inr ⟨ad, news, rfl, ⟨h1.1, fun i x hi => hel _ _ (h1.2 i x hi)⟩, h2⟩
theorem news_own {j : Nat} {T : TypeId} {v : Value} {A : Option Addr} {c : Nat} {ys : List α} (S : St base w0 h w L) (hj : L[j]? = some (row T kd v ys)) (hv : v = .slice A ys.length c) : News kd h w A ys := by
  obtain ⟨cs, hown, hel⟩ := S.row_at hj
  subst hv
  rcases hown.2 with ⟨hv, h0⟩ | ⟨g, cap, cur, hv, _⟩
  · injection hv with e _ _
    exact .inl ⟨e, List.eq_nil_of_length_eq_zero h0⟩
  · injection hv with e _ _
    subst e
    exact .inr ⟨_, cs, rfl, hel, fun j u hj => hown.cells (g := g) rfl j u hj⟩
/-- append: the elements behind are known in the world, and stand for themselves in the ghost. -/
theorem e_append {j : Nat} {T E : TypeId} {m b' : Nat} {gg : Bool} {zv : Value} {v : Value} {A : Option Addr} {c : Nat} {ys : List α} {len : Nat} (ty : TypeId) (S : St base w0 h w L) (hT : P.underlying T = some (.slice E))
    (ht : tyInfo P E = some (m, b', gg, some zv)) (hm : kd.sz = m) (hzs : zv.cells.size = m) (hj : L[j]? = some (row E kd v xs)) (hlen : ys.length = len)
    (hnews : News kd h w A ys) (hbytes : (xs.length + ys.length) * b' ≤ 140737488355328) (hbig : xs.length + ys.length ≤ 9223372036854775807) :
    ∃ v' w', (Builtin.append_ #[T, T] ty #[v, .slice A len c]).run P w = .ok v' w' ∧ Chg w w' (fun b => v.ownBlock = some b) ∧ St base w0 h w' (L.set j (row E kd v' (xs ++ ys))) := by
  obtain ⟨cs, hown, helx⟩ := S.row_at hj
  obtain ⟨ii, dd, hi, _, hs, hby, _, hzz⟩ := tyInfo_parts ht
  subst hlen; subst hm
  have finish : ∀ v' w' news, (Builtin.append_ #[T, T] ty #[v, .slice A ys.length c]).run P w = .ok v' w' → Elems kd h ys news → w'.ownsRow w.heap.size E kd.sz v' (xs.length + ys.length) (cs ++ news) ∨ w'.ownsRow 0 E kd.sz v' (xs.length + ys.length) (cs ++ news) → w.grownBy w' v.ownBlock → (v'.ownBlock = v.ownBlock ∨ v'.ownBlock = some w.heap.size) → ∃ v' w', (Builtin.append_ #[T, T] ty #[v, .slice A ys.length c]).run P w = .ok v' w' ∧ Chg w w' (fun b => v.ownBlock = some b) ∧ St base w0 h w' (L.set j (row E kd v' (xs ++ ys))) := by
    intro v' w' news hrun helN hown' hg hwhere
    have hown2 : w'.ownsRow 0 E kd.sz v' (xs.length + ys.length) (cs ++ news) := by
      rcases hown' with h1 | h1
      · refine ⟨h1.1, ?_⟩
        rcases h1.2 with h4 | ⟨g, cap, cur, hv, hb, hr⟩
        · exact .inl h4
        · exact .inr ⟨g, cap, cur, hv, Nat.zero_le _, hr⟩
      · exact h1
    have helN' : Elems kd h ys news := helN
    have hlt := hown2.lt
    have S' : St base w0 h w' (L.set j (row E kd v' (xs ++ ys))) := by
      refine S.upd hj fun F hF hFU => ?_
      obtain ⟨cs2, hown3, hel3, hfo⟩ := hF
      have hsame : cs2 = cs := by
        rcases hown3.2 with ⟨hv, h0⟩ | ⟨g, cap, cur, hv, _, hh, _, _, _, htk⟩
        · have e1 : cs2 = [] := List.eq_nil_of_length_eq_zero (by rw [hown3.1, h0]; simp)
          have e2 : cs = [] := List.eq_nil_of_length_eq_zero (by rw [hown.1, h0]; simp)
          rw [e1, e2]
        · rcases hown.2 with ⟨hv', h0'⟩ | ⟨g', cap', cur', hv', _, hh', _, _, _, htk'⟩
          · rw [hv] at hv'; cases hv'
          · rw [hv] at hv'
            injection hv' with e1 _ _
            injection e1 with e1
            injection e1 with e1 _ _
            subst e1
            rw [hh] at hh'
            injection hh' with e2
            injection e2 with e2 _ _
            subst e2
            rw [← htk, ← htk']
      subst hsame
      refine ⟨(grown_chg hg).mono fun b hb => hfo b hb, fun b => v'.ownBlock = some b, ⟨cs2 ++ news, by rw [List.length_append]; exact hown2, hel3.app helN', fun g hg' => hg'⟩, fun b hb => ?_⟩
      rcases hwhere with e | e
      · left; exact hfo b (by rw [← e]; exact hb)
      · right
        have hb2 := (hlt b hb).2
        rw [hb] at e; injection e with e
        omega
    exact ⟨v', w', hrun, grown_chg hg, S'⟩
  rcases hnews with ⟨rfl, rfl⟩ | ⟨ad, news, rfl, helN, hcell⟩
  · exact finish v w [] (run_append_nothing hT hi hown c) (Elems.nil _ _) (.inr (by simpa using hown)) (World.grownBy.refl w _) (.inl rfl)
  · obtain ⟨v', w', hrun, h2, h3, _, h5⟩ := run_append_own_at (P := P) w 0 T ty E ii zv kd.sz b' hT hi hzz hs hby hzs kd.pos v xs.length cs hown ad ys.length c news helN.1 hcell helN.one (by simp only [maxLen]; omega) hbytes (Nat.zero_le _)
    exact finish v' w' news hrun helN (.inr h2) h3 h5

theorem run_slice_hi {T E : TypeId} {A : Option Addr} {len cap : Nat} {q : Int} {kk : IntKind} {m b' : Nat} {gg : Bool} {z : Option Value} (hT : P.underlying T = some (.slice E)) (ht : tyInfo P E = some (m, b', gg, z))
    (h0 : 0 ≤ q) (h1 : q ≤ cap) : (Instr.sliceAt T (.slice A len cap) none (some (.int kk q)) none).run P w = .ok (.slice (if cap = 0 then A else A.map (·.add 0)) q.toNat cap) w := by
  obtain ⟨ii, d2, hi, hd2, hsz, _, _, _⟩ := tyInfo_parts ht
  simp [Instr.sliceAt, run_underlying hT, Instr.slice, Instr.sliceBounds, Instr.sliceBound, asIntOf, h0, h1, rn_sizeOf hi, go_sem]
/-- The head of a slice of the call's own. -/
theorem e_slice_hi {j : Nat} {v : Value} {T E : TypeId} {q : Int} {kk : IntKind} {m b' : Nat} {gg : Bool} {z : Option Value} (S : St base w0 h w L) (hT : P.underlying T = some (.slice E)) (ht : tyInfo P E = some (m, b', gg, z))
    (hj : L[j]? = some (row E kd v xs)) (h0 : 0 ≤ q) (h1 : q ≤ (xs.length : Int)) :
    ∃ v', (Instr.sliceAt T v none (some (.int kk q)) none).run P w = .ok v' w ∧ St base w0 h w (L.set j (row E kd v' (xs.take q.toNat))) := by
  obtain ⟨cs, hown, hel⟩ := S.row_at hj
  have hql : (xs.take q.toNat).length = q.toNat := by rw [List.length_take]; omega
  have hcs : (cs.take (q.toNat * kd.sz)).length = q.toNat * kd.sz := by rw [List.length_take, hown.1]; exact Nat.min_eq_left (Nat.mul_le_mul_right _ (by omega))
  have upd_ : ∀ v', (∀ cs, w.ownsRow 0 E kd.sz v xs.length cs → w.ownsRow 0 E kd.sz v' q.toNat (cs.take (q.toNat * kd.sz))) → (∀ g, v'.ownBlock = some g → v.ownBlock = some g) → St base w0 h w (L.set j (row E kd v' (xs.take q.toNat))) := by
    intro v' ho' hb'
    refine S.upd hj fun F hF _ => ?_
    obtain ⟨cs2, h2, h3, h4⟩ := hF
    exact ⟨Chg.refl w _, F, ⟨cs2.take (q.toNat * kd.sz), by rw [hql]; exact ho' cs2 h2, h3.take_ _, fun g hg => h4 g (hb' g hg)⟩, fun b hb => .inl hb⟩
  rcases hown.2 with ⟨hv, hz0⟩ | ⟨g, cap, cur, hv, hb, hh, hl, hc, hsz, htk⟩
  · have hq0 : q.toNat = 0 := by omega
    refine ⟨.slice none q.toNat 0, ?_, upd_ _ (fun cs h2 => ?_) (fun g hg => by simp [Value.ownBlock] at hg)⟩
    · have := run_slice_hi (w := w) (kk := kk) (A := none) (len := 0) (cap := 0) hT ht h0 (by omega)
      rw [hv]; simpa using this
    · rw [hq0]; simp only [Nat.zero_mul, List.take_zero]; exact World.ownsRow_nil _ _ _ _
  · refine ⟨.slice (some ⟨g, 0, none⟩) q.toNat cap, ?_, upd_ _ (fun cs h2 => ?_) (fun g' hg => by rw [hv]; exact hg)⟩
    · have := run_slice_hi (w := w) (kk := kk) (A := some ⟨g, 0, none⟩) (len := xs.length) (cap := cap) hT ht h0 (by omega)
      rw [hv]; simpa [Addr.add] using this
    · refine ⟨by rw [List.length_take, h2.1]; exact Nat.min_eq_left (Nat.mul_le_mul_right _ (by omega)), .inr ⟨g, cap, cur, rfl, hb, hh, by omega, hc, hsz, ?_⟩⟩
      rcases h2.2 with ⟨hv', _⟩ | ⟨g', cap', cur', hv', _, hh', _, _, _, htk'⟩
      · rw [hv] at hv'; cases hv'
      · rw [hv] at hv'
        injection hv' with e1 _ _
        injection e1 with e1
        injection e1 with e1 _ _
        subst e1
        rw [hh] at hh'
        injection hh' with e2
        injection e2 with e2 _ _
        subst e2
        rw [← htk', List.take_take, Nat.min_eq_left (Nat.mul_le_mul_right _ (by omega))]


theorem flat_rep {enc : α → List Value} {ok : α → Prop} {m : Nat} {h0 : 0 < m} {hl : ∀ x, ok x → (enc x).length = m} {h1 : ∀ x, ∀ u ∈ enc x, u.oneCell' = true} {h h' : Ghost} {x : α} {cs : List Value} (hr : (Kd.flat enc ok m h0 hl h1).rep h x cs) : (Kd.flat enc ok m h0 hl h1).rep h' x cs := hr
end
end Gx
