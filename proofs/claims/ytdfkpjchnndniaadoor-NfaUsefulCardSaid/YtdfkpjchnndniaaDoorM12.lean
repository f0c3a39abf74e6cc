/- My own library for walks through the translated code, part M12: laws of the model alone, no word of the program. -/
import Derived.Test.YtdfkpjchnndniaaDoorM11
import Derived.Test.YtdfkpjchnndniaaDoorN8
import Derived.Laws.IdiomStrings
namespace Gx
open Go Go.RowKit
set_option linter.unusedSimpArgs false
set_option linter.unusedSectionVars false
set_option linter.unusedVariables false

/-! ### Bytes of one's own that came from a string -/
def HoldsB (w : World) (T : TypeId) (v : Value) (xs : List Int) (g : Nat) : Prop :=
  ∃ cap cur fr, v = .slice (some ⟨g, 0, none⟩) xs.length cap ∧ w.heap[g]? = some (.cells cur T fr) ∧ cur.size ≤ fr.1 ∧ xs.length ≤ cur.size ∧ xs.length ≤ cap ∧ cap ≤ maxLen ∧ (∀ i, i < xs.length → cur[i]? = some (.int .u8 (xs.getD i 0))) ∧ ∀ x ∈ xs, inK .u8 x
def rowB (T : TypeId) (v : Value) (xs : List Int) : Asrt where
  holds := fun _ w F => ∃ g, HoldsB w T v xs g ∧ F g
  mono := fun _ h => h
  far := fun {h w w' F} hf ⟨g, ⟨cap, cur, fr, h1, h2, h3⟩, h4⟩ => ⟨g, ⟨cap, cur, fr, h1, by rw [hf g h4]; exact h2, h3⟩, h4⟩
/-- What is new, and one's own, joins the rest. -/
theorem St.fresh {base : Nat} {w0 w w' : World} {h : Ghost} {L : List Asrt} {A0 : Asrt} (S : St base w0 h w L) (hc : Chg w w' (fun _ => False)) (hA0 : A0.holds h w' fun b => w.heap.size ≤ b ∧ b < w'.heap.size) : St base w0 h w' (L ++ [A0]) := by
  have S' := S.keep hc
  obtain ⟨Fs, hF, hD⟩ := S.sep
  have hsame : ∀ b, b < w.heap.size → w'.heap[b]? = w.heap[b]? := fun b hb => hc.block b hb (fun x => x)
  have hfresh : ∀ b, w.heap.size ≤ b → h b = none := fun b hb => by
    cases e : h b with
    | none => rfl
    | some o => have := hp_lt (S.ghost b o e); omega
  refine ⟨S'.below, S'.bsz, S'.ghost, S'.dom, fun q => if q < L.length then Fs q else fun b => w.heap.size ≤ b ∧ b < w'.heap.size, fun q A hq => ?_, fun p q hp hq hpq b h1 h2 => ?_⟩
  · by_cases hql : q < L.length
    · rw [List.getElem?_append_left hql] at hq
      obtain ⟨hA, hU⟩ := hF q A hq
      simp only [if_pos hql]
      exact ⟨A.far (fun b hb => hsame b (hU b hb).2.1) hA, fun b hb => ⟨(hU b hb).1, Nat.lt_of_lt_of_le (hU b hb).2.1 hc.size, (hU b hb).2.2⟩⟩
    · rw [List.getElem?_append_right (by omega)] at hq
      have h0 : q - L.length = 0 := by
        have := (List.getElem?_eq_some_iff.1 hq).1
        simp at this; omega
      rw [h0] at hq
      simp only [List.getElem?_cons_zero, Option.some.injEq] at hq
      subst hq
      simp only [if_neg hql]
      exact ⟨hA0, fun b hb => ⟨Nat.le_trans S.bsz hb.1, hb.2, hfresh b hb.1⟩⟩
  · rw [List.length_append] at hp hq
    simp only [List.length_cons, List.length_nil] at hp hq
    by_cases hpl : p < L.length <;> by_cases hql : q < L.length
    · simp only [if_pos hpl] at h1; simp only [if_pos hql] at h2
      exact hD p q hpl hql hpq b h1 h2
    · simp only [if_pos hpl] at h1; simp only [if_neg hql] at h2
      have a1 := ((hF p _ (List.getElem?_eq_getElem hpl)).2 b h1).2.1
      have a2 := h2.1; omega
    · simp only [if_neg hpl] at h1; simp only [if_pos hql] at h2
      have a1 := ((hF q _ (List.getElem?_eq_getElem hql)).2 b h2).2.1
      have a2 := h1.1; omega
    · omega
section
variable {P : Program} {ρ : Env} {w w' : World} {d : Option Tmp} {ty : TypeId} {pos : String} {af : Array Edge} {gd : Option (Nat × Bool)} {x y : Operand} {base : Nat} {w0 : World} {h : Ghost} {L : List Asrt}
theorem e_str_bytes {src dst e : TypeId} (s : ByteArray) (S : St base w0 h w L) (hs : P.underlying src = some .string) (hd : P.underlying dst = some (.slice e)) (he : P.underlying e = some (.int .u8)) (hm : s.size ≤ maxLen) :
    ∃ v w', (convert src dst (.string s)).run P w = .ok v w' ∧ Chg w w' (fun _ => False) ∧ St base w0 h w' (L ++ [rowB e v (bytesL s)]) := by
  have hrun := run_bytes_of_string (P := P) w src dst e s hs hd he
  generalize hcap : grownCap w s.size 0 e = cap at hrun
  have hge : s.size ≤ cap := by rw [← hcap]; exact grownCap_ge _ _ _ _
  have hle : cap ≤ maxLen := by rw [← hcap]; exact grownCap_le_maxLen _ _ _ _ hm
  have hc : Chg w (w.drew.alloc (.cells (bytesRow s cap) e ((bytesRow s cap).size, (bytesRow s cap).size + 1))) (fun _ => False) := by
    have h1 := Chg.drew w
    have h2 := Chg.alloc w.drew (.cells (bytesRow s cap) e ((bytesRow s cap).size, (bytesRow s cap).size + 1))
    exact ⟨h2.os.trans h1.os, h2.tape.trans h1.tape, h2.output.trans h1.output, Nat.le_trans h1.size h2.size, fun b hb hn => (h2.block b hb hn).trans (h1.block b hb hn)⟩
  refine ⟨_, _, hrun, hc, S.fresh hc ?_⟩
  have hsz : (bytesRow s cap).size = cap := by
    unfold bytesRow
    rw [Array.size_append, Array.size_map, Array.size_replicate]
    have : s.size = s.data.size := rfl
    omega
  refine ⟨w.heap.size, ⟨cap, bytesRow s cap, ((bytesRow s cap).size, (bytesRow s cap).size + 1), by rw [bytesL_len], ?_, Nat.le_refl _, by rw [bytesL_len, hsz]; exact hge, by rw [bytesL_len]; exact hge, hle, fun i hi => ?_, fun z hz => ?_⟩, ?_⟩
  · show (w.heap.push _)[w.heap.size]? = _
    simp
  · rw [bytesL_len] at hi
    have hi' : i < s.data.size := hi
    rw [bytesRow_at s cap i hi']
    have : (bytesL s).getD i 0 = ((s.data[i].toNat : Nat) : Int) := by
      unfold bytesL
      rw [List.getD_eq_getElem?_getD, List.getElem?_map, Array.getElem?_toList, Array.getElem?_eq_getElem hi']; rfl
    rw [this]
  · unfold bytesL at hz
    obtain ⟨b, _, rfl⟩ := List.mem_map.1 hz
    have := b.toNat_lt
    exact in_u8 (by omega) (by omega)
  · constructor
    · exact Nat.le_refl _
    · show w.heap.size < (w.heap.push _).size
      simp
theorem x_str_bytes {src dst : TypeId} {s : ByteArray} {v : Value} (hx : ev ρ x = .string s) (hr : (convert src dst (.string s)).run P w = .ok v w') : (execOp (ev ρ) ⟨d, .convert src dst x, ty, pos, af, gd⟩).run P w = .ok (.value v) w' := by
  simp only [execOp, hx, Sem.run_bind, hr, Result.andThen_ok]; rfl
theorem St.rowB_at {j : Nat} {T : TypeId} {v : Value} {xs : List Int} (S : St base w0 h w L) (hj : L[j]? = some (rowB T v xs)) : ∃ g, HoldsB w T v xs g := by
  obtain ⟨Fs, hF, _⟩ := S.sep
  obtain ⟨g, hg, _⟩ := (hF j _ hj).1
  exact ⟨g, hg⟩
theorem rowB_val {j : Nat} {T : TypeId} {v : Value} {xs : List Int} (S : St base w0 h w L) (hj : L[j]? = some (rowB T v xs)) : ∃ A c, v = .slice A xs.length c ∧ xs.length ≤ c ∧ c ≤ maxLen := by
  obtain ⟨g, cap, cur, fr, h1, _, _, _, h4, h5, _⟩ := S.rowB_at hj
  exact ⟨_, cap, h1, h4, h5⟩
theorem rowB_le {j : Nat} {T : TypeId} {v : Value} {xs : List Int} (S : St base w0 h w L) (hj : L[j]? = some (rowB T v xs)) : xs.length ≤ maxLen := by
  obtain ⟨A, c, _, h1, h2⟩ := rowB_val S hj
  omega
theorem rowB_leads {j : Nat} {T : TypeId} {A : Option Addr} {c : Nat} {v : Value} {xs : List Int} (S : St base w0 h w L) (hj : L[j]? = some (rowB T v xs)) (hv : v = .slice A xs.length c) : Leads (Kd.int .u8) (hp w) A xs := fun hne => by
  obtain ⟨g, cap, cur, fr, h1, h2, h3, h4, h5, h6, h7, h8⟩ := S.rowB_at hj
  rw [h1] at hv
  injection hv with e1 _ _
  subst e1
  refine ⟨_, rfl, fun i z hi => ⟨[.int .u8 z], ⟨rfl, h8 z (List.mem_of_getElem? hi)⟩, fun q u hq => ?_⟩⟩
  have hq0 : q = 0 := by
    rcases q with _ | q
    · rfl
    · simp at hq
  subst hq0
  simp at hq
  subst hq
  have hil : i < xs.length := (List.getElem?_eq_some_iff.1 hi).1
  have h9 := h7 i hil
  rw [List.getD_eq_getElem?_getD, hi, Option.getD_some] at h9
  have hadd : (⟨g, 0, none⟩ : Addr).add (i * (Kd.int .u8).sz + 0) = ⟨g, i, none⟩ := by
    have e1 : (Kd.int .u8).sz = 1 := rfl
    rw [e1, Nat.mul_one, Nat.add_zero]
    unfold Addr.add; split <;> simp_all
  rw [hadd, gcell_of_block (w := w) (by rfl)]
  simp [World.cell?, h2, h9]
theorem e_indexB {j : Nat} {v : Value} {q : Int} {E : TypeId} {xs : List Int} (S : St base w0 h w L) (hj : L[j]? = some (rowB E v xs)) (h0 : 0 ≤ q) (h1 : q < (xs.length : Int)) :
    ∃ ad, (∃ g cap, v = .slice (some ⟨g, 0, none⟩) xs.length cap ∧ ad = ⟨g, q.toNat * 1, none⟩) ∧ AtOwn v 1 q ad := by
  obtain ⟨g, cap, cur, fr, e, _⟩ := S.rowB_at hj
  exact ⟨⟨g, q.toNat * 1, none⟩, ⟨g, cap, e, rfl⟩, g, by rw [e]; rfl, rfl⟩
theorem e_loadB {j : Nat} {v : Value} {q : Int} {T : TypeId} {ad : Addr} {xs : List Int} (S : St base w0 h w L) (hj : L[j]? = some (rowB T v xs)) (ha : AtOwn v 1 q ad) (h0 : 0 ≤ q) (hq : q < (xs.length : Int)) : inK .u8 (at_ xs q) ∧ CF ad [.int .u8 (at_ xs q)] w := by
  obtain ⟨g, cap, cur, fr, h1, h2, h3, h4, h5, h6, h7, h8⟩ := S.rowB_at hj
  obtain ⟨g', hg, rfl⟩ := ha
  have hgg : g' = g := by rw [h1] at hg; simpa [Value.ownBlock] using hg.symm
  subst hgg
  refine ⟨h8 _ (at_mem h0 hq), fun p u hp => ?_⟩
  have hp0 : p = 0 := by
    rcases p with _ | p
    · rfl
    · simp at hp
  subst hp0
  simp at hp
  subst hp
  have h9 := h7 q.toNat (by omega)
  have e1 : (⟨g', q.toNat * 1, none⟩ : Addr).add 0 = ⟨g', q.toNat, none⟩ := by rw [Nat.mul_one]; unfold Addr.add; simp
  rw [e1]
  simp only [World.cell?, h2]
  rw [show (at_ xs q) = xs.getD q.toNat 0 from rfl]
  simpa using h9
theorem e_storeB {j : Nat} {v : Value} {q z : Int} {T : TypeId} {b' : Nat} {gg : Bool} {zz : Option Value} {ad : Addr} {xs : List Int} (S : St base w0 h w L) (ht : tyInfo P T = some (1, b', gg, zz))
    (hj : L[j]? = some (rowB T v xs)) (hz : inK .u8 z) (hat : AtOwn v 1 q ad) (h0 : 0 ≤ q) (hq : q < (xs.length : Int)) :
    ∃ w', (storeVar T ad (.int .u8 z)).run P w = .ok () w' ∧ Chg w w' (fun b => v.ownBlock = some b) ∧ St base w0 h w' (L.set j (rowB T v (xs.set q.toNat z))) := by
  obtain ⟨i, dd, hi, hd, hs, _, hg, _⟩ := tyInfo_parts ht
  obtain ⟨g', hg', rfl⟩ := hat
  obtain ⟨g, cap, cur, fr, h1, h2, h3, h4, h5, h6, h7, h8⟩ := S.rowB_at hj
  have hgg : g' = g := by rw [h1] at hg'; simpa [Value.ownBlock] using hg'.symm
  subst hgg
  have hlt : q.toNat < cur.size := by omega
  have hgl : g' < w.heap.size := (Array.getElem?_eq_some_iff.1 h2).1
  have hcell : w.cell? ⟨g', q.toNat, none⟩ = some (cur[q.toNat]) := by simp [World.cell?, h2, Array.getElem?_eq_getElem hlt]
  have hfro : w.frozen? ⟨g', q.toNat, none⟩ = false := by simp [World.frozen?, h2]; omega
  have hadd : (⟨g', q.toNat * 1, none⟩ : Addr) = ⟨g', q.toNat, none⟩ := by rw [Nat.mul_one]
  have hblk : (w.setCell ⟨g', q.toNat, none⟩ (.int .u8 z)).heap[g']? = some (.cells (cur.setIfInBounds q.toNat (.int .u8 z)) T fr) := by
    show (w.heap.modify g' _)[g']? = _
    rw [Array.getElem?_modify, if_pos rfl, h2]; rfl
  have hoth : ∀ b, b ≠ g' → (w.setCell ⟨g', q.toNat, none⟩ (.int .u8 z)).heap[b]? = w.heap[b]? := fun b hb => by
    show (w.heap.modify g' _)[b]? = _
    rw [Array.getElem?_modify, if_neg (fun e => hb e.symm)]
  have hsize : (w.setCell ⟨g', q.toNat, none⟩ (.int .u8 z)).heap.size = w.heap.size := by
    show (w.heap.modify g' _).size = _
    simp
  have hchg : Chg w (w.setCell ⟨g', q.toNat, none⟩ (.int .u8 z)) (fun b => b = g') := ⟨rfl, rfl, rfl, by rw [hsize]; exact Nat.le_refl _, fun b _ hn => hoth b hn⟩
  refine ⟨w.setCell ⟨g', q.toNat, none⟩ (.int .u8 z), ?_, hchg.mono fun b hb => by subst hb; exact hg', S.upd hj fun F hF hU => ?_⟩
  · rw [hadd]
    simp only [storeVar, Sem.run_bind, rn_sizeOf hi, Result.andThen_ok]
    rw [if_neg (by rw [hs]; simp [Value.cells])]
    have e0 : (⟨g', q.toNat, none⟩ : Addr).add 0 = ⟨g', q.toNat, none⟩ := by unfold Addr.add; simp
    show ((store ((⟨g', q.toNat, none⟩ : Addr).add 0) (.int .u8 z)) >>= fun _ => storeCells ⟨g', q.toNat, none⟩ [] 1).run P w = _
    rw [e0, Sem.run_bind, run_store P w _ _ _ rfl, hcell]
    simp only [hfro]
    rfl
  · obtain ⟨g2, ⟨cap2, cur2, fr2, k1, k2, k3, k4, k5, k6, k7, k8⟩, hFg⟩ := hF
    have e2 : g2 = g' := by rw [h1] at k1; injection k1 with k1 _ _; injection k1 with k1; injection k1 with k1 _ _; exact k1.symm
    subst e2
    rw [h2] at k2
    injection k2 with k2
    injection k2 with k2 _ k9
    subst k2 k9
    refine ⟨hchg.mono fun b hb => by subst hb; exact hFg, F, ⟨g2, ⟨cap2, _, fr, by rw [List.length_set]; exact k1, hblk, by simpa using k3, by simpa using k4, by simpa using k5, k6, fun i hi => ?_, fun u hu => ?_⟩, hFg⟩, fun b hb => .inl hb⟩
    · rw [List.length_set] at hi
      rw [Array.getElem?_setIfInBounds, List.getD_eq_getElem?_getD, List.getElem?_set]
      by_cases e : q.toNat = i
      · rw [if_pos e, if_pos e, if_pos (by omega), if_pos (by omega)]; rfl
      · rw [if_neg e, if_neg e, k7 i hi, List.getD_eq_getElem?_getD]
    · rcases List.mem_or_eq_of_mem_set hu with e | e
      · exact k8 u e
      · rw [e]; exact hz
end
end Gx
