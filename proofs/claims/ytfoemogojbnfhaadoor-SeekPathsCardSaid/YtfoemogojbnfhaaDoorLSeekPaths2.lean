/- My own library for walks through the translated code, and the walks of the functions that the law SeekPaths comes to, part 3; no conditions but those that each contract tells. -/
import Derived.Test.YtfoemogojbnfhaaDoorLSeekPaths1
namespace Gx
open Go Go.RowKit
set_option linter.unusedSimpArgs false
set_option linter.unusedSectionVars false
set_option linter.unusedVariables false
structure Dfa where
  part : PartM
  next : List (List Int)
  final : List Bool
deriving DecidableEq
instance : Inhabited Dfa := ⟨⟨⟨[], 0⟩, [], []⟩⟩
section
variable {S : Type} [DecidableEq S]
def rowK (next : S → Int → S) (s : S) (k : Int) : List S := (List.range k.toNat).map fun k => next s ((k : Nat) : Int)
theorem rowK_step (next : S → Int → S) (s : S) {k : Int} (h : 0 ≤ k) : rowK next s (k + 1) = rowK next s k ++ [next s k] := by
  unfold rowK
  rw [show (k + 1).toNat = k.toNat + 1 by omega, List.range_succ, List.map_append]
  simp only [List.map_cons, List.map_nil, Int.toNat_of_nonneg h]
theorem rowK_end (next : S → Int → S) (s : S) (n : Int) : rowK next s n = rowsOf next n s := rfl
def nextTo (next : S → Int → S) (n : Int) (all : List S) (i : Nat) : List (List Int) := (all.take i).map fun s => (rowsOf next n s).map fun t => placeL t all
def Closed (next : S → Int → S) (n : Int) (all : List S) (i : Nat) : Prop := ∀ s ∈ all.take i, ∀ t ∈ rowsOf next n s, t ∈ all
structure MadeI (next : S → Int → S) (n : Int) (first : S) (fin : S → Bool) (all : List S) (mp : List (S × Int)) (nx : List (List Int)) (fl : List Bool) (i : Int) : Prop where
  lo : 0 ≤ i
  hi : i ≤ (all.length : Int)
  all_ : all = bfs next n first i.toNat
  mp_ : mp = numbered all
  nx_ : nx = nextTo next n all i.toNat
  fl_ : fl = (all.take i.toNat).map fin
  cl : Closed next n all i.toNat
structure MadeK (next : S → Int → S) (s : S) (all : List S) (all2 : List S) (mp2 : List (S × Int)) (l : List Int) (k : Int) : Prop where
  lo : 0 ≤ k
  all_ : all2 = (rowK next s k).foldl addL all
  mp_ : mp2 = numbered all2
  l_ : l = (rowK next s k).map fun t => placeL t all2
  inn : ∀ t ∈ rowK next s k, t ∈ all2
variable {next : S → Int → S} {n : Int} {first : S} {fin : S → Bool} {all all2 : List S} {mp mp2 : List (S × Int)} {nx : List (List Int)} {fl : List Bool} {l : List Int} {i k : Int} {s : S}
theorem made_0 : MadeI next n first fin [first] [(first, 0)] [] [] 0 where
  lo := by omega
  hi := by simp
  all_ := rfl
  mp_ := rfl
  nx_ := rfl
  fl_ := rfl
  cl := fun s hs => by simp at hs
theorem made_k0 (W : MadeI next n first fin all mp nx fl i) : MadeK next s all all mp [] 0 where
  lo := by omega
  all_ := rfl
  mp_ := W.mp_
  l_ := rfl
  inn := fun t ht => by simp [rowK] at ht
theorem made_old (W : MadeK next s all all2 mp2 l k) (h : (valAt (next s k) mp2).isSome = true) : MadeK next s all all2 mp2 (l ++ [(valAt (next s k) mp2).getD 0]) (k + 1) := by
  have hm : next s k ∈ all2 := by
    by_cases hc : next s k ∈ all2
    · exact hc
    · rw [W.mp_, val_new hc] at h; cases h
  have ha : addL all2 (next s k) = all2 := by unfold addL; rw [if_pos hm]
  refine ⟨by have := W.lo; omega, ?_, W.mp_, ?_, ?_⟩
  · rw [rowK_step _ _ W.lo, List.foldl_append, ← W.all_]; exact ha.symm
  · rw [rowK_step _ _ W.lo, List.map_append, ← W.l_, W.mp_, val_old hm]; rfl
  · rw [rowK_step _ _ W.lo]
    intro t ht
    rcases List.mem_append.1 ht with ht | ht
    · exact W.inn t ht
    · rw [List.mem_singleton.1 ht]; exact hm
theorem made_new (W : MadeK next s all all2 mp2 l k) (h : (valAt (next s k) mp2).isSome = false) : MadeK next s all (all2 ++ [next s k]) (putAt (next s k) (all2.length : Int) mp2) (l ++ [(all2.length : Int)]) (k + 1) := by
  have hm : next s k ∉ all2 := fun hc => by rw [W.mp_, val_old hc] at h; cases h
  have ha : addL all2 (next s k) = all2 ++ [next s k] := by unfold addL; rw [if_neg hm]
  refine ⟨by have := W.lo; omega, ?_, by rw [W.mp_]; exact put_new hm, ?_, ?_⟩
  · rw [rowK_step _ _ W.lo, List.foldl_append, ← W.all_]; exact ha.symm
  · rw [rowK_step _ _ W.lo, List.map_append, W.l_]
    congr 1
    · exact List.map_congr_left fun t ht => (place_app _ (W.inn t ht)).symm
    · simp only [List.map_cons, List.map_nil, place_new hm]
  · rw [rowK_step _ _ W.lo]
    intro t ht
    rcases List.mem_append.1 ht with ht | ht
    · exact List.mem_append_left _ (W.inn t ht)
    · exact List.mem_append_right _ ht
theorem made_next (W : MadeI next n first fin all mp nx fl i) (h1 : i < (all.length : Int)) (hs : all[i.toNat]? = some s) (K : MadeK next s all all2 mp2 l n) : MadeI next n first fin all2 mp2 (nx ++ [l]) (fl ++ [fin s]) (i + 1) := by
  have h0 := W.lo
  have hall : all2 = bfs next n first (i.toNat + 1) := by
    rw [K.all_, rowK_end, W.all_]
    exact (bfs_step (by rw [← W.all_]; exact hs)).symm
  obtain ⟨q, hq⟩ : ∃ q, all2 = all ++ q := by rw [K.all_]; exact fold_pre _ _
  have htk : all2.take (i.toNat + 1) = all.take i.toNat ++ [s] := by
    rw [hq, List.take_append_of_le_length (by omega), List.take_add_one, hs]; rfl
  have ei : (i + 1).toNat = i.toNat + 1 := by omega
  refine ⟨by omega, by rw [hq, List.length_append]; omega, by rw [ei]; exact hall, K.mp_, ?_, ?_, ?_⟩
  · unfold nextTo
    rw [ei, htk, List.map_append, W.nx_]
    congr 1
    · unfold nextTo
      refine List.map_congr_left fun t ht => List.map_congr_left fun u hu => ?_
      rw [hq]; exact (place_app _ (W.cl t ht u hu)).symm
    · rw [K.l_]; rfl
  · rw [ei, htk, List.map_append, W.fl_]; rfl
  · rw [ei]
    intro t ht u hu
    rw [htk] at ht
    rcases List.mem_append.1 ht with ht | ht
    · rw [hq]; exact List.mem_append_left _ (W.cl t ht u hu)
    · rw [List.mem_singleton.1 ht] at hu
      exact K.inn u hu
theorem made_len (W : MadeI next n first fin all mp nx fl i) : (nx.length : Int) = i ∧ (fl.length : Int) = i := by
  have h0 := W.lo
  have h1 := W.hi
  rw [W.nx_, W.fl_]
  unfold nextTo
  simp only [List.length_map, List.length_take]
  omega
theorem made_val (W : MadeK next s all all2 mp2 l k) (t : S) : 0 ≤ (valAt t mp2).getD 0 ∧ (valAt t mp2).getD 0 ≤ (all2.length : Int) := by
  rw [W.mp_]
  by_cases h : t ∈ all2
  · rw [val_old h]
    have := place_mem h
    simp only [Option.getD_some]; omega
  · rw [val_new h]
    simp only [Option.getD_none]; omega
theorem madeK_len (W : MadeK next s all all2 mp2 l k) : (l.length : Int) = k := by
  have h0 := W.lo
  rw [W.l_]
  unfold rowK
  simp only [List.length_map, List.length_range]
  omega
noncomputable def madeM (p : PartM) (first : S) (next : S → Int → S) (fin : S → Bool) : Dfa := ⟨p, nextTo next p.n (allM next p.n first) (allM next p.n first).length, (allM next p.n first).map fin⟩
theorem madeM_part (p : PartM) (first : S) (next : S → Int → S) (fin : S → Bool) : (madeM p first next fin).part = p := rfl
theorem madeM_next (p : PartM) (first : S) (next : S → Int → S) (fin : S → Bool) : (madeM p first next fin).next = nextTo next p.n (allM next p.n first) (allM next p.n first).length := rfl
theorem madeM_final (p : PartM) (first : S) (next : S → Int → S) (fin : S → Bool) : (madeM p first next fin).final = (allM next p.n first).map fin := rfl
theorem made_end (W : MadeI next n first fin all mp nx fl i) (h : (all.length : Int) ≤ i) : all = allM next n first ∧ nx = nextTo next n (allM next n first) (allM next n first).length ∧ fl = (allM next n first).map fin := by
  have h0 := W.lo
  have h1 := W.hi
  have ei : i.toNat = all.length := by omega
  have ha : all = allM next n first := by
    rw [allM_eq (i := i.toNat) (by rw [← W.all_]; omega)]; exact W.all_
  refine ⟨ha, ?_, ?_⟩
  · rw [W.nx_, ei, ha]
  · rw [W.fl_, ei, List.take_length, ha]
theorem nodup_lt : ∀ (N : Nat) (l : List Nat), l.Nodup → (∀ x ∈ l, x < N) → l.length ≤ N
  | 0, [], _, _ => by simp
  | 0, x :: l, _, h => by have := h x (by simp); omega
  | N + 1, l, hn, h => by
    by_cases hm : N ∈ l
    · have := nodup_lt N (l.erase N) (hn.erase N) fun x hx => by
        have h1 := h x (List.mem_of_mem_erase hx)
        have h2 : x ≠ N := fun e => by rw [e] at hx; exact (List.Nodup.not_mem_erase hn) hx
        omega
      rw [List.length_erase_of_mem hm] at this
      omega
    · have := nodup_lt N l hn fun x hx => by
        have h1 := h x hx
        have h2 : x ≠ N := fun e => hm (by rw [← e]; exact hx)
        omega
      omega
theorem map_nodup {α β : Type} {f : α → β} {P : α → Prop} (hf : ∀ a b, P a → P b → f a = f b → a = b) : ∀ {l : List α}, l.Nodup → (∀ x ∈ l, P x) → (l.map f).Nodup
  | [], _, _ => by simp
  | a :: l, hn, hp => by
    rw [List.map_cons, List.nodup_cons]
    rw [List.nodup_cons] at hn
    refine ⟨fun hc => ?_, map_nodup hf hn.2 fun x hx => hp x (List.mem_cons_of_mem _ hx)⟩
    obtain ⟨b, hb, e⟩ := List.mem_map.1 hc
    exact hn.1 (by rw [← hf b a (hp b (List.mem_cons_of_mem _ hb)) (hp a (by simp)) e]; exact hb)
theorem bfs_bound {P : S → Prop} {f : S → Nat} {N : Nat} (h0 : P first) (h1 : ∀ s k, P s → 0 ≤ k → k < n → P (next s k)) (hf : ∀ a b, P a → P b → f a = f b → a = b) (hN : ∀ a, P a → f a < N) (i : Nat) : (bfs next n first i).length ≤ N := by
  have hp := bfs_all (P := P) h0 h1 i
  have := nodup_lt N ((bfs next n first i).map f) (map_nodup hf (bfs_nodup next n first i) hp) fun x hx => by
    obtain ⟨a, ha, rfl⟩ := List.mem_map.1 hx
    exact hN a (hp a ha)
  rwa [List.length_map] at this
theorem fold_bound {P : S → Prop} {f : S → Nat} {N : Nat} (h0 : P first) (h1 : ∀ s k, P s → 0 ≤ k → k < n → P (next s k)) (hf : ∀ a b, P a → P b → f a = f b → a = b) (hN : ∀ a, P a → f a < N) (W : MadeI next n first fin all mp nx fl i) (hs : s ∈ all) (K : MadeK next s all all2 mp2 l k) (hk : k ≤ n) : all2.length ≤ N := by
  have hp : ∀ x ∈ all, P x := by rw [W.all_]; exact bfs_all (P := P) h0 h1 _
  have hn : all2.Nodup := by rw [K.all_]; exact fold_nodup _ (by rw [W.all_]; exact bfs_nodup next n first _)
  have hp2 : ∀ x ∈ all2, P x := fun x hx => by
    rw [K.all_] at hx
    rcases fold_from _ _ x hx with hx | hx
    · exact hp x hx
    · unfold rowK at hx
      obtain ⟨q, hq, rfl⟩ := List.mem_map.1 hx
      rw [List.mem_range] at hq
      exact h1 s _ (hp s hs) (by omega) (by omega)
  have := nodup_lt N (all2.map f) (map_nodup hf hn hp2) fun x hx => by
    obtain ⟨a, ha, rfl⟩ := List.mem_map.1 hx
    exact hN a (hp2 a ha)
  rwa [List.length_map] at this
end
end Gx
namespace Gx
open Go Go.RowKit
set_option linter.unusedSimpArgs false
set_option linter.unusedSectionVars false
set_option linter.unusedVariables false
def beginB : BSet := BitVec.twoPow 256 255
def putB (s : BSet) (n : Int) : BSet := s ||| BitVec.twoPow 256 n.toNat
theorem begin_words : ofWords [0, 0, 0, 9223372036854775808] = beginB := by decide +kernel
theorem has_put (s : BSet) {n k : Int} (h0 : 0 ≤ n) (k0 : 0 ≤ k) (k1 : k < 256) : has (putB s n) k = (has s k || decide (k = n)) := by
  unfold has putB
  rw [BitVec.getLsbD_or, BitVec.getLsbD_twoPow]
  congr 1
  have h2 : k.toNat < 256 := by omega
  by_cases h : k = n
  · subst h; simp [h2]
  · rw [decide_eq_false h]
    have : ¬ n.toNat = k.toNat := by omega
    simp [this]
theorem put_ofPred (s : BSet) {n : Int} (h0 : 0 ≤ n) (h1 : n ≤ 255) : (ofPred fun i => s.getLsbD i || decide ((i : Int) = n)) = putB s n := by
  refine set_ext fun i hi => ?_
  rw [pred_bit _ hi]
  have := has_put s (n := n) (k := ((i : Nat) : Int)) h0 (by omega) (by omega)
  unfold has at this
  rw [Int.toNat_natCast] at this
  rw [this]
theorem putB_words (s : BSet) {n : Int} (h0 : 0 ≤ n) (h1 : n ≤ 255) : (words s).set (n / 64).toNat (ior (at_ (words s) (n / 64)) (2 ^ (n % 64).toNat)) = words (putB s n) := by
  have := put_words (fun i => s.getLsbD i) h0 h1
  rw [ofPred_self, put_ofPred s h0 h1] at this
  exact this
theorem iand_one {x : Int} (h : 0 ≤ x) : iand x 1 = x % 2 := by
  obtain ⟨n, rfl⟩ := Int.eq_ofNat_of_zero_le h
  unfold iand
  rw [Int.toNat_natCast]
  show ((n &&& 1 : Nat) : Int) = _
  rw [Nat.and_one_is_mod]; omega
theorem has_shift (s : BSet) {n : Int} (h0 : 0 ≤ n) (h1 : n < 256) : decide (iand (at_ (words s) (n / 64) / 2 ^ (n % 64).toNat) 1 = 1) = has s n := by
  have hw : 0 ≤ at_ (words s) (n / 64) := u64_lo (okInts_at (okWords s) (by omega) (by omega))
  rw [iand_one (Int.ediv_nonneg hw (Int.le_of_lt (Int.pow_pos (by omega))))]
  exact bit_half s h0 h1 rfl
theorem has_zero (k : Int) : has (0 : BSet) k = false := by unfold has; simp
theorem has_ext {a b : BSet} (h : ∀ k : Int, 0 ≤ k → k < 256 → has a k = has b k) : a = b := set_ext fun i hi => by
  have := h ((i : Nat) : Int) (by omega) (by omega)
  unfold has at this
  rwa [Int.toNat_natCast] at this
theorem has_begin {k : Int} (h0 : 0 ≤ k) (h1 : k < 256) : has beginB k = decide (k = 255) := by
  unfold has beginB
  rw [BitVec.getLsbD_twoPow]
  by_cases h : k = 255
  · subst h; rfl
  · rw [decide_eq_false h]
    have : ¬ 255 = k.toNat := by omega
    simp [this]
def rowIn (m : Mach) (c : Int) (l : List Int) (o : BSet) : BSet := l.foldl (fun o n => if has (at_ m.spots n).set c then putB o n else o) o
def readTo (m : Mach) (c : Int) (l : List Int) (t : Int) (o : BSet) : BSet := rowIn m c (l.take t.toNat) o
def outTo (m : Mach) (c : Int) (s : BSet) (t : Int) (o : BSet) : BSet := (List.range t.toNat).foldl (fun o i => if has s ((i : Nat) : Int) then rowIn m c (at_ m.follow ((i : Nat) : Int)) o else o) o
def nextC (m : Mach) (c : Int) (s : BSet) : BSet := outTo m c s m.spots.length (if s = beginB then rowIn m c m.first 0 else 0)
def nextB (m : Mach) (bytes : List Int) (s : BSet) (k : Int) : BSet := nextC m (at_ bytes k) s
def lastB (m : Mach) (s : BSet) (t : Int) : Bool := anyTo (fun i => at_ m.last ((i : Nat) : Int) && has s ((i : Nat) : Int)) t
def finalB (m : Mach) (s : BSet) : Bool := if s = beginB then m.empty else lastB m s m.last.length
theorem read_0 (m : Mach) (c : Int) (l : List Int) (o : BSet) : o = readTo m c l 0 o := rfl
theorem read_yes {m : Mach} {c : Int} {l : List Int} {t : Int} {o : BSet} (h0 : 0 ≤ t) (h1 : t < (l.length : Int)) (h : has (at_ m.spots (at_ l t)).set c = true) : putB (readTo m c l t o) (at_ l t) = readTo m c l (t + 1) o := by
  unfold readTo rowIn
  rw [take_next _ h0 h1, List.foldl_append, List.foldl_cons, List.foldl_nil, if_pos h]
theorem read_no {m : Mach} {c : Int} {l : List Int} {t : Int} {o : BSet} (h0 : 0 ≤ t) (h1 : t < (l.length : Int)) (h : has (at_ m.spots (at_ l t)).set c = false) : readTo m c l t o = readTo m c l (t + 1) o := by
  unfold readTo rowIn
  rw [take_next _ h0 h1, List.foldl_append, List.foldl_cons, List.foldl_nil, if_neg (by rw [h]; simp)]
theorem read_end {m : Mach} {c : Int} {l : List Int} {t : Int} {o : BSet} (h : (l.length : Int) ≤ t) : readTo m c l t o = rowIn m c l o := by
  unfold readTo
  rw [List.take_of_length_le (by omega)]
theorem out_0 (m : Mach) (c : Int) (s o : BSet) : o = outTo m c s 0 o := rfl
theorem out_yes {m : Mach} {c : Int} {s o : BSet} {t : Int} (h0 : 0 ≤ t) (h : has s t = true) : rowIn m c (at_ m.follow t) (outTo m c s t o) = outTo m c s (t + 1) o := by
  unfold outTo
  rw [show (t + 1).toNat = t.toNat + 1 by omega, List.range_succ, List.foldl_append, List.foldl_cons, List.foldl_nil, Int.toNat_of_nonneg h0, if_pos h]
theorem out_no {m : Mach} {c : Int} {s o : BSet} {t : Int} (h0 : 0 ≤ t) (h : has s t = false) : outTo m c s t o = outTo m c s (t + 1) o := by
  unfold outTo
  rw [show (t + 1).toNat = t.toNat + 1 by omega, List.range_succ, List.foldl_append, List.foldl_cons, List.foldl_nil, Int.toNat_of_nonneg h0, if_neg (by rw [h]; simp)]
theorem lastB_0 (m : Mach) (s : BSet) : lastB m s 0 = false := rfl
theorem lastB_step {m : Mach} {s : BSet} {t : Int} (h0 : 0 ≤ t) (h : lastB m s t = false) (hb : (at_ m.last t && has s t) = false) : lastB m s (t + 1) = false := by
  unfold lastB at h ⊢
  rw [anyTo_step _ h0, h, Int.toNat_of_nonneg h0, hb]; rfl
theorem finalB_begin {m : Mach} {s : BSet} (h : s = beginB) : finalB m s = m.empty := by unfold finalB; rw [if_pos h]
theorem finalB_yes {m : Mach} {s : BSet} {t : Int} (h : s ≠ beginB) (h0 : 0 ≤ t) (h1 : t < (m.last.length : Int)) (hb : at_ m.last t = true) (hs : has s t = true) : finalB m s = true := by
  unfold finalB
  rw [if_neg h]
  exact (anyTo_iff _ _).2 ⟨t.toNat, by omega, by rw [Int.toNat_of_nonneg h0, hb, hs]; rfl⟩
theorem finalB_no {m : Mach} {s : BSet} {t : Int} (h : s ≠ beginB) (ht : (m.last.length : Int) ≤ t) (h1 : t ≤ m.last.length) (hl : lastB m s t = false) : finalB m s = false := by
  unfold finalB
  rw [if_neg h, show (m.last.length : Int) = t by omega]; exact hl
theorem rowIn_has (m : Mach) (c : Int) {k : Int} (k0 : 0 ≤ k) (k1 : k < 256) : ∀ (l : List Int) (o : BSet), (∀ x ∈ l, 0 ≤ x) → has (rowIn m c l o) k = (has o k || (decide (k ∈ l) && has (at_ m.spots k).set c))
  | [], o, _ => by unfold rowIn; simp
  | x :: l, o, h => by
    have hx := h x (by simp)
    have ih := rowIn_has m c k0 k1 l (if has (at_ m.spots x).set c then putB o x else o) fun y hy => h y (List.mem_cons_of_mem _ hy)
    show has (rowIn m c l (if has (at_ m.spots x).set c then putB o x else o)) k = _
    rw [ih]
    by_cases hs : has (at_ m.spots x).set c = true
    · rw [if_pos hs, has_put o hx k0 k1]
      by_cases e : k = x
      · subst e; simp [hs]
      · simp [e]
    · rw [if_neg hs]
      by_cases e : k = x
      · subst e; simp at hs; simp [hs]
      · simp [e]
theorem outTo_has {m : Mach} (hR : Right m) (c : Int) (s : BSet) {k : Int} (k0 : 0 ≤ k) (k1 : k < 256) (o : BSet) : ∀ t : Nat, t ≤ m.spots.length → has (outTo m c s ((t : Nat) : Int) o) k = (has o k || (anyTo (fun i => has s ((i : Nat) : Int) && decide (k ∈ at_ m.follow ((i : Nat) : Int))) ((t : Nat) : Int) && has (at_ m.spots k).set c))
  | 0, _ => by unfold outTo anyTo; simp
  | t + 1, ht => by
    have ih := outTo_has hR c s k0 k1 o t (by omega)
    have e : (((t + 1 : Nat) : Nat) : Int) = ((t : Nat) : Int) + 1 := by omega
    rw [e, anyTo_step _ (by omega), Int.toNat_natCast]
    cases hs : has s ((t : Nat) : Int) with
    | true =>
      rw [← out_yes (by omega) hs, rowIn_has m c k0 k1 _ _ fun x hx => (hR.rows (by omega) (by omega) x hx).1, ih]
      cases has o k <;> cases anyTo (fun i => has s ((i : Nat) : Int) && decide (k ∈ at_ m.follow ((i : Nat) : Int))) ((t : Nat) : Int) <;> cases decide (k ∈ at_ m.follow ((t : Nat) : Int)) <;> cases has (at_ m.spots k).set c <;> rfl
    | false =>
      rw [← out_no (by omega) hs, ih]
      simp
theorem nextC_has {m : Mach} (hR : Right m) (c : Int) (s : BSet) {k : Int} (k0 : 0 ≤ k) (k1 : k < 256) : has (nextC m c s) k = (((decide (s = beginB) && decide (k ∈ m.first)) || anyTo (fun i => has s ((i : Nat) : Int) && decide (k ∈ at_ m.follow ((i : Nat) : Int))) m.spots.length) && has (at_ m.spots k).set c) := by
  unfold nextC
  rw [outTo_has hR c s k0 k1 _ m.spots.length (Nat.le_refl _)]
  by_cases h : s = beginB
  · rw [if_pos h, rowIn_has m c k0 k1 _ _ fun x hx => (hR.firsts x hx).1, has_zero, decide_eq_true h]
    cases decide (k ∈ m.first) <;> cases has (at_ m.spots k).set c <;> simp
  · rw [if_neg h, has_zero, decide_eq_false h]; simp
def InB (m : Mach) (s : BSet) : Prop := s = beginB ∨ ∀ k : Int, 0 ≤ k → k < 256 → has s k = true → k < (m.spots.length : Int)
theorem nextC_in {m : Mach} (hR : Right m) (c : Int) (s : BSet) : ∀ k : Int, 0 ≤ k → k < 256 → has (nextC m c s) k = true → k < (m.spots.length : Int) := fun k k0 k1 h => by
  rw [nextC_has hR c s k0 k1] at h
  simp only [Bool.and_eq_true, Bool.or_eq_true, decide_eq_true_eq] at h
  rcases h.1 with h | h
  · exact (hR.firsts k h.2).2
  · obtain ⟨d, hd, h2⟩ := (anyTo_iff _ _).1 h
    simp only [Bool.and_eq_true, decide_eq_true_eq] at h2
    exact (hR.rows (by omega) hd k h2.2).2
theorem next_ne {m : Mach} (hR : Right m) (c : Int) (s : BSet) : nextC m c s ≠ beginB := fun e => by
  have := nextC_in hR c s 255 (by omega) (by omega) (by rw [e, has_begin (by omega) (by omega)]; rfl)
  have := hR.small
  omega
def codeB (m : Mach) (s : BSet) : Nat := if s = beginB then 2 ^ m.spots.length else s.toNat
theorem code_lt {m : Mach} {s : BSet} (h : InB m s) : codeB m s < 2 ^ m.spots.length + 1 := by
  unfold codeB
  split
  · omega
  · rcases h with h | h
    · contradiction
    · refine Nat.lt_succ_of_lt (Nat.lt_of_not_le fun hc => ?_)
      obtain ⟨i, hi, hb⟩ := Nat.exists_ge_and_testBit_of_ge_two_pow hc
      have hi2 : i < 256 := Nat.lt_of_not_le fun hge => by
        rw [Nat.testBit_lt_two_pow (Nat.lt_of_lt_of_le s.isLt (Nat.pow_le_pow_right (by omega) hge))] at hb
        cases hb
      have := h ((i : Nat) : Int) (by omega) (by omega) (by unfold has; rw [Int.toNat_natCast]; exact hb)
      omega
theorem code_inj {m : Mach} {a b : BSet} (ha : InB m a) (hb : InB m b) (h : codeB m a = codeB m b) : a = b := by
  have key : ∀ s : BSet, s ≠ beginB → InB m s → s.toNat < 2 ^ m.spots.length := fun s hs h => by
    have := code_lt h
    unfold codeB at this
    rw [if_neg hs] at this
    rcases Nat.lt_or_eq_of_le (Nat.le_of_lt_succ this) with h2 | h2
    · exact h2
    · exfalso
      rcases h with h | h
      · exact hs h
      · have hlt : m.spots.length < 256 := Nat.lt_of_not_le fun hge => by
          have := s.isLt
          have := Nat.pow_le_pow_right (n := 2) (by omega) hge
          omega
        have := h ((m.spots.length : Nat) : Int) (by omega) (by omega) (by
          unfold has
          rw [Int.toNat_natCast]
          show s.toNat.testBit m.spots.length = true
          rw [h2, Nat.testBit_two_pow_self])
        omega
  unfold codeB at h
  by_cases h1 : a = beginB
  · by_cases h2 : b = beginB
    · rw [h1, h2]
    · rw [if_pos h1, if_neg h2] at h
      have := key b h2 hb; omega
  · by_cases h2 : b = beginB
    · rw [if_neg h1, if_pos h2] at h
      have := key a h1 ha; omega
    · rw [if_neg h1, if_neg h2] at h
      exact BitVec.eq_of_toNat_eq h
end Gx
namespace Gx
open Go Go.RowKit
set_option linter.unusedSimpArgs false
set_option linter.unusedSectionVars false
set_option linter.unusedVariables false
theorem next_some (l : List Int) : ∀ x, nextOf l = some x → 0 ≤ x ∧ x ≤ (l.length : Int) ∧ (∀ v ∈ l, v < x) ∧ ∀ k : Int, 0 ≤ k → k < x → k ∈ l := by
  induction l using list_snoc with
  | h0 => intro x h; simp [nextOf] at h; subst h; exact ⟨by omega, by simp, fun v hv => (by cases hv), fun k h0 h1 => by omega⟩
  | h1 l n ih =>
    intro x h
    rw [next_app] at h
    cases hl : nextOf l with
    | none => rw [hl] at h; cases h
    | some y =>
      rw [hl] at h
      simp only [] at h
      obtain ⟨a, b, c, d⟩ := ih y hl
      by_cases h1 : n > y
      · rw [if_pos h1] at h; cases h
      · rw [if_neg h1] at h
        by_cases h2 : n = y
        · rw [if_pos h2] at h
          injection h with h
          refine ⟨by omega, by rw [List.length_append]; simp; omega, fun v hv => ?_, fun k h0 h3 => ?_⟩
          · rcases List.mem_append.1 hv with hv | hv
            · have := c v hv; omega
            · rw [List.mem_singleton.1 hv]; omega
          · by_cases h4 : k = n
            · rw [h4]; simp
            · exact List.mem_append_left _ (d k h0 (by omega))
        · rw [if_neg h2] at h
          injection h with h
          subst h
          refine ⟨by omega, by rw [List.length_append]; omega, fun v hv => ?_, fun k h0 h3 => List.mem_append_left _ (d k h0 h3)⟩
          rcases List.mem_append.1 hv with hv | hv
          · exact c v hv
          · rw [List.mem_singleton.1 hv]; omega
structure RightP (p : PartM) : Prop where
  lo : 0 ≤ p.n
  hi : p.n ≤ 256
  of_lt : ∀ c : Int, 0 ≤ c → c < 256 → at_ p.of c < p.n
  some_ : ∀ k : Int, 0 ≤ k → k < p.n → ∃ c : Int, 0 ≤ c ∧ c < 256 ∧ at_ p.of c = k
theorem rightP_of {p : PartM} (ho : okPart p) (h : rightP p = true) : RightP p := by
  unfold rightP at h
  cases hn : nextOf p.of with
  | none => rw [hn] at h; cases h
  | some x =>
    rw [hn] at h
    have hx : x = p.n := of_decide_eq_true h
    obtain ⟨a, b, c, d⟩ := next_some p.of x hn
    have hl : p.of.length = 256 := ho.1.1
    subst hx
    refine ⟨a, by omega, fun k h0 h1 => c _ (at_mem h0 (by omega)), fun k h0 h1 => ?_⟩
    obtain ⟨j, hj, e⟩ := List.getElem_of_mem (d k h0 h1)
    refine ⟨((j : Nat) : Int), by omega, by omega, ?_⟩
    have := at_some (xs := p.of) (i := ((j : Nat) : Int)) (by omega) (by omega)
    rw [Int.toNat_natCast, List.getElem?_eq_getElem hj] at this
    injection this with this
    rw [← this, e]
theorem setsP_at {p : PartM} {k : Int} (h0 : 0 ≤ k) (h1 : k < p.n) (h2 : p.n ≤ 256) {c : Int} (c0 : 0 ≤ c) (c1 : c < 256) : has (at_ (setsP p) k) c = decide (at_ p.of c = k) := by
  have hl := setsP_len p
  have e : at_ (setsP p) k = ofPred fun c => decide (at_ p.of ((c : Nat) : Int) = k) := by
    have := at_some (xs := setsP p) (i := k) h0 (by omega)
    unfold setsP at this
    rw [List.getElem?_map, List.getElem?_range (by unfold many; omega)] at this
    simp only [Option.map_some, Int.toNat_of_nonneg h0] at this
    injection this with this
    exact this.symm
  rw [e]
  unfold has
  rw [pred_bit _ (by omega), Int.toNat_of_nonneg c0]
theorem setsP_some {p : PartM} (h : RightP p) {k : Int} (h0 : 0 ≤ k) (h1 : k < p.n) : at_ (setsP p) k ≠ 0 := fun e => by
  obtain ⟨c, c0, c1, hc⟩ := h.some_ k h0 h1
  have := setsP_at h0 h1 h.hi c0 c1
  rw [e, has_zero, decide_eq_true hc] at this
  cases this
theorem first_in {s : BSet} (h : s ≠ 0) : has s (first s) = true ∧ 0 ≤ first s ∧ first s < 256 := by
  have h1 : 0 < count s := of_decide_eq_true (by rw [some_full]; exact decide_eq_true h)
  rw [← list_len] at h1
  rw [first_list s h1]
  obtain ⟨a, b, c⟩ := list_get s (Int.le_refl 0) h1
  exact ⟨c, a, b⟩
theorem leastOf_one {s : BSet} (h : s ≠ 0) : leastOf 1 s = [first s] := by
  have h1 : 0 < ((listOf s).length : Int) := by
    rw [list_len]; exact of_decide_eq_true (by rw [some_full]; exact decide_eq_true h)
  unfold leastOf
  rw [first_list s h1]
  cases hl : listOf s with
  | nil => rw [hl] at h1; simp at h1
  | cons a r =>
    have : (min (max 1 0) (((a :: r).length : Nat) : Int)).toNat = 1 := by simp; omega
    rw [this]; rfl
def leastB (p : PartM) : List Int := (leastP p 1).flatten
def leastBTo (p : PartM) (t : Int) : List Int := ((leastP p 1).take t.toNat).flatten
theorem leastB_0 (p : PartM) : ([] : List Int) = leastBTo p 0 := rfl
theorem leastB_step (p : PartM) {t : Int} (h0 : 0 ≤ t) (h1 : t < ((leastP p 1).length : Int)) : leastBTo p t ++ at_ (leastP p 1) t = leastBTo p (t + 1) := by
  unfold leastBTo
  rw [take_next _ h0 h1, List.flatten_append]; simp
theorem leastB_end (p : PartM) {t : Int} (h : ((leastP p 1).length : Int) ≤ t) : leastB p = leastBTo p t := by
  unfold leastB leastBTo
  rw [List.take_of_length_le (by omega)]
theorem leastOf_le (s : BSet) : (leastOf 1 s).length ≤ 1 := by
  unfold leastOf
  rw [List.length_take]; omega
theorem flat_len_le : ∀ l : List (List Int), (∀ x ∈ l, x.length ≤ 1) → l.flatten.length ≤ l.length
  | [], _ => by simp
  | x :: l, h => by
    have := flat_len_le l fun y hy => h y (List.mem_cons_of_mem _ hy)
    have := h x (by simp)
    rw [List.flatten_cons, List.length_append, List.length_cons]; omega
theorem leastBTo_len (p : PartM) (t : Int) : ((leastBTo p t).length : Int) ≤ 256 := by
  unfold leastBTo
  have := flat_len_le ((leastP p 1).take t.toNat) fun x hx => by
    have hx := List.mem_of_mem_take hx
    unfold leastP at hx
    obtain ⟨s, _, rfl⟩ := List.mem_map.1 hx
    exact leastOf_le s
  have hl : ((leastP p 1).length : Int) ≤ 256 := by
    unfold leastP
    rw [List.length_map]
    have := setsP_len p; omega
  rw [List.length_take] at this; omega
theorem leastP_row (p : PartM) {t : Int} (h0 : 0 ≤ t) (h1 : t < ((leastP p 1).length : Int)) : ((at_ (leastP p 1) t).length : Int) ≤ 1 := by
  have := at_mem h0 h1
  unfold leastP at this
  obtain ⟨s, _, e⟩ := List.mem_map.1 this
  have h2 := leastOf_le s
  unfold leastP
  rw [← e]; omega
theorem leastB_map {p : PartM} (h : RightP p) : leastB p = (setsP p).map first := by
  unfold leastB leastP
  have : (setsP p).map (leastOf 1) = (setsP p).map fun s => [first s] := by
    refine List.map_congr_left fun s hs => leastOf_one ?_
    obtain ⟨j, hj, e⟩ := List.getElem_of_mem hs
    have hl := setsP_len p
    have := setsP_some h (k := ((j : Nat) : Int)) (by omega) (by have := h.lo; omega)
    have e2 := at_some (xs := setsP p) (i := ((j : Nat) : Int)) (by omega) (by omega)
    rw [Int.toNat_natCast, List.getElem?_eq_getElem hj] at e2
    injection e2 with e2
    rw [← e2, e] at this; exact this
  rw [this]
  induction setsP p with
  | nil => rfl
  | cons a r ih => rw [List.map_cons, List.flatten_cons, ih]; rfl
theorem leastB_len {p : PartM} (h : RightP p) : ((leastB p).length : Int) = p.n := by
  rw [leastB_map h, List.length_map, setsP_len]
  have := h.lo; have := h.hi; omega
theorem leastB_at {p : PartM} (h : RightP p) {k : Int} (h0 : 0 ≤ k) (h1 : k < p.n) : 0 ≤ at_ (leastB p) k ∧ at_ (leastB p) k < 256 ∧ at_ p.of (at_ (leastB p) k) = k := by
  have hl := setsP_len p
  have hi := h.hi
  have e : at_ (leastB p) k = first (at_ (setsP p) k) := by rw [leastB_map h]; exact at_map _ _ h0 (by omega)
  obtain ⟨a, b, c⟩ := first_in (setsP_some h h0 h1)
  rw [e]
  refine ⟨b, c, ?_⟩
  rw [setsP_at h0 h1 hi b c] at a
  exact of_decide_eq_true a
def fitsP (p : PartM) (l : List BSet) : Bool := rightP p && !l.any (splitsP p)
def okB (m : Mach) (p : PartM) : Bool := rightM m && fitsP p (setsM m)
noncomputable def buildM (m : Mach) (p : PartM) : Dfa := if okB m p then madeM p beginB (nextB m (leastB p)) (finalB m) else ⟨⟨List.replicate 256 0, 0⟩, [], []⟩
def errB (m : Mach) (p : PartM) : Int := if okB m p then 0 else 1
theorem nextB_eq (m : Mach) (bs : List Int) (s : BSet) (k : Int) : nextB m bs s k = outTo m (at_ bs k) s m.spots.length (if s = beginB then rowIn m (at_ bs k) m.first 0 else 0) := rfl
theorem fits_no1 {p : PartM} {l : List BSet} (h : rightP p = false) : fitsP p l = false := by unfold fitsP; rw [h]; rfl
theorem fits_no2 {p : PartM} {l : List BSet} {t : Int} (h0 : 0 ≤ t) (h1 : t < (l.length : Int)) (h : splitsP p (at_ l t) = true) : fitsP p l = false := by
  unfold fitsP
  rw [List.any_eq_true.2 ⟨_, at_mem h0 h1, h⟩]; simp
theorem fits_yes {p : PartM} {l : List BSet} {t : Int} (hr : rightP p = true) (h1 : (l.length : Int) ≤ t) (h : (l.take t.toNat).any (splitsP p) = false) : fitsP p l = true := by
  rw [List.take_of_length_le (by omega)] at h
  unfold fitsP
  rw [hr, h]; rfl
theorem fits_right {p : PartM} {l : List BSet} (h : fitsP p l = true) : rightP p = true := by
  unfold fitsP at h
  exact (Bool.and_eq_true_iff.1 h).1
theorem any_step {α : Type} [Inhabited α] {f : α → Bool} {l : List α} {t : Int} (h0 : 0 ≤ t) (h1 : t < (l.length : Int)) (h : (l.take t.toNat).any f = false) (hf : f (at_ l t) = false) : (l.take (t + 1).toNat).any f = false := by
  rw [take_next _ h0 h1, List.any_append, h]
  simp [hf]
theorem build_yes {m : Mach} {p : PartM} (h1 : rightM m = true) (h2 : fitsP p (setsM m) = true) : buildM m p = madeM p beginB (nextB m (leastB p)) (finalB m) := by unfold buildM okB; rw [h1, h2]; rfl
theorem build_no1 {m : Mach} {p : PartM} (h1 : rightM m = false) : buildM m p = ⟨⟨List.replicate 256 0, 0⟩, [], []⟩ ∧ errB m p = 1 := by unfold buildM errB okB; rw [h1]; exact ⟨rfl, rfl⟩
theorem build_no2 {m : Mach} {p : PartM} (h2 : fitsP p (setsM m) = false) : buildM m p = ⟨⟨List.replicate 256 0, 0⟩, [], []⟩ ∧ errB m p = 1 := by unfold buildM errB okB; rw [h2, Bool.and_false]; exact ⟨rfl, rfl⟩
theorem err_yes {m : Mach} {p : PartM} (h1 : rightM m = true) (h2 : fitsP p (setsM m) = true) : errB m p = 0 := by unfold errB okB; rw [h1, h2]; rfl
section
variable {m : Mach} {bs : List Int} {n : Int} {fin : BSet → Bool} {all all2 : List BSet} {mp mp2 : List (BSet × Int)} {nx : List (List Int)} {fl : List Bool} {l : List Int} {i k : Int} {s : BSet}
theorem two_pow_le {a : Nat} (h : a ≤ 20) : 2 ^ a + 1 ≤ 1048577 := by
  have := Nat.pow_le_pow_right (n := 2) (by omega) h
  have e : 2 ^ 20 = 1048576 := by decide
  omega
theorem spots_bound (hR : Right m) (h20 : (m.spots.length : Int) ≤ 20) (W : MadeI (nextB m bs) n beginB fin all mp nx fl i) : (all.length : Int) ≤ 1048577 := by
  have := bfs_bound (P := InB m) (f := codeB m) (N := 2 ^ m.spots.length + 1) (next := nextB m bs) (n := n) (first := beginB) (.inl rfl) (fun s k _ _ _ => .inr (nextC_in hR _ s)) (fun a b => code_inj) (fun a h => code_lt h) i.toNat
  have h2 := two_pow_le (a := m.spots.length) (by omega)
  rw [W.all_]; omega
theorem spots_bound2 (hR : Right m) (h20 : (m.spots.length : Int) ≤ 20) (W : MadeI (nextB m bs) n beginB fin all mp nx fl i) (hs : s ∈ all) (K : MadeK (nextB m bs) s all all2 mp2 l k) (hk : k ≤ n) : (all2.length : Int) ≤ 1048577 := by
  have := fold_bound (P := InB m) (f := codeB m) (N := 2 ^ m.spots.length + 1) (.inl rfl) (fun s k _ _ _ => .inr (nextC_in hR _ s)) (fun a b => code_inj) (fun a h => code_lt h) W hs K hk
  have h2 := two_pow_le (a := m.spots.length) (by omega)
  omega
end
end Gx
namespace Gx
open Go Go.RowKit
set_option linter.unusedSimpArgs false
set_option linter.unusedSectionVars false
set_option linter.unusedVariables false
def badQ (n q : Int) : Bool := decide (q < 0) || decide (n ≤ q)
def badRow (d : Dfa) (n : Int) (l : List Int) : Bool := decide ((l.length : Int) ≠ d.part.n) || l.any (badQ n)
def rightD (d : Dfa) : Bool := !decide ((d.next.length : Int) = 0) && decide ((d.final.length : Int) = (d.next.length : Int)) && rightP d.part && !d.next.any (badRow d d.next.length)
structure RightD (d : Dfa) : Prop where
  some_ : 0 < (d.next.length : Int)
  final : (d.final.length : Int) = d.next.length
  rp : rightP d.part = true
  part : RightP d.part
  row : ∀ q : Int, 0 ≤ q → q < (d.next.length : Int) → ((at_ d.next q).length : Int) = d.part.n
  cell : ∀ q : Int, 0 ≤ q → q < (d.next.length : Int) → ∀ x ∈ at_ d.next q, 0 ≤ x ∧ x < (d.next.length : Int)
theorem bad_row {d : Dfa} {n : Int} {l : List Int} : badRow d n l = false ↔ (l.length : Int) = d.part.n ∧ ∀ x ∈ l, 0 ≤ x ∧ x < n := by
  unfold badRow
  rw [Bool.or_eq_false_iff, decide_eq_false_iff_not, Decidable.not_not, List.any_eq_false]
  refine and_congr Iff.rfl ⟨fun h x hx => ?_, fun h x hx => ?_⟩
  · have := h x hx
    unfold badQ at this
    simp only [Bool.or_eq_true, decide_eq_true_eq, not_or] at this
    omega
  · have := h x hx
    unfold badQ
    simp only [Bool.or_eq_true, decide_eq_true_eq, not_or]
    omega
theorem rightD_of {d : Dfa} (ho : okPart d.part) (h : rightD d = true) : RightD d := by
  unfold rightD at h
  simp only [Bool.and_eq_true, Bool.not_eq_true', decide_eq_true_eq, decide_eq_false_iff_not] at h
  obtain ⟨⟨⟨h1, h2⟩, h3⟩, h4⟩ := h
  have hr : ∀ q : Int, 0 ≤ q → q < (d.next.length : Int) → badRow d d.next.length (at_ d.next q) = false := fun q h0 hq => by
    have := List.any_eq_false.1 h4 _ (at_mem h0 hq)
    simpa using this
  exact ⟨by omega, h2, h3, rightP_of ho h3, fun q h0 hq => (bad_row.1 (hr q h0 hq)).1, fun q h0 hq => (bad_row.1 (hr q h0 hq)).2⟩
theorem rightD_to {d : Dfa} (h1 : 0 < (d.next.length : Int)) (h2 : (d.final.length : Int) = d.next.length) (h3 : rightP d.part = true) (h4 : ∀ l ∈ d.next, (l.length : Int) = d.part.n ∧ ∀ x ∈ l, 0 ≤ x ∧ x < (d.next.length : Int)) : rightD d = true := by
  unfold rightD
  rw [h3, decide_eq_true h2, decide_eq_false (by omega)]
  have : d.next.any (badRow d d.next.length) = false := List.any_eq_false.2 fun l hl => by rw [bad_row.2 (h4 l hl)]; simp
  rw [this]; rfl
theorem badQ_1 {n q : Int} (h : q < 0) : badQ n q = true := by unfold badQ; rw [decide_eq_true h]; rfl
theorem badQ_2 {n q : Int} (h : ¬ q < 0) : badQ n q = decide (n ≤ q) := by unfold badQ; rw [decide_eq_false h]; rfl
theorem badRow_1 {d : Dfa} {n : Int} {l : List Int} (h : (l.length : Int) ≠ d.part.n) : badRow d n l = true := by unfold badRow; rw [decide_eq_true h]; rfl
theorem badRow_2 {d : Dfa} {n t : Int} {l : List Int} (h0 : 0 ≤ t) (h1 : t < (l.length : Int)) (h : badQ n (at_ l t) = true) : badRow d n l = true := by
  unfold badRow
  rw [List.any_eq_true.2 ⟨_, at_mem h0 h1, h⟩]; simp
theorem badRow_3 {d : Dfa} {n t : Int} {l : List Int} (hl : ¬ (l.length : Int) ≠ d.part.n) (h1 : (l.length : Int) ≤ t) (h : (l.take t.toNat).any (badQ n) = false) : badRow d n l = false := by
  rw [List.take_of_length_le (by omega)] at h
  unfold badRow
  rw [decide_eq_false hl, h]; rfl
theorem rightD_1 {d : Dfa} (h : (d.next.length : Int) = 0) : rightD d = false := by unfold rightD; rw [decide_eq_true h]; rfl
theorem rightD_2 {d : Dfa} (h : (d.final.length : Int) ≠ d.next.length) : rightD d = false := by unfold rightD; rw [decide_eq_false h]; simp
theorem rightD_3 {d : Dfa} (h : rightP d.part = false) : rightD d = false := by unfold rightD; rw [h]; simp
theorem rightD_4 {d : Dfa} {t : Int} (h0 : 0 ≤ t) (h1 : t < (d.next.length : Int)) (h : badRow d d.next.length (at_ d.next t) = true) : rightD d = false := by
  unfold rightD
  rw [List.any_eq_true.2 ⟨_, at_mem h0 h1, h⟩]; simp
theorem rightD_5 {d : Dfa} {t : Int} (ha : ¬ (d.next.length : Int) = 0) (hb : ¬ (d.final.length : Int) ≠ d.next.length) (hc : rightP d.part = true) (h1 : (d.next.length : Int) ≤ t) (h : (d.next.take t.toNat).any (badRow d d.next.length) = false) : rightD d = true := by
  rw [List.take_of_length_le (by omega)] at h
  unfold rightD
  rw [decide_eq_false ha, decide_eq_true (Decidable.not_not.1 hb), hc, h]; rfl
def goD (d : Dfa) (w : ByteArray) : Nat → Int
  | 0 => 0
  | i + 1 => at_ (at_ d.next (goD d w i)) (at_ d.part.of (byt w ((i : Nat) : Int)))
def runD (d : Dfa) (w : ByteArray) : Bool := rightD d && at_ d.final (goD d w w.size)
theorem runD_no {d : Dfa} {w : ByteArray} (h : rightD d = false) : runD d w = false := by unfold runD; rw [h]; rfl
section
variable {a b : Dfa} {fin : Int × Int → Bool} {all all2 : List (Int × Int)} {mp mp2 : List ((Int × Int) × Int)} {nx : List (List Int)} {fl : List Bool} {l : List Int} {i k : Int} {s : Int × Int}
end
end Gx
namespace Gx
open Go Go.RowKit
set_option linter.unusedSimpArgs false
set_option linter.unusedSectionVars false
set_option linter.unusedVariables false
theorem keyk_set {P : Program} {t E : TypeId} {b' : Nat} {z : Option Value} (hT : P.underlying t = some (.array 4 E)) (hE : P.underlying E = some (.int .u64)) (ht : tyInfo P E = some (1, b', false, z)) : KeyK P t (fun x : BSet => Value.agg (encSet x).toArray) where
  eq := fun a b w => by
    have e : decide (words a = words b) = decide (a = b) := by
      by_cases h : a = b
      · subst h; simp
      · rw [decide_eq_false h, decide_eq_false (fun e => h (words_inj e))]
    have h1 := eqIn_ints (w := w) hT hE ht (okWords a) (okWords b) 9998
    rw [e] at h1
    exact h1
  chk := fun a e w => by
    obtain ⟨ii, d2, hi, hd2, hsz, _, hg, _⟩ := tyInfo_parts ht
    have pE : ∀ (i : Nat) (x : Int) (w : World), (encSet a).toArray[i]? = some (.int .u64 x) → (part E (encSet a).toArray i).run P w = .ok (.int .u64 x) w := fun i x w hx => by
      simp only [part, Sem.run_bind, run_isAgg hd2, hg, Result.andThen_ok, Bool.false_eq_true, if_false]
      rw [hx]; rfl
    have cE : ∀ (n : Nat) (x : Int) (w : World), (Instr.checkKey e (n + 1) E (.int .u64 x)).run P w = .ok () w := fun n x w => by
      rw [Instr.checkKey]
      simp only [Sem.run_bind, run_underlying hE, Result.andThen_ok]; rfl
    have p0 := fun w => pE 0 (wd a 0) w rfl
    have p1 := fun w => pE 1 (wd a 1) w rfl
    have p2 := fun w => pE 2 (wd a 2) w rfl
    have p3 := fun w => pE 3 (wd a 3) w rfl
    have main : ∀ n, (Instr.checkKey e (n + 1 + 1) t (.agg (encSet a).toArray)).run P w = .ok () w := fun n => by
      rw [Instr.checkKey]
      simp only [Sem.run_bind, run_underlying hT, Result.andThen_ok]
      simp [Std.Legacy.Range.forIn_eq_forIn_range', List.range', Std.Legacy.Range.size, Sem.run_bind, Result.andThen_ok, rn_sizeOf hi, hsz, p0, p1, p2, p3, cE, Sem.run_pure]
    exact main 9998
  now := ⟨_, hT, .inl fun a b => rfl⟩
  same := fun a => by simp [encSet, encInts, words, Instr.sameBits]
end Gx
