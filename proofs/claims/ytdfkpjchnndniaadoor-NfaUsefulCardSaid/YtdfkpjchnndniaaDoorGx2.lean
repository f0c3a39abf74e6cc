/- My own library for walks through the translated code, part Gx2: laws of the model alone, no word of the program. -/
import Derived.Test.YtdfkpjchnndniaaDoorGx1
import Derived.Maps.AppendAt
import Derived.Laws.MakeOwn
namespace Gx
open Go Go.RowKit

/-! ### What is known of memory that nobody writes any more -/
abbrev Ghost := Nat → Option Obj
def hp (w : World) : Ghost := fun b => w.heap[b]?
def Le (h h' : Ghost) : Prop := ∀ b o, h b = some o → h' b = some o
theorem Le.refl (h : Ghost) : Le h h := fun _ _ e => e
theorem Le.trans {a b c : Ghost} (h : Le a b) (k : Le b c) : Le a c := fun x o e => k x o (h x o e)
def gor (h k : Ghost) : Ghost := fun b => match h b with | some o => some o | none => k b
theorem Le.gor_left (h k : Ghost) : Le h (gor h k) := fun b o e => by simp [gor, e]
theorem Le.gor_right {h k : Ghost} (hd : ∀ b o, h b = some o → k b = none) : Le k (gor h k) := fun b o e => by
  unfold gor
  cases hb : h b with
  | none => exact e
  | some o' => rw [hd b o' hb] at e; cases e
def gcell (h : Ghost) (a : Addr) : Option Value :=
  match h a.block with
  | some (.cells c _ _) => if a.spot.isSome then none else c[a.off]?
  | _ => none
theorem gcell_mono {h h' : Ghost} (hl : Le h h') {a : Addr} {v : Value} (hc : gcell h a = some v) : gcell h' a = some v := by
  unfold gcell at hc ⊢
  cases hb : h a.block with
  | none => rw [hb] at hc; cases hc
  | some o => rw [hb] at hc; rw [hl _ _ hb]; exact hc
theorem gcell_world {w : World} {h : Ghost} (hl : Le h (hp w)) {a : Addr} {v : Value} (hc : gcell h a = some v) : w.cell? a = some v := gcell_mono hl hc
theorem Le.below {w w' : World} (hb : Below w.heap.size w w') : Le (hp w) (hp w') := fun b o e => by
  have hlt : b < w.heap.size := by
    rcases Nat.lt_or_ge b w.heap.size with h | h
    · exact h
    · unfold hp at e; rw [Array.getElem?_eq_none h] at e; cases e
  unfold hp at e ⊢
  rw [hb.block b hlt]; exact e

/-! ### Kinds: what a row of cells stands for -/
structure Kd (α : Type) where
  sz : Nat
  pos : 0 < sz
  rep : Ghost → α → List Value → Prop
  mono : ∀ {h h' : Ghost} {x : α} {cs : List Value}, Le h h' → rep h x cs → rep h' x cs
  len : ∀ {h : Ghost} {x : α} {cs : List Value}, rep h x cs → cs.length = sz
  one : ∀ {h : Ghost} {x : α} {cs : List Value}, rep h x cs → ∀ u ∈ cs, u.oneCell' = true

/-- Values without memory behind them. -/
def Kd.flat {α : Type} (enc : α → List Value) (ok : α → Prop) (n : Nat) (hp : 0 < n) (hl : ∀ x, ok x → (enc x).length = n) (h1 : ∀ x, ∀ u ∈ enc x, u.oneCell' = true) : Kd α where
  sz := n
  pos := hp
  rep := fun _ x cs => cs = enc x ∧ ok x
  mono := fun _ h => h
  len := fun h => by rw [h.1]; exact hl _ h.2
  one := fun h => by rw [h.1]; exact h1 _

def inK (k : IntKind) (x : Int) : Prop := k.min ≤ x ∧ x ≤ k.max
def Kd.int (k : IntKind) : Kd Int := .flat (fun x => [.int k x]) (inK k) 1 (by omega) (fun _ _ => rfl) (fun _ u hu => by simp at hu; subst hu; rfl)
def Kd.bool : Kd Bool := .flat (fun x => [.bool x]) (fun _ => True) 1 (by omega) (fun _ _ => rfl) (fun _ u hu => by simp at hu; subst hu; rfl)
def Kd.string : Kd ByteArray := .flat (fun x => [.string x]) (fun s => s.size ≤ maxLen) 1 (by omega) (fun _ _ => rfl) (fun _ u hu => by simp at hu; subst hu; rfl)

/-- The elements of a row. -/
def Elems {α : Type} (k : Kd α) (h : Ghost) (xs : List α) (cs : List Value) : Prop :=
  cs.length = xs.length * k.sz ∧ ∀ i x, xs[i]? = some x → k.rep h x ((cs.drop (i * k.sz)).take k.sz)

/-- The elements that a slice leads to. -/
def Leads {α : Type} (k : Kd α) (h : Ghost) (A : Option Addr) (xs : List α) : Prop :=
  xs ≠ [] → ∃ ad, A = some ad ∧ ∀ i x, xs[i]? = some x → ∃ seg, k.rep h x seg ∧ ∀ j v, seg[j]? = some v → gcell h (ad.add (i * k.sz + j)) = some v
theorem Leads.mono {α : Type} {k : Kd α} {h h' : Ghost} {A : Option Addr} {xs : List α} (hl : Le h h') (hr : Leads k h A xs) : Leads k h' A xs := fun hne => by
  obtain ⟨ad, e, hx⟩ := hr hne
  exact ⟨ad, e, fun i x hi => let ⟨seg, h1, h2⟩ := hx i x hi; ⟨seg, k.mono hl h1, fun j v hj => gcell_mono hl (h2 j v hj)⟩⟩

def Kd.slice {α : Type} (k : Kd α) : Kd (List α) where
  sz := 1
  pos := by omega
  rep := fun h xs cs => ∃ A c, cs = [.slice A xs.length c] ∧ xs.length ≤ c ∧ c ≤ maxLen ∧ Leads k h A xs
  mono := fun hl ⟨A, c, h1, h2, h3, h4⟩ => ⟨A, c, h1, h2, h3, h4.mono hl⟩
  len := fun ⟨_, _, h, _⟩ => by rw [h]; rfl
  one := fun ⟨_, _, h, _⟩ u hu => by rw [h] at hu; simp at hu; subst hu; rfl

def Kd.pair {α β : Type} (a : Kd α) (b : Kd β) : Kd (α × β) where
  sz := a.sz + b.sz
  pos := by have := a.pos; omega
  rep := fun h x cs => ∃ c1 c2, cs = c1 ++ c2 ∧ a.rep h x.1 c1 ∧ b.rep h x.2 c2
  mono := fun hl ⟨c1, c2, h1, h2, h3⟩ => ⟨c1, c2, h1, a.mono hl h2, b.mono hl h3⟩
  len := fun ⟨c1, c2, h1, h2, h3⟩ => by rw [h1, List.length_append, a.len h2, b.len h3]
  one := fun ⟨c1, c2, h1, h2, h3⟩ u hu => by
    rw [h1] at hu
    rcases List.mem_append.1 hu with h | h
    · exact a.one h2 u h
    · exact b.one h3 u h
def Kd.iso {α β : Type} (a : Kd α) (g : β → α) : Kd β where
  sz := a.sz
  pos := a.pos
  rep := fun h x cs => a.rep h (g x) cs
  mono := fun hl h => a.mono hl h
  len := fun h => a.len h
  one := fun h => a.one h

/-! ### What the call owns -/
structure Asrt where
  holds : Ghost → World → (Nat → Prop) → Prop
  mono : ∀ {h h' : Ghost} {w : World} {F : Nat → Prop}, Le h h' → holds h w F → holds h' w F
  far : ∀ {h : Ghost} {w w' : World} {F : Nat → Prop}, (∀ b, F b → w'.heap[b]? = w.heap[b]?) → holds h w F → holds h w' F

def emp : Asrt := ⟨fun _ _ _ => True, fun _ h => h, fun _ h => h⟩
/-- A block of the call's own, whole. -/
def box (b : Nat) (T : TypeId) (cs : List Value) : Asrt where
  holds := fun _ w F => w.heap[b]? = some (.cells cs.toArray T (0, 0)) ∧ F b
  mono := fun _ h => h
  far := fun hf h => ⟨by rw [hf b h.2]; exact h.1, h.2⟩
/-- A slice of the call's own. -/
def row {α : Type} (T : TypeId) (k : Kd α) (v : Value) (xs : List α) : Asrt where
  holds := fun h w F => ∃ cs, w.ownsRow 0 T k.sz v xs.length cs ∧ Elems k h xs cs ∧ ∀ g, v.ownBlock = some g → F g
  mono := fun hl ⟨cs, h1, h2, h3⟩ => ⟨cs, h1, ⟨h2.1, fun i x hi => k.mono hl (h2.2 i x hi)⟩, h3⟩
  far := fun {h w w' F} hf ⟨cs, h1, h2, h3⟩ => by
    refine ⟨cs, ⟨h1.1, ?_⟩, h2, h3⟩
    rcases h1.2 with h4 | ⟨g, cap, cur, hv, hb, hh, hr⟩
    · exact .inl h4
    · have hg : F g := h3 g (by rw [hv]; rfl)
      exact .inr ⟨g, cap, cur, hv, hb, by rw [hf g hg]; exact hh, hr⟩

def Sep (h : Ghost) (w : World) (U : Nat → Prop) (L : List Asrt) : Prop :=
  ∃ Fs : Nat → Nat → Prop, (∀ i A, L[i]? = some A → A.holds h w (Fs i) ∧ ∀ b, Fs i b → U b) ∧ ∀ i j, i < L.length → j < L.length → i ≠ j → ∀ b, Fs i b → ¬ Fs j b

/-- What the world changes outside of a set of blocks: nothing. -/
structure Chg (w w' : World) (F : Nat → Prop) : Prop where
  os : w'.os = w.os
  tape : w'.tape = w.tape
  output : w'.output = w.output
  size : w.heap.size ≤ w'.heap.size
  block : ∀ b, b < w.heap.size → ¬ F b → w'.heap[b]? = w.heap[b]?
theorem Chg.mono {w w' : World} {F G : Nat → Prop} (h : Chg w w' F) (hg : ∀ b, F b → G b) : Chg w w' G := ⟨h.os, h.tape, h.output, h.size, fun b hb hn => h.block b hb (fun hf => hn (hg b hf))⟩
theorem Chg.of_below {w w' : World} (h : Below w.heap.size w w') : Chg w w' (fun _ => False) := ⟨h.os, h.tape, h.output, h.size, fun b hb _ => h.block b hb⟩
theorem Chg.below {w w' : World} (h : Chg w w' (fun _ => False)) : Below w.heap.size w w' := ⟨h.os, h.tape, h.output, h.size, fun b hb => h.block b hb (fun x => x)⟩
theorem Chg.alloc (w : World) (o : Obj) : Chg w (w.alloc o) (fun _ => False) := ⟨rfl, rfl, rfl, by simp, fun b hb _ => Below.heap_alloc w o b hb⟩
theorem Chg.drew (w : World) : Chg w w.drew (fun _ => False) := ⟨rfl, rfl, rfl, Nat.le_refl _, fun _ _ _ => rfl⟩
theorem Chg.refl (w : World) (F : Nat → Prop) : Chg w w F := ⟨rfl, rfl, rfl, Nat.le_refl _, fun _ _ _ => rfl⟩
theorem Chg.grown {w w' : World} {r : Option Nat} (h : w.grownBy w' r) : Chg w w' (fun b => r = some b) := ⟨h.os, h.tape, h.output, h.size, fun b hb hn => h.block b hb (fun e => hn e.symm)⟩

def Uw (base : Nat) (h : Ghost) (w : World) : Nat → Prop := fun b => base ≤ b ∧ b < w.heap.size ∧ h b = none

structure St (base : Nat) (w0 : World) (h : Ghost) (w : World) (L : List Asrt) : Prop where
  below : Below base w0 w
  bsz : base ≤ w.heap.size
  ghost : Le h (hp w)
  dom : ∀ b o, h b = some o → base ≤ b
  sep : Sep h w (Uw base h w) L

section
variable {base : Nat} {w0 w w' : World} {h : Ghost} {L : List Asrt}

theorem hp_lt {w : World} {b : Nat} {o : Obj} (h : hp w b = some o) : b < w.heap.size := by
  rcases Nat.lt_or_ge b w.heap.size with hlt | hge
  · exact hlt
  · unfold hp at h; rw [Array.getElem?_eq_none hge] at h; cases h

theorem St.init (w : World) : St w.heap.size w (fun _ => none) w [] where
  below := Below.refl _ _
  bsz := Nat.le_refl _
  ghost := fun _ _ e => by cases e
  dom := fun _ _ e => by cases e
  sep := ⟨fun _ _ => False, fun i A hi => by simp at hi, fun i j hi => by simp at hi⟩

/-- One assertion is turned into another one; nothing else is touched. -/
theorem St.upd (S : St base w0 h w L) {i : Nat} {A A' : Asrt} (hi : L[i]? = some A)
    (hm : ∀ F, A.holds h w F → (∀ b, F b → Uw base h w b) → Chg w w' F ∧ ∃ F', A'.holds h w' F' ∧ ∀ b, F' b → F b ∨ (w.heap.size ≤ b ∧ b < w'.heap.size)) :
    St base w0 h w' (L.set i A') := by
  obtain ⟨Fs, hF, hD⟩ := S.sep
  obtain ⟨hA, hU⟩ := hF i A hi
  obtain ⟨hc, F', hA', hF'⟩ := hm _ hA hU
  have hlen : i < L.length := (List.getElem?_eq_some_iff.1 hi).1
  have hsame : ∀ b, b < w.heap.size → ¬ Fs i b → w'.heap[b]? = w.heap[b]? := hc.block
  have hfresh : ∀ b, w.heap.size ≤ b → h b = none := fun b hb => by
    cases e : h b with
    | none => rfl
    | some o => have := hp_lt (S.ghost b o e); omega
  refine ⟨?_, Nat.le_trans S.bsz hc.size, ?_, S.dom, ?_⟩
  · refine S.below.trans ⟨hc.os, hc.tape, hc.output, hc.size, fun b hb => hsame b (Nat.lt_of_lt_of_le hb S.bsz) (fun hf => ?_)⟩
    have := (hU b hf).1; omega
  · intro b o e
    have h1 := S.ghost b o e
    have hlt := hp_lt h1
    unfold hp at h1 ⊢
    rw [hsame b hlt (fun hf => by have := (hU b hf).2.2; rw [e] at this; cases this)]
    exact h1
  · refine ⟨fun j => if j = i then F' else Fs j, fun j B hj => ?_, fun j m hjl hml hjm b hb1 hb2 => ?_⟩
    · by_cases hji : j = i
      · subst hji
        rw [List.getElem?_set_self hlen] at hj
        injection hj with hj
        subst hj
        simp only [if_true]
        refine ⟨hA', fun b hb => ?_⟩
        rcases hF' b hb with hb | hb
        · exact ⟨(hU b hb).1, Nat.lt_of_lt_of_le (hU b hb).2.1 hc.size, (hU b hb).2.2⟩
        · exact ⟨Nat.le_trans S.bsz hb.1, hb.2, hfresh b hb.1⟩
      · rw [List.getElem?_set_ne (fun e => hji e.symm)] at hj
        obtain ⟨hB, hUB⟩ := hF j B hj
        have hjlen : j < L.length := (List.getElem?_eq_some_iff.1 hj).1
        simp only [if_neg hji]
        refine ⟨B.far (fun b hb => hsame b (hUB b hb).2.1 (fun hf => hD j i hjlen hlen hji b hb hf)) hB, fun b hb => ?_⟩
        exact ⟨(hUB b hb).1, Nat.lt_of_lt_of_le (hUB b hb).2.1 hc.size, (hUB b hb).2.2⟩
    · have hjl' : j < L.length := by simpa using hjl
      have hml' : m < L.length := by simpa using hml
      have key : ∀ q, q < L.length → q ≠ i → ∀ b, F' b → ¬ Fs q b := fun q hq hqi b hb hb' => by
        rcases hF' b hb with hb | hb
        · exact hD i q hlen hq (fun e => hqi e.symm) b hb hb'
        · have hQ := (hF q (L[q]) (List.getElem?_eq_getElem hq)).2 b hb'
          have := hQ.2.1; omega
      by_cases hji : j = i
      · subst hji
        have hmi : m ≠ j := fun e => hjm e.symm
        simp only [if_true] at hb1
        simp only [if_neg hmi] at hb2
        exact key m hml' hmi b hb1 hb2
      · simp only [if_neg hji] at hb1
        by_cases hmi : m = i
        · subst hmi
          simp only [if_true] at hb2
          exact key j hjl' hji b hb2 hb1
        · simp only [if_neg hmi] at hb2
          exact hD j m hjl' hml' hjm b hb1 hb2

/-- The world grows; nothing of it is touched. -/
theorem St.keep (S : St base w0 h w L) (hc : Chg w w' (fun _ => False)) : St base w0 h w' L := by
  obtain ⟨Fs, hF, hD⟩ := S.sep
  have hsame : ∀ b, b < w.heap.size → w'.heap[b]? = w.heap[b]? := fun b hb => hc.block b hb (fun x => x)
  refine ⟨S.below.trans ⟨hc.os, hc.tape, hc.output, hc.size, fun b hb => hsame b (Nat.lt_of_lt_of_le hb S.bsz)⟩, Nat.le_trans S.bsz hc.size, ?_, S.dom, Fs, fun i A hi => ?_, hD⟩
  · intro b o e
    have h1 := S.ghost b o e
    unfold hp at h1 ⊢
    rw [hsame b (hp_lt h1)]; exact h1
  · obtain ⟨hA, hU⟩ := hF i A hi
    exact ⟨A.far (fun b hb => hsame b (hU b hb).2.1) hA, fun b hb => ⟨(hU b hb).1, Nat.lt_of_lt_of_le (hU b hb).2.1 hc.size, (hU b hb).2.2⟩⟩

/-- What a call hands back joins what there is. -/
theorem St.call {hn : Ghost} {M : List Asrt} (S : St base w0 h w L) (T : St w.heap.size w hn w' M) : St base w0 (gor h hn) w' (L ++ M) := by
  have S' := S.keep (Chg.of_below T.below)
  obtain ⟨Fs, hF, hD⟩ := S.sep
  obtain ⟨Gs, hG, hE⟩ := T.sep
  have hhn : ∀ b, b < w.heap.size → hn b = none := fun b hb => by
    cases e : hn b with
    | none => rfl
    | some o => have := T.dom b o e; omega
  have hh : ∀ b, w.heap.size ≤ b → h b = none := fun b hb => by
    cases e : h b with
    | none => rfl
    | some o => have := hp_lt (S.ghost b o e); omega
  have hle2 : Le hn (gor h hn) := Le.gor_right fun b o e => hhn b (hp_lt (S.ghost b o e))
  refine ⟨S'.below, S'.bsz, ?_, ?_, ?_⟩
  · intro b o e
    unfold gor at e
    cases hb : h b with
    | none => rw [hb] at e; exact T.ghost b o e
    | some o' => rw [hb] at e; injection e with e; subst e; exact S'.ghost b _ hb
  · intro b o e
    unfold gor at e
    cases hb : h b with
    | none => rw [hb] at e; exact Nat.le_trans S.bsz (T.dom b o e)
    | some o' => exact S.dom b _ hb
  · have hlow : ∀ i A b, L[i]? = some A → Fs i b → b < w.heap.size := fun i A b hi hb => ((hF i A hi).2 b hb).2.1
    refine ⟨fun i => if i < L.length then Fs i else Gs (i - L.length), fun i A hi => ?_, fun i j hil hjl hij b hb1 hb2 => ?_⟩
    · by_cases hil : i < L.length
      · rw [List.getElem?_append_left hil] at hi
        obtain ⟨hA, hU⟩ := hF i A hi
        simp only [if_pos hil]
        refine ⟨A.mono (Le.gor_left _ _) (A.far (fun b hb => T.below.block b (hU b hb).2.1) hA), fun b hb => ?_⟩
        have hu := hU b hb
        refine ⟨hu.1, Nat.lt_of_lt_of_le hu.2.1 T.below.size, ?_⟩
        unfold gor; rw [hu.2.2]; exact hhn b hu.2.1
      · rw [List.getElem?_append_right (by omega)] at hi
        obtain ⟨hA, hU⟩ := hG _ A hi
        simp only [if_neg hil]
        refine ⟨A.mono hle2 hA, fun b hb => ?_⟩
        have hu := hU b hb
        refine ⟨Nat.le_trans S.bsz hu.1, hu.2.1, ?_⟩
        unfold gor; rw [hh b hu.1]; exact hu.2.2
    · rw [List.length_append] at hil hjl
      have low : ∀ q, q < L.length → Fs q b → b < w.heap.size := fun q hq hb => hlow q _ b (List.getElem?_eq_getElem hq) hb
      have high : ∀ q, q < M.length → Gs q b → w.heap.size ≤ b := fun q hq hb => ((hG q _ (List.getElem?_eq_getElem hq)).2 b hb).1
      by_cases hi : i < L.length <;> by_cases hj : j < L.length
      · simp only [if_pos hi] at hb1; simp only [if_pos hj] at hb2
        exact hD i j hi hj hij b hb1 hb2
      · simp only [if_pos hi] at hb1; simp only [if_neg hj] at hb2
        have := low i hi hb1; have := high _ (by omega) hb2; omega
      · simp only [if_neg hi] at hb1; simp only [if_pos hj] at hb2
        have := low j hj hb2; have := high _ (by omega) hb1; omega
      · simp only [if_neg hi] at hb1; simp only [if_neg hj] at hb2
        exact hE _ _ (by omega) (by omega) (by omega) b hb1 hb2

/-- Some of what is owned, in another order. -/
theorem St.pick (S : St base w0 h w L) (is : List Nat) (hnd : is.Nodup) (hlt : ∀ i ∈ is, i < L.length) (L' : List Asrt) (hL : L' = is.map fun i => L.getD i emp) : St base w0 h w L' := by
  obtain ⟨Fs, hF, hD⟩ := S.sep
  subst hL
  refine ⟨S.below, S.bsz, S.ghost, S.dom, fun i => Fs (is.getD i 0), fun i A hi => ?_, fun i j hi hj hij b h1 h2 => ?_⟩
  · rw [List.getElem?_map] at hi
    cases hq : is[i]? with
    | none => rw [hq] at hi; cases hi
    | some q =>
      rw [hq] at hi
      have hql : q < L.length := hlt q (List.mem_of_getElem? hq)
      have hd : is.getD i 0 = q := by simp [List.getD_eq_getElem?_getD, hq]
      simp only [Option.map_some, Option.some.injEq] at hi
      simp only [hd]
      refine hF q A ?_
      rw [← hi]
      simp [List.getD_eq_getElem?_getD, List.getElem?_eq_getElem hql]
  · simp only [List.length_map] at hi hj
    have e1 : is.getD i 0 = is[i] := by simp [List.getD_eq_getElem?_getD, List.getElem?_eq_getElem hi]
    have e2 : is.getD j 0 = is[j] := by simp [List.getD_eq_getElem?_getD, List.getElem?_eq_getElem hj]
    simp only [e1] at h1; simp only [e2] at h2
    refine hD _ _ (hlt _ (List.getElem_mem hi)) (hlt _ (List.getElem_mem hj)) (fun e => hij ?_) b h1 h2
    exact (List.getElem_inj hnd).1 e

theorem add_block (a : Addr) (n : Nat) : (a.add n).block = a.block := by unfold Addr.add; split <;> rfl
theorem add_add (a : Addr) (i j : Nat) : (a.add i).add j = a.add (i + j) := by
  unfold Addr.add
  by_cases hi : i = 0 <;> by_cases hj : j = 0 <;> simp [hi, hj, Nat.add_assoc]
theorem gcell_of_block {h : Ghost} {w : World} {a : Addr} (hb : h a.block = w.heap[a.block]?) : gcell h a = w.cell? a := by
  unfold gcell World.cell?
  rw [hb]
  cases w.heap[a.block]? with
  | none => rfl
  | some o => cases o <;> rfl

theorem Elems.leads {α : Type} {k : Kd α} {h h' : Ghost} {w : World} {xs : List α} {cs : List Value} {B : Nat} {T : TypeId} {A : Option Addr} {n c : Nat} (he : Elems k h xs cs) (hl : Le h h')
    (hown : w.ownsRow B T k.sz (.slice A n c) n cs) (hg : ∀ g, (Value.slice A n c).ownBlock = some g → h' g = w.heap[g]?) (hn : xs.length = n) : Leads k h' A xs := fun hne => by
  subst hn
  have hp : 0 < xs.length := List.length_pos_iff.2 hne
  rcases hown.2 with ⟨_, h0⟩ | ⟨g, cap, cur, hv, _, hh, _⟩
  · omega
  · injection hv with hA _ hc
    subst hA
    refine ⟨_, rfl, fun i x hi => ⟨_, k.mono hl (he.2 i x hi), fun j u hj => ?_⟩⟩
    rw [List.getElem?_take] at hj
    split at hj
    · rw [List.getElem?_drop] at hj
      have := hown.cells (g := g) rfl _ u hj
      rw [gcell_of_block (w := w) (by rw [add_block]; exact hg g rfl)]
      exact this
    · cases hj

/-- A slice of the call's own is written no more. -/
theorem St.freeze {α : Type} {T : TypeId} {k : Kd α} {v : Value} {xs : List α} {i : Nat} (S : St base w0 h w L) (hi : L[i]? = some (row T k v xs)) :
    ∃ h', Le h h' ∧ St base w0 h' w (L.set i emp) ∧ k.slice.rep h' xs [v] := by
  obtain ⟨Fs, hF, hD⟩ := S.sep
  obtain ⟨⟨cs, hown, hel, hg⟩, hU⟩ := hF i _ hi
  have hlen : i < L.length := (List.getElem?_eq_some_iff.1 hi).1
  have hdis : ∀ b, Fs i b → h b = none := fun b hb => (hU b hb).2.2
  -- the new ghost: one block more
  have key : ∀ (h' : Ghost), Le h h' → (∀ g, v.ownBlock = some g → h' g = w.heap[g]?) → (∀ b, h' b = h b ∨ (Fs i b ∧ h' b = w.heap[b]?)) → St base w0 h' w (L.set i emp) ∧ k.slice.rep h' xs [v] := by
    intro h' hle hgb hcase
    refine ⟨⟨S.below, S.bsz, fun b o e => ?_, fun b o e => ?_, fun j => if j = i then (fun _ => False) else Fs j, fun j A hj => ?_, fun j m hj hm hjm b h1 h2 => ?_⟩, ?_⟩
    · rcases hcase b with e' | ⟨_, e'⟩
      · rw [e'] at e; exact S.ghost b o e
      · rw [e'] at e; exact e
    · rcases hcase b with e' | ⟨hf, e'⟩
      · rw [e'] at e; exact S.dom b o e
      · exact (hU b hf).1
    · by_cases hji : j = i
      · subst hji
        rw [List.getElem?_set_self hlen] at hj
        injection hj with hj
        subst hj
        exact ⟨trivial, fun b hb => by simp at hb⟩
      · rw [List.getElem?_set_ne (fun e => hji e.symm)] at hj
        obtain ⟨hA, hUA⟩ := hF j A hj
        have hjl : j < L.length := (List.getElem?_eq_some_iff.1 hj).1
        simp only [if_neg hji]
        refine ⟨A.mono hle hA, fun b hb => ⟨(hUA b hb).1, (hUA b hb).2.1, ?_⟩⟩
        rcases hcase b with e' | ⟨hf, _⟩
        · rw [e']; exact (hUA b hb).2.2
        · exact (hD j i hjl hlen hji b hb hf).elim
    · simp only [List.length_set] at hj hm
      by_cases hji : j = i
      · simp [hji] at h1
      · by_cases hmi : m = i
        · simp [hmi] at h2
        · simp only [if_neg hji] at h1; simp only [if_neg hmi] at h2
          exact hD j m hj hm hjm b h1 h2
    · rcases hown.2 with ⟨hv, h0⟩ | ⟨g, cap, cur, hv, _, _, h1, h2, _⟩
      · have hx : xs = [] := List.eq_nil_of_length_eq_zero h0
        subst hx
        exact ⟨none, 0, by rw [hv]; rfl, by simp, by simp, fun hne => (hne rfl).elim⟩
      · subst hv
        exact ⟨_, cap, rfl, h1, h2, hel.leads hle hown hgb rfl⟩
  cases hv : v.ownBlock with
  | none => exact ⟨h, Le.refl h, key h (Le.refl h) (fun g e => by rw [hv] at e; cases e) (fun b => .inl rfl)⟩
  | some g =>
    have hfg : Fs i g := hg g hv
    refine ⟨fun b => if b = g then w.heap[b]? else h b, ?_, key _ ?_ ?_ ?_⟩
    · intro b o e
      have hne : b ≠ g := fun e' => by subst e'; rw [hdis b hfg] at e; cases e
      simp only [if_neg hne]; exact e
    · intro b o e
      have hne : b ≠ g := fun e' => by subst e'; rw [hdis b hfg] at e; cases e
      simp only [if_neg hne]; exact e
    · intro g' e; rw [hv] at e; injection e with e; subst e; simp
    · intro b
      by_cases hb : b = g
      · subst hb; exact .inr ⟨hfg, by simp⟩
      · exact .inl (by simp [hb])
end
end Gx
