/- My own library for walks through the translated code, and the walks of the functions that the law ConsStates comes to, part 1; no conditions but those that each contract tells. -/
import Derived.WalkKit
import Derived.Below
import Derived.Maps.AppendAt
import Derived.Laws.MakeOwn
import Derived.OrdersHeld
import Derived.Laws.Strings
import Derived.Laws.StructEq
import Derived.ChangeKeysEq
import Derived.Laws.Cover3
import Derived.Lib.TrailingZeros
import Derived.Laws.BytesArg
import Derived.Laws.Pointers
import Derived.Laws.Concat
import Derived.Lib.Bytealg
import Derived.Defers
set_option linter.unusedSectionVars false
set_option linter.unusedVariables false
set_option linter.unusedSimpArgs false
namespace Gx
open Go Go.RowKit
abbrev Env := Nat → Value
def upd (ρ : Env) (d : Nat) (v : Value) : Env := fun t => bif Nat.beq t d then v else ρ t
theorem upd_same (ρ : Env) (d : Nat) (v : Value) : upd ρ d v d = v := by simp [upd]
theorem upd_ne (ρ : Env) {d t : Nat} (v : Value) (h : t ≠ d) : upd ρ d v t = ρ t := by
  have e : Nat.beq t d = false := by
    cases hb : Nat.beq t d with
    | false => rfl
    | true => exact absurd (Nat.eq_of_beq_eq_true hb) h
  simp only [upd, e, cond_false]
def Fits (n : Nat) (ρ : Env) (tmps : Array Value) : Prop := tmps.size = n ∧ ∀ t, tmps.getD t undef = ρ t
theorem Fits.set {n : Nat} {ρ : Env} {tmps : Array Value} (h : Fits n ρ tmps) {d : Nat} (hd : Nat.blt d n = true) (v : Value) : Fits n (upd ρ d v) (tmps.setIfInBounds d v) := by
  have hd' : d < n := by simpa [Nat.blt_eq] using hd
  refine ⟨by simpa using h.1, fun t => ?_⟩
  have ht := h.2 t
  rcases Nat.decEq t d with hne | rfl
  · rw [upd_ne _ _ hne, ← ht]
    simp only [Array.getD_eq_getD_getElem?, Array.getElem?_setIfInBounds]
    rw [if_neg (fun e => hne e.symm)]
  · rw [upd_same]
    simp [Array.getD_eq_getD_getElem?, h.1, hd']
def ev (ρ : Env) : Operand → Value
  | .tmp t => ρ t
  | .const v => v
  | .global g => .pointer (some ⟨g, 0, none⟩)
  | .func f => .func (.func f) #[] #[]
def fr (f : FuncId) (tmps : Array Value) (todo : List Item) : Frame := { (default : Frame) with fn := f, tmps, todo, defers := [], mode := .run, kind := .normal }
def Run (P : Program) (f n : Nat) (todo : List Item) (ρ : Env) (w : World) (R : Ending → World → Prop) : Prop :=
  ∀ tmps, Fits n ρ tmps → ∀ cs, ∃ e w' fr', R e w' ∧ Comes P (lone (fr f tmps todo) cs w) (lone fr' cs w') e ∧ fr'.fn = f ∧ fr'.leaving P w' e
section
variable {P : Program} {f n : Nat} {k : List Item} {ρ : Env} {w : World} {R : Ending → World → Prop}
theorem Run.mono {R' : Ending → World → Prop} {todo : List Item} (h : Run P f n todo ρ w R) (hr : ∀ e w', R e w' → R' e w') : Run P f n todo ρ w R' :=
  fun tmps ht cs => let ⟨e, w', fr', q, rest⟩ := h tmps ht cs; ⟨e, w', fr', hr _ _ q, rest⟩
section ops
variable {ops : Array Oper} {rest : List Nat} {i : Nat}
end ops
end
end Gx
namespace Gx
open Go Go.RowKit
abbrev Ghost := Nat → Option Obj
def hp (w : World) : Ghost := fun b => w.heap[b]?
def Le (h h' : Ghost) : Prop := ∀ b o, h b = some o → h' b = some o
theorem Le.refl (h : Ghost) : Le h h := fun _ _ e => e
theorem Le.trans {a b c : Ghost} (h : Le a b) (k : Le b c) : Le a c := fun x o e => k x o (h x o e)
def gcell (h : Ghost) (a : Addr) : Option Value :=
  match h a.block with
  | some (.cells c _ _) => if a.spot.isSome then none else c[a.off]?
  | _ => none
theorem gcell_mono {h h' : Ghost} (hl : Le h h') {a : Addr} {v : Value} (hc : gcell h a = some v) : gcell h' a = some v := by
  unfold gcell at hc ⊢
  cases hb : h a.block with
  | none => rw [hb] at hc; cases hc
  | some o => rw [hb] at hc; rw [hl _ _ hb]; exact hc
theorem gcell_world {w : World} {h : Ghost} (hl : Le h (hp w)) {a : Addr} {v : Value} (hc : gcell h a = some v) : w.cell? a = some v := gcell_mono hl hc
theorem Le.below {w w' : World} (hb : Below w.heap.size w w') : Le (hp w) (hp w') := fun b o e => by
  have hlt : b < w.heap.size := by
    rcases Nat.lt_or_ge b w.heap.size with h | h
    · exact h
    · unfold hp at e; rw [Array.getElem?_eq_none h] at e; cases e
  unfold hp at e ⊢
  rw [hb.block b hlt]; exact e
structure Kd (α : Type) where
  sz : Nat
  pos : 0 < sz
  rep : Ghost → α → List Value → Prop
  mono : ∀ {h h' : Ghost} {x : α} {cs : List Value}, Le h h' → rep h x cs → rep h' x cs
  len : ∀ {h : Ghost} {x : α} {cs : List Value}, rep h x cs → cs.length = sz
  one : ∀ {h : Ghost} {x : α} {cs : List Value}, rep h x cs → ∀ u ∈ cs, u.oneCell' = true
def Kd.flat {α : Type} (enc : α → List Value) (ok : α → Prop) (n : Nat) (hp : 0 < n) (hl : ∀ x, ok x → (enc x).length = n) (h1 : ∀ x, ∀ u ∈ enc x, u.oneCell' = true) : Kd α where
  sz := n
  pos := hp
  rep := fun _ x cs => cs = enc x ∧ ok x
  mono := fun _ h => h
  len := fun h => by rw [h.1]; exact hl _ h.2
  one := fun h => by rw [h.1]; exact h1 _
def inK (k : IntKind) (x : Int) : Prop := k.min ≤ x ∧ x ≤ k.max
def Kd.int (k : IntKind) : Kd Int := .flat (fun x => [.int k x]) (inK k) 1 (by omega) (fun _ _ => rfl) (fun _ u hu => by simp at hu; subst hu; rfl)
def Kd.bool : Kd Bool := .flat (fun x => [.bool x]) (fun _ => True) 1 (by omega) (fun _ _ => rfl) (fun _ u hu => by simp at hu; subst hu; rfl)
def Kd.string : Kd ByteArray := .flat (fun x => [.string x]) (fun s => s.size ≤ maxLen) 1 (by omega) (fun _ _ => rfl) (fun _ u hu => by simp at hu; subst hu; rfl)
def Elems {α : Type} (k : Kd α) (h : Ghost) (xs : List α) (cs : List Value) : Prop :=
  cs.length = xs.length * k.sz ∧ ∀ i x, xs[i]? = some x → k.rep h x ((cs.drop (i * k.sz)).take k.sz)
def Leads {α : Type} (k : Kd α) (h : Ghost) (A : Option Addr) (xs : List α) : Prop :=
  xs ≠ [] → ∃ ad, A = some ad ∧ ∀ i x, xs[i]? = some x → ∃ seg, k.rep h x seg ∧ ∀ j v, seg[j]? = some v → gcell h (ad.add (i * k.sz + j)) = some v
theorem Leads.mono {α : Type} {k : Kd α} {h h' : Ghost} {A : Option Addr} {xs : List α} (hl : Le h h') (hr : Leads k h A xs) : Leads k h' A xs := fun hne => by
  obtain ⟨ad, e, hx⟩ := hr hne
  exact ⟨ad, e, fun i x hi => let ⟨seg, h1, h2⟩ := hx i x hi; ⟨seg, k.mono hl h1, fun j v hj => gcell_mono hl (h2 j v hj)⟩⟩
def Kd.slice {α : Type} (k : Kd α) : Kd (List α) where
  sz := 1
  pos := by omega
  rep := fun h xs cs => ∃ A c, cs = [.slice A xs.length c] ∧ xs.length ≤ c ∧ c ≤ maxLen ∧ Leads k h A xs
  mono := fun hl ⟨A, c, h1, h2, h3, h4⟩ => ⟨A, c, h1, h2, h3, h4.mono hl⟩
  len := fun ⟨_, _, h, _⟩ => by rw [h]; rfl
  one := fun ⟨_, _, h, _⟩ u hu => by rw [h] at hu; simp at hu; subst hu; rfl
def Kd.pair {α β : Type} (a : Kd α) (b : Kd β) : Kd (α × β) where
  sz := a.sz + b.sz
  pos := by have := a.pos; omega
  rep := fun h x cs => ∃ c1 c2, cs = c1 ++ c2 ∧ a.rep h x.1 c1 ∧ b.rep h x.2 c2
  mono := fun hl ⟨c1, c2, h1, h2, h3⟩ => ⟨c1, c2, h1, a.mono hl h2, b.mono hl h3⟩
  len := fun ⟨c1, c2, h1, h2, h3⟩ => by rw [h1, List.length_append, a.len h2, b.len h3]
  one := fun ⟨c1, c2, h1, h2, h3⟩ u hu => by
    rw [h1] at hu
    rcases List.mem_append.1 hu with h | h
    · exact a.one h2 u h
    · exact b.one h3 u h
def Kd.iso {α β : Type} (a : Kd α) (g : β → α) : Kd β where
  sz := a.sz
  pos := a.pos
  rep := fun h x cs => a.rep h (g x) cs
  mono := fun hl h => a.mono hl h
  len := fun h => a.len h
  one := fun h => a.one h
structure Asrt where
  holds : Ghost → World → (Nat → Prop) → Prop
  mono : ∀ {h h' : Ghost} {w : World} {F : Nat → Prop}, Le h h' → holds h w F → holds h' w F
  far : ∀ {h : Ghost} {w w' : World} {F : Nat → Prop}, (∀ b, F b → w'.heap[b]? = w.heap[b]?) → holds h w F → holds h w' F
def emp : Asrt := ⟨fun _ _ _ => True, fun _ h => h, fun _ h => h⟩
def box (b : Nat) (T : TypeId) (cs : List Value) : Asrt where
  holds := fun _ w F => w.heap[b]? = some (.cells cs.toArray T (0, 0)) ∧ F b
  mono := fun _ h => h
  far := fun hf h => ⟨by rw [hf b h.2]; exact h.1, h.2⟩
def row {α : Type} (T : TypeId) (k : Kd α) (v : Value) (xs : List α) : Asrt where
  holds := fun h w F => ∃ cs, w.ownsRow 0 T k.sz v xs.length cs ∧ Elems k h xs cs ∧ ∀ g, v.ownBlock = some g → F g
  mono := fun hl ⟨cs, h1, h2, h3⟩ => ⟨cs, h1, ⟨h2.1, fun i x hi => k.mono hl (h2.2 i x hi)⟩, h3⟩
  far := fun {h w w' F} hf ⟨cs, h1, h2, h3⟩ => by
    refine ⟨cs, ⟨h1.1, ?_⟩, h2, h3⟩
    rcases h1.2 with h4 | ⟨g, cap, cur, hv, hb, hh, hr⟩
    · exact .inl h4
    · have hg : F g := h3 g (by rw [hv]; rfl)
      exact .inr ⟨g, cap, cur, hv, hb, by rw [hf g hg]; exact hh, hr⟩
def Sep (h : Ghost) (w : World) (U : Nat → Prop) (L : List Asrt) : Prop :=
  ∃ Fs : Nat → Nat → Prop, (∀ i A, L[i]? = some A → A.holds h w (Fs i) ∧ ∀ b, Fs i b → U b) ∧ ∀ i j, i < L.length → j < L.length → i ≠ j → ∀ b, Fs i b → ¬ Fs j b
structure Chg (w w' : World) (F : Nat → Prop) : Prop where
  os : w'.os = w.os
  tape : w'.tape = w.tape
  output : w'.output = w.output
  size : w.heap.size ≤ w'.heap.size
  block : ∀ b, b < w.heap.size → ¬ F b → w'.heap[b]? = w.heap[b]?
theorem Chg.mono {w w' : World} {F G : Nat → Prop} (h : Chg w w' F) (hg : ∀ b, F b → G b) : Chg w w' G := ⟨h.os, h.tape, h.output, h.size, fun b hb hn => h.block b hb (fun hf => hn (hg b hf))⟩
theorem Chg.of_below {w w' : World} (h : Below w.heap.size w w') : Chg w w' (fun _ => False) := ⟨h.os, h.tape, h.output, h.size, fun b hb _ => h.block b hb⟩
theorem Chg.below {w w' : World} (h : Chg w w' (fun _ => False)) : Below w.heap.size w w' := ⟨h.os, h.tape, h.output, h.size, fun b hb => h.block b hb (fun x => x)⟩
theorem Chg.alloc (w : World) (o : Obj) : Chg w (w.alloc o) (fun _ => False) := ⟨rfl, rfl, rfl, by simp, fun b hb _ => Below.heap_alloc w o b hb⟩
theorem Chg.refl (w : World) (F : Nat → Prop) : Chg w w F := ⟨rfl, rfl, rfl, Nat.le_refl _, fun _ _ _ => rfl⟩
theorem Chg.grown {w w' : World} {r : Option Nat} (h : w.grownBy w' r) : Chg w w' (fun b => r = some b) := ⟨h.os, h.tape, h.output, h.size, fun b hb hn => h.block b hb (fun e => hn e.symm)⟩
structure Bgn where
  B : Nat → Prop
  h0 : Ghost
def Ow (base : Bgn) (w0 : World) (b : Nat) : Prop := base.B b ∨ w0.heap.size ≤ b
def Uw (base : Bgn) (w0 : World) (h : Ghost) (w : World) : Nat → Prop := fun b => Ow base w0 b ∧ b < w.heap.size ∧ h b = none
structure St (base : Bgn) (w0 : World) (h : Ghost) (w : World) (L : List Asrt) : Prop where
  below : Chg w0 w base.B
  bsz : w0.heap.size ≤ w.heap.size
  ghost : Le h (hp w)
  dom : Le base.h0 h ∧ ∀ b o, h b = some o → base.h0 b = some o ∨ Ow base w0 b
  sep : Sep h w (Uw base w0 h w) L
section
variable {base : Bgn} {w0 w w' : World} {h : Ghost} {L : List Asrt}
theorem hp_lt {w : World} {b : Nat} {o : Obj} (h : hp w b = some o) : b < w.heap.size := by
  rcases Nat.lt_or_ge b w.heap.size with hlt | hge
  · exact hlt
  · unfold hp at h; rw [Array.getElem?_eq_none hge] at h; cases h
theorem Chg.on {w0 w w' : World} {B F : Nat → Prop} (h : Chg w0 w B) (k : Chg w w' F) (hF : ∀ b, F b → B b ∨ w0.heap.size ≤ b) : Chg w0 w' B :=
  ⟨k.os.trans h.os, k.tape.trans h.tape, k.output.trans h.output, Nat.le_trans h.size k.size, fun b hb hn => (k.block b (Nat.lt_of_lt_of_le hb h.size) (fun hf => (hF b hf).elim hn (fun h2 => by omega))).trans (h.block b hb hn)⟩
theorem St.upd (S : St base w0 h w L) {i : Nat} {A A' : Asrt} (hi : L[i]? = some A)
    (hm : ∀ F, A.holds h w F → (∀ b, F b → Uw base w0 h w b) → Chg w w' F ∧ ∃ F', A'.holds h w' F' ∧ ∀ b, F' b → F b ∨ (w.heap.size ≤ b ∧ b < w'.heap.size)) :
    St base w0 h w' (L.set i A') := by
  obtain ⟨Fs, hF, hD⟩ := S.sep
  obtain ⟨hA, hU⟩ := hF i A hi
  obtain ⟨hc, F', hA', hF'⟩ := hm _ hA hU
  have hlen : i < L.length := (List.getElem?_eq_some_iff.1 hi).1
  have hsame : ∀ b, b < w.heap.size → ¬ Fs i b → w'.heap[b]? = w.heap[b]? := hc.block
  have hfresh : ∀ b, w.heap.size ≤ b → h b = none := fun b hb => by
    cases e : h b with
    | none => rfl
    | some o => have := hp_lt (S.ghost b o e); omega
  refine ⟨?_, Nat.le_trans S.bsz hc.size, ?_, S.dom, ?_⟩
  · exact S.below.on hc fun b hf => (hU b hf).1
  · intro b o e
    have h1 := S.ghost b o e
    have hlt := hp_lt h1
    unfold hp at h1 ⊢
    rw [hsame b hlt (fun hf => by have := (hU b hf).2.2; rw [e] at this; cases this)]
    exact h1
  · refine ⟨fun j => if j = i then F' else Fs j, fun j B hj => ?_, fun j m hjl hml hjm b hb1 hb2 => ?_⟩
    · by_cases hji : j = i
      · subst hji
        rw [List.getElem?_set_self hlen] at hj
        injection hj with hj
        subst hj
        simp only [if_true]
        refine ⟨hA', fun b hb => ?_⟩
        rcases hF' b hb with hb | hb
        · exact ⟨(hU b hb).1, Nat.lt_of_lt_of_le (hU b hb).2.1 hc.size, (hU b hb).2.2⟩
        · exact ⟨.inr (Nat.le_trans S.bsz hb.1), hb.2, hfresh b hb.1⟩
      · rw [List.getElem?_set_ne (fun e => hji e.symm)] at hj
        obtain ⟨hB, hUB⟩ := hF j B hj
        have hjlen : j < L.length := (List.getElem?_eq_some_iff.1 hj).1
        simp only [if_neg hji]
        refine ⟨B.far (fun b hb => hsame b (hUB b hb).2.1 (fun hf => hD j i hjlen hlen hji b hb hf)) hB, fun b hb => ?_⟩
        exact ⟨(hUB b hb).1, Nat.lt_of_lt_of_le (hUB b hb).2.1 hc.size, (hUB b hb).2.2⟩
    · have hjl' : j < L.length := by simpa using hjl
      have hml' : m < L.length := by simpa using hml
      have key : ∀ q, q < L.length → q ≠ i → ∀ b, F' b → ¬ Fs q b := fun q hq hqi b hb hb' => by
        rcases hF' b hb with hb | hb
        · exact hD i q hlen hq (fun e => hqi e.symm) b hb hb'
        · have hQ := (hF q (L[q]) (List.getElem?_eq_getElem hq)).2 b hb'
          have := hQ.2.1; omega
      by_cases hji : j = i
      · subst hji
        have hmi : m ≠ j := fun e => hjm e.symm
        simp only [if_true] at hb1
        simp only [if_neg hmi] at hb2
        exact key m hml' hmi b hb1 hb2
      · simp only [if_neg hji] at hb1
        by_cases hmi : m = i
        · subst hmi
          simp only [if_true] at hb2
          exact key j hjl' hji b hb2 hb1
        · simp only [if_neg hmi] at hb2
          exact hD j m hjl' hml' hjm b hb1 hb2
theorem St.keep (S : St base w0 h w L) (hc : Chg w w' (fun _ => False)) : St base w0 h w' L := by
  obtain ⟨Fs, hF, hD⟩ := S.sep
  have hsame : ∀ b, b < w.heap.size → w'.heap[b]? = w.heap[b]? := fun b hb => hc.block b hb (fun x => x)
  refine ⟨S.below.on hc (fun b hf => hf.elim), Nat.le_trans S.bsz hc.size, ?_, S.dom, Fs, fun i A hi => ?_, hD⟩
  · intro b o e
    have h1 := S.ghost b o e
    unfold hp at h1 ⊢
    rw [hsame b (hp_lt h1)]; exact h1
  · obtain ⟨hA, hU⟩ := hF i A hi
    exact ⟨A.far (fun b hb => hsame b (hU b hb).2.1) hA, fun b hb => ⟨(hU b hb).1, Nat.lt_of_lt_of_le (hU b hb).2.1 hc.size, (hU b hb).2.2⟩⟩
theorem add_block (a : Addr) (n : Nat) : (a.add n).block = a.block := by unfold Addr.add; split <;> rfl
theorem add_add (a : Addr) (i j : Nat) : (a.add i).add j = a.add (i + j) := by
  unfold Addr.add
  by_cases hi : i = 0 <;> by_cases hj : j = 0 <;> simp [hi, hj, Nat.add_assoc]
theorem gcell_of_block {h : Ghost} {w : World} {a : Addr} (hb : h a.block = w.heap[a.block]?) : gcell h a = w.cell? a := by
  unfold gcell World.cell?
  rw [hb]
  cases w.heap[a.block]? with
  | none => rfl
  | some o => cases o <;> rfl
theorem Elems.leads {α : Type} {k : Kd α} {h h' : Ghost} {w : World} {xs : List α} {cs : List Value} {B : Nat} {T : TypeId} {A : Option Addr} {n c : Nat} (he : Elems k h xs cs) (hl : Le h h')
    (hown : w.ownsRow B T k.sz (.slice A n c) n cs) (hg : ∀ g, (Value.slice A n c).ownBlock = some g → h' g = w.heap[g]?) (hn : xs.length = n) : Leads k h' A xs := fun hne => by
  subst hn
  have hp : 0 < xs.length := List.length_pos_iff.2 hne
  rcases hown.2 with ⟨_, h0⟩ | ⟨g, cap, cur, hv, _, hh, _⟩
  · omega
  · injection hv with hA _ hc
    subst hA
    refine ⟨_, rfl, fun i x hi => ⟨_, k.mono hl (he.2 i x hi), fun j u hj => ?_⟩⟩
    rw [List.getElem?_take] at hj
    split at hj
    · rw [List.getElem?_drop] at hj
      have := hown.cells (g := g) rfl _ u hj
      rw [gcell_of_block (w := w) (by rw [add_block]; exact hg g rfl)]
      exact this
    · cases hj
theorem St.freeze {α : Type} {T : TypeId} {k : Kd α} {v : Value} {xs : List α} {i : Nat} (S : St base w0 h w L) (hi : L[i]? = some (row T k v xs)) :
    ∃ h', Le h h' ∧ St base w0 h' w (L.set i emp) ∧ k.slice.rep h' xs [v] := by
  obtain ⟨Fs, hF, hD⟩ := S.sep
  obtain ⟨⟨cs, hown, hel, hg⟩, hU⟩ := hF i _ hi
  have hlen : i < L.length := (List.getElem?_eq_some_iff.1 hi).1
  have hdis : ∀ b, Fs i b → h b = none := fun b hb => (hU b hb).2.2
  -- the new ghost: one block more
  have key : ∀ (h' : Ghost), Le h h' → (∀ g, v.ownBlock = some g → h' g = w.heap[g]?) → (∀ b, h' b = h b ∨ (Fs i b ∧ h' b = w.heap[b]?)) → St base w0 h' w (L.set i emp) ∧ k.slice.rep h' xs [v] := by
    intro h' hle hgb hcase
    refine ⟨⟨S.below, S.bsz, fun b o e => ?_, ⟨S.dom.1.trans hle, fun b o e => ?_⟩, fun j => if j = i then (fun _ => False) else Fs j, fun j A hj => ?_, fun j m hj hm hjm b h1 h2 => ?_⟩, ?_⟩
    · rcases hcase b with e' | ⟨_, e'⟩
      · rw [e'] at e; exact S.ghost b o e
      · rw [e'] at e; exact e
    · rcases hcase b with e' | ⟨hf, e'⟩
      · rw [e'] at e; exact S.dom.2 b o e
      · exact .inr (hU b hf).1
    · by_cases hji : j = i
      · subst hji
        rw [List.getElem?_set_self hlen] at hj
        injection hj with hj
        subst hj
        exact ⟨trivial, fun b hb => by simp at hb⟩
      · rw [List.getElem?_set_ne (fun e => hji e.symm)] at hj
        obtain ⟨hA, hUA⟩ := hF j A hj
        have hjl : j < L.length := (List.getElem?_eq_some_iff.1 hj).1
        simp only [if_neg hji]
        refine ⟨A.mono hle hA, fun b hb => ⟨(hUA b hb).1, (hUA b hb).2.1, ?_⟩⟩
        rcases hcase b with e' | ⟨hf, _⟩
        · rw [e']; exact (hUA b hb).2.2
        · exact (hD j i hjl hlen hji b hb hf).elim
    · simp only [List.length_set] at hj hm
      by_cases hji : j = i
      · simp [hji] at h1
      · by_cases hmi : m = i
        · simp [hmi] at h2
        · simp only [if_neg hji] at h1; simp only [if_neg hmi] at h2
          exact hD j m hj hm hjm b h1 h2
    · rcases hown.2 with ⟨hv, h0⟩ | ⟨g, cap, cur, hv, _, _, h1, h2, _⟩
      · have hx : xs = [] := List.eq_nil_of_length_eq_zero h0
        subst hx
        exact ⟨none, 0, by rw [hv]; rfl, by simp, by simp, fun hne => (hne rfl).elim⟩
      · subst hv
        exact ⟨_, cap, rfl, h1, h2, hel.leads hle hown hgb rfl⟩
  cases hv : v.ownBlock with
  | none => exact ⟨h, Le.refl h, key h (Le.refl h) (fun g e => by rw [hv] at e; cases e) (fun b => .inl rfl)⟩
  | some g =>
    have hfg : Fs i g := hg g hv
    refine ⟨fun b => if b = g then w.heap[b]? else h b, ?_, key _ ?_ ?_ ?_⟩
    · intro b o e
      have hne : b ≠ g := fun e' => by subst e'; rw [hdis b hfg] at e; cases e
      simp only [if_neg hne]; exact e
    · intro b o e
      have hne : b ≠ g := fun e' => by subst e'; rw [hdis b hfg] at e; cases e
      simp only [if_neg hne]; exact e
    · intro g' e; rw [hv] at e; injection e with e; subst e; simp
    · intro b
      by_cases hb : b = g
      · subst hb; exact .inr ⟨hfg, by simp⟩
      · exact .inl (by simp [hb])
end
theorem St.fresh {base : Bgn} {w0 w w' : World} {h : Ghost} {L : List Asrt} {A0 : Asrt} (S : St base w0 h w L) (hc : Chg w w' (fun _ => False)) (hA0 : A0.holds h w' fun b => w.heap.size ≤ b ∧ b < w'.heap.size) : St base w0 h w' (L ++ [A0]) := by
  have S' := S.keep hc
  obtain ⟨Fs, hF, hD⟩ := S.sep
  have hsame : ∀ b, b < w.heap.size → w'.heap[b]? = w.heap[b]? := fun b hb => hc.block b hb (fun x => x)
  have hfresh : ∀ b, w.heap.size ≤ b → h b = none := fun b hb => by
    cases e : h b with
    | none => rfl
    | some o => have := hp_lt (S.ghost b o e); omega
  refine ⟨S'.below, S'.bsz, S'.ghost, S'.dom, fun q => if q < L.length then Fs q else fun b => w.heap.size ≤ b ∧ b < w'.heap.size, fun q A hq => ?_, fun p q hp hq hpq b h1 h2 => ?_⟩
  · by_cases hql : q < L.length
    · rw [List.getElem?_append_left hql] at hq
      obtain ⟨hA, hU⟩ := hF q A hq
      simp only [if_pos hql]
      exact ⟨A.far (fun b hb => hsame b (hU b hb).2.1) hA, fun b hb => ⟨(hU b hb).1, Nat.lt_of_lt_of_le (hU b hb).2.1 hc.size, (hU b hb).2.2⟩⟩
    · rw [List.getElem?_append_right (by omega)] at hq
      have h0 : q - L.length = 0 := by
        have := (List.getElem?_eq_some_iff.1 hq).1
        simp at this; omega
      rw [h0] at hq
      simp only [List.getElem?_cons_zero, Option.some.injEq] at hq
      subst hq
      simp only [if_neg hql]
      exact ⟨hA0, fun b hb => ⟨.inr (Nat.le_trans S.bsz hb.1), hb.2, hfresh b hb.1⟩⟩
  · rw [List.length_append] at hp hq
    simp only [List.length_cons, List.length_nil] at hp hq
    by_cases hpl : p < L.length <;> by_cases hql : q < L.length
    · simp only [if_pos hpl] at h1; simp only [if_pos hql] at h2
      exact hD p q hpl hql hpq b h1 h2
    · simp only [if_pos hpl] at h1; simp only [if_neg hql] at h2
      have a1 := ((hF p _ (List.getElem?_eq_getElem hpl)).2 b h1).2.1
      have a2 := h2.1; omega
    · simp only [if_neg hpl] at h1; simp only [if_pos hql] at h2
      have a1 := ((hF q _ (List.getElem?_eq_getElem hql)).2 b h2).2.1
      have a2 := h1.1; omega
    · omega
end Gx
namespace Gx
open Go Go.RowKit
def aggD : TypeDesc → Bool
  | .struct _ | .array _ _ => true
  | _ => false
def tyInfo (P : Program) (T : TypeId) : Option (Nat × Nat × Bool × Option Value) :=
  match P.info? T, P.underlying T with
  | some i, some d => some (i.size, i.bytes, aggD d, i.zero)
  | _, _ => none
theorem tyInfo_parts {P : Program} {T : TypeId} {n b : Nat} {g : Bool} {z : Option Value} (h : tyInfo P T = some (n, b, g, z)) :
    ∃ i d, P.info? T = some i ∧ P.underlying T = some d ∧ i.size = n ∧ i.bytes = b ∧ aggD d = g ∧ i.zero = z := by
  unfold tyInfo at h
  split at h
  · rename_i i d hi hd
    simp only [Option.some.injEq, Prod.mk.injEq] at h
    exact ⟨i, d, hi, hd, h.1, h.2.1, h.2.2.1, h.2.2.2⟩
  · cases h
section
variable {P : Program} {w : World}
theorem run_isAgg {T : TypeId} {d : TypeDesc} (hd : P.underlying T = some d) : (isAgg T).run P w = .ok (aggD d) w := by
  simp only [isAgg, Sem.run_bind]
  rw [run_underlying hd]
  simp only [Result.andThen_ok]
  cases d <;> rfl
theorem rn_sizeOf {T : TypeId} {i : TypeInfo} (hi : P.info? T = some i) : (Go.sizeOf T).run P w = Result.ok i.size w := by
  simp [Go.sizeOf, typeInfo, hi, go_sem]
theorem run_loadCellsFrom (a : Addr) : ∀ (l : List Value) (i : Nat) (acc : Array Value), (∀ j u, l[j]? = some u → w.cell? (a.add (i + j)) = some u) →
    (loadCellsFrom a i l.length acc).run P w = .ok (acc ++ l.toArray) w
  | [], i, acc, _ => by simp [loadCellsFrom, go_sem]
  | v :: l, i, acc, h => by
    have h0 := h 0 v rfl
    have ih := run_loadCellsFrom a l (i + 1) (acc.push v) (fun j u hj => by have := h (j + 1) u (by simpa using hj); rwa [show i + 1 + j = i + (j + 1) by omega])
    simp only [List.length_cons, loadCellsFrom, Sem.run_bind]
    rw [show (load (a.add i)).run P w = .ok v w by
      unfold load
      simp only [Nat.add_zero] at h0
      simp only [Sem.run, h0]]
    simp only [Result.andThen_ok]
    rw [ih]
    simp
theorem run_loadCells {a : Addr} {l : List Value} {n : Nat} (hn : l.length = n) (h : ∀ j u, l[j]? = some u → w.cell? (a.add j) = some u) : (loadCells a n).run P w = .ok l.toArray w := by
  subst hn
  unfold loadCells
  rw [run_loadCellsFrom a l 0 #[] (fun j u hj => by rw [Nat.zero_add]; exact h j u hj)]
  simp
def packV (g : Bool) (cs : List Value) : Value := if g then .agg cs.toArray else cs.headD undef
theorem run_loadVar {T : TypeId} {n b : Nat} {g : Bool} {z : Option Value} {a : Addr} {cs : List Value} (ht : tyInfo P T = some (n, b, g, z)) (hn : cs.length = n) (h1 : g = false → n = 1)
    (h : ∀ j u, cs[j]? = some u → w.cell? (a.add j) = some u) : (loadVar T a).run P w = .ok (packV g cs) w := by
  obtain ⟨i, d, hi, hd, hs, _, hg, _⟩ := tyInfo_parts ht
  simp only [loadVar, Sem.run_bind, run_isAgg hd, Result.andThen_ok, hg]
  cases g with
  | true =>
    simp only [if_true, Sem.run_bind, rn_sizeOf hi, Result.andThen_ok, hs]
    rw [run_loadCells hn h]
    simp [packV, go_sem]
  | false =>
    have hn1 := h1 rfl
    match cs, hn.trans hn1 with
    | [v], _ =>
      have h0 := h 0 v rfl
      have : w.cell? a = some v := by simpa [Addr.add] using h0
      simp [packV, load, Sem.run, this]
def putBlock (w : World) (b : Nat) (T : TypeId) (cs : List Value) : World := { w with heap := w.heap.setIfInBounds b (.cells cs.toArray T (0, 0)) }
theorem putBlock_chg (w : World) (b : Nat) (T : TypeId) (cs : List Value) : Chg w (putBlock w b T cs) (fun x => x = b) where
  os := rfl
  tape := rfl
  output := rfl
  size := by simp [putBlock]
  block := fun x _ hn => by
    simp only [putBlock, Array.getElem?_setIfInBounds]
    rw [if_neg (fun e => hn e.symm)]
theorem putBlock_at {b : Nat} (hb : b < w.heap.size) (T : TypeId) (cs : List Value) : (putBlock w b T cs).heap[b]? = some (.cells cs.toArray T (0, 0)) := by
  simp [putBlock, hb]
theorem putBlock_put (w : World) (b : Nat) (T : TypeId) (cs ds : List Value) : putBlock (putBlock w b T cs) b T ds = putBlock w b T ds := by
  simp [putBlock, Array.setIfInBounds_setIfInBounds]
theorem setCell_box {b off : Nat} {T : TypeId} {cs : List Value} (hb : w.heap[b]? = some (.cells cs.toArray T (0, 0))) (v : Value) : w.setCell ⟨b, off, none⟩ v = putBlock w b T (cs.set off v) := by
  have hlt : b < w.heap.size := (Array.getElem?_eq_some_iff.1 hb).1
  unfold World.setCell putBlock
  congr 1
  apply Array.ext_getElem?
  intro i
  rw [Array.getElem?_modify, Array.getElem?_setIfInBounds]
  by_cases hi : b = i
  · subst hi
    rw [if_pos rfl, if_pos rfl, hb, if_pos hlt]
    simp
  · rw [if_neg hi, if_neg hi]
theorem cell_box {b off : Nat} {T : TypeId} {cs : List Value} (hb : w.heap[b]? = some (.cells cs.toArray T (0, 0))) : w.cell? ⟨b, off, none⟩ = cs[off]? := by
  simp [World.cell?, hb]
theorem frozen_box {b off : Nat} {T : TypeId} {cs : List Value} (hb : w.heap[b]? = some (.cells cs.toArray T (0, 0))) : w.frozen? ⟨b, off, none⟩ = false := by
  simp [World.frozen?, hb]
theorem run_store_box {b off : Nat} {T : TypeId} {cs : List Value} {v : Value} (hb : w.heap[b]? = some (.cells cs.toArray T (0, 0))) (ho : off < cs.length) (h1 : v.oneCell' = true) :
    (store ⟨b, off, none⟩ v).run P w = .ok () (putBlock w b T (cs.set off v)) := by
  rw [run_store P w _ v _ h1, cell_box hb, List.getElem?_eq_getElem ho]
  simp only [frozen_box hb]
  rw [setCell_box hb]
  rfl
def lput (cs : List Value) (off : Nat) : List Value → List Value
  | [] => cs
  | v :: vs => lput (cs.set off v) (off + 1) vs
theorem lput_length (vs : List Value) : ∀ (cs : List Value) (off : Nat), (lput cs off vs).length = cs.length := by
  induction vs with
  | nil => intro cs off; rfl
  | cons v vs ih => intro cs off; simp [lput, ih]
theorem lput_get (vs : List Value) : ∀ (cs : List Value) (off i : Nat), off + vs.length ≤ cs.length → (lput cs off vs)[i]? = if off ≤ i ∧ i < off + vs.length then vs[i - off]? else cs[i]? := by
  induction vs with
  | nil => intro cs off i h; rw [if_neg (by simp only [List.length_nil]; omega)]; rfl
  | cons v vs ih =>
    intro cs off i h
    simp only [List.length_cons] at h
    simp only [lput]
    rw [ih _ _ _ (by rw [List.length_set]; omega)]
    by_cases h1 : off = i
    · subst h1
      rw [if_neg (by omega), if_pos (by simp), List.getElem?_set_self (by omega)]
      simp
    · by_cases h2 : off + 1 ≤ i ∧ i < off + 1 + vs.length
      · rw [if_pos h2, if_pos (by simp; omega), show i - off = (i - (off + 1)) + 1 by omega, List.getElem?_cons_succ]
      · rw [if_neg h2, if_neg (by simp; omega), List.getElem?_set_ne h1]
theorem lput_eq (vs cs : List Value) (off : Nat) (h : off + vs.length ≤ cs.length) : lput cs off vs = cs.take off ++ vs ++ cs.drop (off + vs.length) := by
  apply List.ext_getElem?
  intro i
  rw [lput_get vs cs off i h]
  simp only [List.getElem?_append, List.length_append, List.length_take, List.getElem?_take, List.getElem?_drop]
  rw [Nat.min_eq_left (by omega)]
  by_cases h1 : i < off
  · rw [if_neg (by omega), if_pos (by omega), if_pos h1, if_pos h1]
  · by_cases h2 : i < off + vs.length
    · rw [if_pos (by omega), if_pos h2, if_neg h1]
    · rw [if_neg (by omega), if_neg h2]
      congr 1
      omega
theorem run_storeCells_box (vs : List Value) : ∀ (w : World) (b off i : Nat) (T : TypeId) (cs : List Value), w.heap[b]? = some (.cells cs.toArray T (0, 0)) → off + i + vs.length ≤ cs.length → (∀ u ∈ vs, u.oneCell' = true) →
    (storeCells ⟨b, off, none⟩ vs i).run P w = .ok () (putBlock w b T (lput cs (off + i) vs)) := by
  induction vs with
  | nil =>
    intro w b off i T cs hb hl h1
    have hlt : b < w.heap.size := (Array.getElem?_eq_some_iff.1 hb).1
    simp only [storeCells, lput]
    have : putBlock w b T cs = w := by
      unfold putBlock
      congr 1
      apply Array.ext_getElem?
      intro x
      rw [Array.getElem?_setIfInBounds]
      split
      · rename_i e; subst e; rw [hb]; try rw [if_pos hlt]
      · rfl
    rw [this]
    rfl
  | cons v vs ih =>
    intro w b off i T cs hb hl h1
    simp only [List.length_cons] at hl
    have hlt : b < w.heap.size := (Array.getElem?_eq_some_iff.1 hb).1
    have hadd : (⟨b, off, none⟩ : Addr).add i = ⟨b, off + i, none⟩ := by unfold Addr.add; split <;> simp_all
    simp only [storeCells, Sem.run_bind]
    rw [hadd, run_store_box hb (by omega) (h1 v (by simp))]
    simp only [Result.andThen_ok]
    rw [ih (putBlock w b T (cs.set (off + i) v)) b off (i + 1) T (cs.set (off + i) v) (putBlock_at hlt _ _) (by simp; omega) (fun u hu => h1 u (by simp [hu]))]
    rw [putBlock_put]
    rfl
theorem run_storeVar_box {b off : Nat} {T E : TypeId} {cs : List Value} {v : Value} {n by' : Nat} {g : Bool} {z : Option Value} (ht : tyInfo P T = some (n, by', g, z)) (hb : w.heap[b]? = some (.cells cs.toArray E (0, 0)))
    (hv : v.cells.size = n) (ho : off + n ≤ cs.length) (h1 : ∀ u ∈ v.cells.toList, u.oneCell' = true) :
    (storeVar T ⟨b, off, none⟩ v).run P w = .ok () (putBlock w b E (lput cs off v.cells.toList)) := by
  obtain ⟨i, d, hi, hd, hs, _, hg, _⟩ := tyInfo_parts ht
  simp only [storeVar, Sem.run_bind, rn_sizeOf hi, Result.andThen_ok]
  rw [if_neg (by rw [hs]; simp [hv])]
  have := run_storeCells_box (P := P) v.cells.toList w b off 0 E cs hb (by simp [hv]; omega) h1
  simpa [go_sem] using this
end
end Gx
namespace Gx
open Go Go.RowKit
set_option linter.unusedSimpArgs false
theorem in_i64 {x : Int} (h1 : -9223372036854775808 ≤ x) (h2 : x ≤ 9223372036854775807) : inK .i64 x := ⟨h1, h2⟩
theorem in_u8 {x : Int} (h1 : 0 ≤ x) (h2 : x ≤ 255) : inK .u8 x := ⟨h1, h2⟩
theorem in_u64 {x : Int} (h1 : 0 ≤ x) (h2 : x ≤ 18446744073709551615) : inK .u64 x := ⟨h1, h2⟩
theorem u64_lo {x : Int} (h : inK .u64 x) : 0 ≤ x := h.1
theorem u64_hi {x : Int} (h : inK .u64 x) : x ≤ 18446744073709551615 := h.2
theorem wrap_in {k : IntKind} {x : Int} (h : inK k x) : k.wrap x = x := by
  obtain ⟨h1, h2⟩ := h
  unfold IntKind.wrap
  cases k <;> simp only [IntKind.min, IntKind.max, IntKind.bits, IntKind.signed] at * <;> simp at * <;> omega
section
variable {P : Program} {w : World} {ρ : Env} {d : Option Tmp} {ty : TypeId} {pos : String} {af : Array Edge} {g : Option (Nat × Bool)} {x y : Operand}
theorem x_move {v : Value} (h : ev ρ x = v) : (execOp (ev ρ) ⟨d, .move x, ty, pos, af, g⟩).run P w = .ok (.value v) w := by subst h; rfl
theorem x_assign {v : Value} (h : ev ρ x = v) : (execOp (ev ρ) ⟨d, .assign x, ty, pos, af, g⟩).run P w = .ok (.value v) w := by subst h; rfl
theorem x_pick_t {c : Operand} {v : Value} (hc : ev ρ c = .bool true) (h : ev ρ x = v) : (execOp (ev ρ) ⟨d, .pick c x y, ty, pos, af, g⟩).run P w = .ok (.value v) w := by
  subst h; simp [execOp, hc, asBool, go_sem]
theorem x_pick_f {c : Operand} {v : Value} (hc : ev ρ c = .bool false) (h : ev ρ y = v) : (execOp (ev ρ) ⟨d, .pick c x y, ty, pos, af, g⟩).run P w = .ok (.value v) w := by
  subst h; simp [execOp, hc, asBool, go_sem]
theorem x_add {k : IntKind} {a b : Int} {t t2 : TypeId} (hx : ev ρ x = .int k a) (hy : ev ρ y = .int k b) (hr : inK k (a + b)) : (execOp (ev ρ) ⟨d, .binOp .add t x y t2, ty, pos, af, g⟩).run P w = .ok (.value (.int k (a + b))) w := by
  simp [execOp, hx, hy, eqGuard, binOp, Op.intArith, wrap_in hr, go_sem]
theorem x_sub {k : IntKind} {a b : Int} {t t2 : TypeId} (hx : ev ρ x = .int k a) (hy : ev ρ y = .int k b) (hr : inK k (a - b)) : (execOp (ev ρ) ⟨d, .binOp .sub t x y t2, ty, pos, af, g⟩).run P w = .ok (.value (.int k (a - b))) w := by
  simp [execOp, hx, hy, eqGuard, binOp, Op.intArith, wrap_in hr, go_sem]
theorem x_mul {k : IntKind} {a b : Int} {t t2 : TypeId} (hx : ev ρ x = .int k a) (hy : ev ρ y = .int k b) (hr : inK k (a * b)) : (execOp (ev ρ) ⟨d, .binOp .mul t x y t2, ty, pos, af, g⟩).run P w = .ok (.value (.int k (a * b))) w := by
  simp [execOp, hx, hy, eqGuard, binOp, Op.intArith, wrap_in hr, go_sem]
theorem x_quo {k : IntKind} {a b : Int} {t t2 : TypeId} (hx : ev ρ x = .int k a) (hy : ev ρ y = .int k b) (ha : 0 ≤ a) (hb : 0 < b) (hr : inK k (a / b)) : (execOp (ev ρ) ⟨d, .binOp .quo t x y t2, ty, pos, af, g⟩).run P w = .ok (.value (.int k (a / b))) w := by
  have h0 : b ≠ 0 := by omega
  simp [execOp, hx, hy, eqGuard, binOp, Op.intDiv, h0, Int.tdiv_eq_ediv_of_nonneg ha, wrap_in hr, go_sem]
theorem x_rem {k : IntKind} {a b : Int} {t t2 : TypeId} (hx : ev ρ x = .int k a) (hy : ev ρ y = .int k b) (ha : 0 ≤ a) (hb : 0 < b) : (execOp (ev ρ) ⟨d, .binOp .rem t x y t2, ty, pos, af, g⟩).run P w = .ok (.value (.int k (a % b))) w := by
  have h0 : b ≠ 0 := by omega
  simp [execOp, hx, hy, eqGuard, binOp, Op.intDiv, h0, Int.tmod_eq_emod_of_nonneg ha, go_sem]
theorem x_lss {k : IntKind} {a b : Int} {t t2 : TypeId} (hx : ev ρ x = .int k a) (hy : ev ρ y = .int k b) : (execOp (ev ρ) ⟨d, .binOp .lss t x y t2, ty, pos, af, g⟩).run P w = .ok (.value (.bool (decide (a < b)))) w := by
  simp [execOp, hx, hy, eqGuard, binOp, Op.intCmp, go_sem]
theorem x_leq {k : IntKind} {a b : Int} {t t2 : TypeId} (hx : ev ρ x = .int k a) (hy : ev ρ y = .int k b) : (execOp (ev ρ) ⟨d, .binOp .leq t x y t2, ty, pos, af, g⟩).run P w = .ok (.value (.bool (decide (a ≤ b)))) w := by
  simp [execOp, hx, hy, eqGuard, binOp, Op.intCmp, go_sem]
theorem x_gtr {k : IntKind} {a b : Int} {t t2 : TypeId} (hx : ev ρ x = .int k a) (hy : ev ρ y = .int k b) : (execOp (ev ρ) ⟨d, .binOp .gtr t x y t2, ty, pos, af, g⟩).run P w = .ok (.value (.bool (decide (b < a)))) w := by
  simp [execOp, hx, hy, eqGuard, binOp, Op.intCmp, go_sem]
theorem x_geq {k : IntKind} {a b : Int} {t t2 : TypeId} (hx : ev ρ x = .int k a) (hy : ev ρ y = .int k b) : (execOp (ev ρ) ⟨d, .binOp .geq t x y t2, ty, pos, af, g⟩).run P w = .ok (.value (.bool (decide (b ≤ a)))) w := by
  simp [execOp, hx, hy, eqGuard, binOp, Op.intCmp, go_sem]
theorem x_eql {k : IntKind} {a b : Int} {t t2 : TypeId} (hx : ev ρ x = .int k a) (hy : ev ρ y = .int k b) : (execOp (ev ρ) ⟨d, .binOp .eql t x y t2, ty, pos, af, g⟩).run P w = .ok (.value (.bool (decide (a = b)))) w := by
  simp [execOp, hx, hy, eqGuard, binOp, Op.intCmp, go_sem]; rfl
theorem x_neq {k : IntKind} {a b : Int} {t t2 : TypeId} (hx : ev ρ x = .int k a) (hy : ev ρ y = .int k b) : (execOp (ev ρ) ⟨d, .binOp .neq t x y t2, ty, pos, af, g⟩).run P w = .ok (.value (.bool (decide (a ≠ b)))) w := by
  simp [execOp, hx, hy, eqGuard, binOp, Op.intCmp, go_sem]; rfl
theorem x_not {b : Bool} {t : TypeId} (hx : ev ρ x = .bool b) : (execOp (ev ρ) ⟨d, .unOp .not t x, ty, pos, af, g⟩).run P w = .ok (.value (.bool (!b))) w := by
  simp [execOp, hx, Op.unary, go_sem]
theorem x_conv {k k' : IntKind} {a : Int} {s t : TypeId} {D : TypeDesc} (hs : P.underlying s = some D) (ht : P.underlying t = some (.int k')) (hx : ev ρ x = .int k a) (hr : inK k' a) : (execOp (ev ρ) ⟨d, .convert s t x, ty, pos, af, g⟩).run P w = .ok (.value (.int k' a)) w := by
  simp [execOp, hx, convert, run_underlying hs, run_underlying ht, Conv.intToInt, wrap_in hr, go_sem]
theorem x_conv_wrap {k k' : IntKind} {a : Int} {s t : TypeId} {D : TypeDesc} (hs : P.underlying s = some D) (ht : P.underlying t = some (.int k')) (hx : ev ρ x = .int k a) : (execOp (ev ρ) ⟨d, .convert s t x, ty, pos, af, g⟩).run P w = .ok (.value (.int k' (k'.wrap a))) w := by
  simp [execOp, hx, convert, run_underlying hs, run_underlying ht, Conv.intToInt, go_sem]
theorem x_extract {vs : List Value} {v : Value} {j : Nat} (hx : ev ρ x = .tuple vs.toArray) (hj : vs[j]? = some v) : (execOp (ev ρ) ⟨d, .extract x j, ty, pos, af, g⟩).run P w = .ok (.value v) w := by
  simp [execOp, hx, Instr.extract, hj, go_sem]
theorem x_len_slice {A : Option Addr} {n c : Nat} {t : TypeId} {E : TypeId} (ht : P.underlying t = some (.slice E)) (hx : ev ρ x = .slice A n c) : (execOp (ev ρ) ⟨d, .call ⟨.builtin .len, #[x], #[t]⟩, ty, pos, af, g⟩).run P w = .ok (.value (.int .i64 n)) w := by
  simp [execOp, resolve, invoke, builtin, Builtin.len_, run_underlying ht, hx, goInt, go_sem]
theorem x_len_string {s : ByteArray} {t : TypeId} (ht : P.underlying t = some .string) (hx : ev ρ x = .string s) : (execOp (ev ρ) ⟨d, .call ⟨.builtin .len, #[x], #[t]⟩, ty, pos, af, g⟩).run P w = .ok (.value (.int .i64 s.size)) w := by
  simp [execOp, resolve, invoke, builtin, Builtin.len_, run_underlying ht, hx, goInt, go_sem]
theorem x_makeFunc {fn : Fn} {fs cs : Array Operand} {fv cv : Array Value} (hf : fs.map (ev ρ) = fv) (hc : cs.map (ev ρ) = cv) : (execOp (ev ρ) ⟨d, .makeFunc fn fs cs, ty, pos, af, g⟩).run P w = .ok (.value (.func fn fv cv)) w := by
  subst hf; subst hc; simp [execOp, Instr.makeFunc, go_sem]
def Callable (P : Program) (f : FuncId) : Prop := ∃ fn : Func, P.funcs[f]? = some fn ∧ fn.body.isNone = false ∧ (fn.name == "runtime.NumGoroutine") = false
theorem x_call {fo : Operand} {f : FuncId} {al : Array Operand} {ts : Array TypeId} {cap args : Array Value} (hf : Callable P f)
    (ho : ev ρ fo = .func (.func f) #[] cap) (ha : al.map (ev ρ) ++ cap = args) : (execOp (ev ρ) ⟨d, .call ⟨.value fo, al, ts⟩, ty, pos, af, g⟩).run P w = .ok (.enter f args) w := by
  subst ha
  obtain ⟨fn, hf, hb, hn⟩ := hf
  have h1 : ¬ fn.name = "runtime.NumGoroutine" := by simpa using hn
  have h2 : ¬ fn.body = none := by intro e; rw [e] at hb; cases hb
  simp [execOp, resolve, ho, Deferred.ofValue, invoke, callFunc, program, Sem.run, hf, h1, h2, go_sem]
end
end Gx
namespace Gx
open Go Go.RowKit
set_option linter.unusedSimpArgs false
section
variable {P : Program} {f n : Nat} {k : List Item} {ρ : Env} {w : World} {R : Ending → World → Prop} {ops : Array Oper} {rest : List Nat} {i : Nat}
variable {d : Tmp} {ty : TypeId} {pos : String} {af : Array Edge} {x y : Operand} {op : Op}
variable {base : Bgn} {w0 : World} {h : Ghost} {L : List Asrt}
theorem box_new (w : World) (T : TypeId) (cs : List Value) (h : Ghost) : (box w.heap.size T cs).holds h (w.alloc (.cells cs.toArray T)) (fun b => b = w.heap.size) := by
  refine ⟨?_, rfl⟩
  show (w.heap.push (.cells cs.toArray T))[w.heap.size]? = _
  simp
theorem St.alloc (S : St base w0 h w L) (T : TypeId) (cs : List Value) : St base w0 h (w.alloc (.cells cs.toArray T)) (L ++ [box w.heap.size T cs]) :=
  S.fresh (Chg.alloc w _) ⟨(box_new w T cs h).1, by simp⟩
theorem zero_cells {T : TypeId} {n b : Nat} {g : Bool} {z : Value} (ht : tyInfo P T = some (n, b, g, some z)) : (zeroValue T).run P w = .ok z w := by
  obtain ⟨i, dd, hi, _, _, _, _, hz⟩ := tyInfo_parts ht
  simp [zeroValue, typeInfo, hi, hz, go_sem]
theorem St.box_at {j b : Nat} {T : TypeId} {cs : List Value} (S : St base w0 h w L) (hj : L[j]? = some (box b T cs)) : w.heap[b]? = some (.cells cs.toArray T (0, 0)) := by
  obtain ⟨Fs, hF, _⟩ := S.sep
  exact ((hF j _ hj).1).1
theorem x_indexAddr_arr {dd : Option Tmp} {g : Option (Nat × Bool)} {b off len : Nat} {q : Int} {T E : TypeId} {kk : IntKind} {m b' : Nat} {gg : Bool} {z : Option Value} (ht : P.underlying T = some (.array len E)) (hs : tyInfo P E = some (m, b', gg, z))
    (hx : ev ρ x = .pointer (some ⟨b, off, none⟩)) (hy : ev ρ y = .int kk q) (h0 : 0 ≤ q) (h1 : q < len) : (execOp (ev ρ) ⟨dd, .indexAddr T x y, ty, pos, af, g⟩).run P w = .ok (.value (.pointer (some ⟨b, off + q.toNat * m, none⟩))) w := by
  obtain ⟨ii, d2, hi, hd2, hsz, _, _, _⟩ := tyInfo_parts hs
  have hadd : (⟨b, off, none⟩ : Addr).add (q.toNat * m) = ⟨b, off + q.toNat * m, none⟩ := by unfold Addr.add; split <;> simp_all
  simp [execOp, hx, hy, Instr.indexAt, asIntOf, Instr.sureAddr, run_underlying ht, rn_sizeOf hi, hsz, h0, h1, hadd, go_sem]
end
end Gx
namespace Gx
open Go Go.RowKit
set_option linter.unusedSimpArgs false
set_option linter.unusedSectionVars false
set_option linter.unusedVariables false
def resOne (tmps : Array Value) : ResultVar → Sem Value
  | .tmp t => pure (tmps.getD t undef)
  | .cell a t => do loadVar t (← asAddr (tmps.getD a undef))
section
variable {P : Program} {f n : Nat} {k : List Item} {ρ : Env} {w : World} {R : Ending → World → Prop} {base : Bgn} {w0 : World} {h : Ghost} {L : List Asrt}
theorem results_eq (fn : Func) (tmps : Array Value) : results fn tmps = (do let vs ← fn.results.mapM (resOne tmps); pure (if h : vs.size = 1 then vs[0] else .tuple vs)) := by
  have e : (fun r : ResultVar => match r with | .tmp t => (pure (tmps.getD t undef) : Sem Value) | .cell a t => do loadVar t (← asAddr (tmps.getD a undef))) = resOne tmps := by
    funext r
    cases r <;> rfl
  rw [← e]
  rfl
end
def at_ {α : Type} [Inhabited α] (xs : List α) (i : Int) : α := xs.getD i.toNat default
theorem at_some {α : Type} [Inhabited α] {xs : List α} {i : Int} (h0 : 0 ≤ i) (h1 : i < (xs.length : Int)) : xs[i.toNat]? = some (at_ xs i) := by
  unfold at_
  rw [List.getD_eq_getElem?_getD, List.getElem?_eq_getElem (by omega)]
  rfl
def Seg {α : Type} (k : Kd α) (h : Ghost) (x : α) (ad : Addr) : Prop := ∃ seg, k.rep h x seg ∧ ∀ j u, seg[j]? = some u → gcell h (ad.add j) = some u
theorem Leads.seg {α : Type} [Inhabited α] {k : Kd α} {h : Ghost} {A : Option Addr} {xs : List α} (hl : Leads k h A xs) {i : Int} (h0 : 0 ≤ i) (h1 : i < (xs.length : Int)) : ∃ ad, A = some ad ∧ Seg k h (at_ xs i) (ad.add (i.toNat * k.sz)) := by
  obtain ⟨ad, e, hx⟩ := hl (by intro e; subst e; simp at h1; omega)
  obtain ⟨seg, h2, h3⟩ := hx _ _ (at_some h0 h1)
  exact ⟨ad, e, seg, h2, fun j u hj => by rw [add_add]; exact h3 j u hj⟩
def AtOwn (v : Value) (sz : Nat) (i : Int) (ad : Addr) : Prop := ∃ g, v.ownBlock = some g ∧ ad = ⟨g, i.toNat * sz, none⟩
section
variable {P : Program} {f n : Nat} {k : List Item} {ρ : Env} {w : World} {R : Ending → World → Prop} {ops : Array Oper} {rest : List Nat} {i : Nat}
variable {d : Tmp} {ty : TypeId} {pos : String} {af : Array Edge} {x y : Operand} {op : Op}
variable {base : Bgn} {w0 : World} {h : Ghost} {L : List Asrt}
variable {α : Type} [Inhabited α] {kd : Kd α} {xs : List α}
theorem x_indexAddr_slice {A : Addr} {len cap : Nat} {q : Int} {T E : TypeId} {kk : IntKind} {dd : Option Tmp} {g : Option (Nat × Bool)} {m b' : Nat} {gg : Bool} {z : Option Value} (ht : P.underlying T = some (.slice E)) (hs : tyInfo P E = some (m, b', gg, z))
    (hx : ev ρ x = .slice (some A) len cap) (hy : ev ρ y = .int kk q) (h0 : 0 ≤ q) (h1 : q < len) : (execOp (ev ρ) ⟨dd, .indexAddr T x y, ty, pos, af, g⟩).run P w = .ok (.value (.pointer (some (A.add (q.toNat * m))))) w := by
  obtain ⟨ii, d2, hi, hd2, hsz, _, _, _⟩ := tyInfo_parts hs
  simp [execOp, hx, hy, Instr.indexAt, asIntOf, run_underlying ht, rn_sizeOf hi, hsz, h0, h1, go_sem]
theorem St.row_at {j : Nat} {T : TypeId} {v : Value} (S : St base w0 h w L) (hj : L[j]? = some (row T kd v xs)) : ∃ cs, w.ownsRow 0 T kd.sz v xs.length cs ∧ Elems kd h xs cs := by
  obtain ⟨Fs, hF, _⟩ := S.sep
  obtain ⟨⟨cs, h1, h2, _⟩, _⟩ := hF j _ hj
  exact ⟨cs, h1, h2⟩
theorem St.row_val {j : Nat} {T : TypeId} {v : Value} (S : St base w0 h w L) (hj : L[j]? = some (row T kd v xs)) : ∃ A c, v = .slice A xs.length c ∧ xs.length ≤ c ∧ c ≤ maxLen := by
  obtain ⟨cs, h1, _⟩ := S.row_at hj
  rcases h1.2 with ⟨hv, h0⟩ | ⟨g, cap, cur, hv, _, _, hl, hc, _⟩
  · exact ⟨none, 0, by rw [hv, h0], by omega, by simp⟩
  · exact ⟨_, cap, hv, hl, hc⟩
theorem St.row_leads {j : Nat} {T : TypeId} {A : Option Addr} {m c : Nat} (S : St base w0 h w L) (hj : L[j]? = some (row T kd (.slice A m c) xs)) : Leads kd (hp w) A xs := by
  obtain ⟨cs, h1, h2⟩ := S.row_at hj
  have hm : xs.length = m := by
    rcases h1.2 with ⟨hv, h0⟩ | ⟨g, cap, cur, hv, _⟩
    · injection hv with _ hm _; omega
    · injection hv with _ hm _; exact hm.symm
  subst hm
  exact h2.leads S.ghost h1 (fun g _ => rfl) rfl
end
end Gx
namespace Gx
open Go Go.RowKit
set_option linter.unusedSimpArgs false
set_option linter.unusedSectionVars false
set_option linter.unusedVariables false
theorem drop_take_set {α : Type} {k : Kd α} {h : Ghost} {xs : List α} {cs seg : List Value} {i : Nat} {x : α} (he : Elems k h xs cs) (hi : i < xs.length) (hx : k.rep h x seg) : Elems k h (xs.set i x) (lput cs (i * k.sz) seg) := by
  have hl := k.len hx
  have hfit : i * k.sz + k.sz ≤ cs.length := by rw [he.1, ← Nat.succ_mul]; exact Nat.mul_le_mul_right _ hi
  refine ⟨by rw [lput_length, he.1, List.length_set], fun j y hj => ?_⟩
  have hjl : j < xs.length := by have := (List.getElem?_eq_some_iff.1 hj).1; simpa using this
  by_cases hji : j = i
  · subst hji
    rw [List.getElem?_set_self hjl] at hj
    injection hj with hj
    subst hj
    have : ((lput cs (j * k.sz) seg).drop (j * k.sz)).take k.sz = seg := by
      apply List.ext_getElem?
      intro q
      rw [List.getElem?_take]
      split
      · rw [List.getElem?_drop, lput_get seg cs _ _ (by omega), if_pos (by omega)]
        congr 1; omega
      · rw [List.getElem?_eq_none (by omega)]
    rw [this]; exact hx
  · rw [List.getElem?_set_ne (fun e => hji e.symm)] at hj
    have : ((lput cs (i * k.sz) seg).drop (j * k.sz)).take k.sz = (cs.drop (j * k.sz)).take k.sz := by
      apply List.ext_getElem?
      intro q
      rw [List.getElem?_take, List.getElem?_take]
      split
      · rw [List.getElem?_drop, List.getElem?_drop, lput_get seg cs _ _ (by omega), if_neg]
        rintro ⟨h1, h2⟩
        rcases Nat.lt_or_gt_of_ne hji with hlt | hgt
        · have : (j + 1) * k.sz ≤ i * k.sz := Nat.mul_le_mul_right _ hlt
          rw [Nat.succ_mul] at this; omega
        · have : (i + 1) * k.sz ≤ j * k.sz := Nat.mul_le_mul_right _ hgt
          rw [Nat.succ_mul] at this; omega
      · rfl
    rw [this]; exact he.2 j y hj
theorem Elems.app {α : Type} {k : Kd α} {h : Ghost} {xs ys : List α} {cs ds : List Value} (hx : Elems k h xs cs) (hy : Elems k h ys ds) : Elems k h (xs ++ ys) (cs ++ ds) := by
  refine ⟨by rw [List.length_append, List.length_append, hx.1, hy.1, Nat.add_mul], fun i z hi => ?_⟩
  by_cases hlt : i < xs.length
  · rw [List.getElem?_append_left hlt] at hi
    have hfit : i * k.sz + k.sz ≤ cs.length := by rw [hx.1, ← Nat.succ_mul]; exact Nat.mul_le_mul_right _ hlt
    rw [List.drop_append_of_le_length (by omega), List.take_append_of_le_length (by rw [List.length_drop]; omega)]
    exact hx.2 i z hi
  · rw [List.getElem?_append_right (by omega)] at hi
    have e : i * k.sz = cs.length + (i - xs.length) * k.sz := by rw [hx.1, ← Nat.add_mul]; congr 1; omega
    rw [e, List.drop_append]
    simp only [List.drop_eq_nil_of_le (show cs.length ≤ cs.length + (i - xs.length) * k.sz by omega), List.nil_append]
    rw [show cs.length + (i - xs.length) * k.sz - cs.length = (i - xs.length) * k.sz by omega]
    exact hy.2 _ z hi
theorem Elems.nil {α : Type} (k : Kd α) (h : Ghost) : Elems k h [] [] := ⟨by simp, fun i x hi => by simp at hi⟩
theorem Elems.one {α : Type} {k : Kd α} {h : Ghost} {xs : List α} {cs : List Value} (he : Elems k h xs cs) : ∀ u ∈ cs, u.oneCell' = true := by
  intro u hu
  obtain ⟨q, hq, rfl⟩ := List.mem_iff_getElem.1 hu
  have hp := k.pos
  have hql : q / k.sz < xs.length := by rw [Nat.div_lt_iff_lt_mul hp, ← he.1]; exact hq
  refine k.one (he.2 (q / k.sz) _ (List.getElem?_eq_getElem hql)) _ ?_
  rw [List.mem_iff_getElem?]
  refine ⟨q % k.sz, ?_⟩
  rw [List.getElem?_take, if_pos (Nat.mod_lt _ hp), List.getElem?_drop, Nat.mul_comm, Nat.div_add_mod, List.getElem?_eq_getElem hq]
theorem Elems.single {α : Type} {k : Kd α} {h : Ghost} {x : α} {cs : List Value} (hx : k.rep h x cs) : Elems k h [x] cs := by
  refine ⟨by rw [k.len hx]; simp, fun i y hi => ?_⟩
  cases i with
  | zero =>
    simp only [List.getElem?_cons_zero, Option.some.injEq] at hi
    subst hi
    rw [Nat.zero_mul, List.drop_zero, List.take_of_length_le (by rw [k.len hx]; exact Nat.le_refl _)]; exact hx
  | succ i => simp at hi
theorem Elems.cons {α : Type} {k : Kd α} {h : Ghost} {x : α} {xs : List α} {cs ds : List Value} (hx : k.rep h x cs) (hy : Elems k h xs ds) : Elems k h (x :: xs) (cs ++ ds) := (Elems.single hx).app hy
theorem Elems.take_ {α : Type} {k : Kd α} {h : Ghost} {xs : List α} {cs : List Value} (he : Elems k h xs cs) (m : Nat) : Elems k h (xs.take m) (cs.take (m * k.sz)) := by
  refine ⟨?_, fun i x hi => ?_⟩
  · rw [List.length_take, List.length_take, he.1]
    rcases Nat.le_total m xs.length with hle | hle
    · rw [Nat.min_eq_left hle, Nat.min_eq_left (Nat.mul_le_mul_right _ hle)]
    · rw [Nat.min_eq_right hle, Nat.min_eq_right (Nat.mul_le_mul_right _ hle)]
  · rw [List.getElem?_take] at hi
    split at hi
    · rename_i him
      have : (i + 1) * k.sz ≤ m * k.sz := Nat.mul_le_mul_right _ him
      rw [Nat.succ_mul] at this
      rw [List.drop_take, List.take_take, Nat.min_eq_left (by omega)]
      exact he.2 i x hi
    · cases hi
section
variable {P : Program} {f n : Nat} {k : List Item} {ρ : Env} {w : World} {R : Ending → World → Prop} {ops : Array Oper} {rest : List Nat} {i : Nat}
variable {d : Tmp} {ty : TypeId} {pos : String} {af : Array Edge} {x y : Operand} {op : Op}
variable {base : Bgn} {w0 : World} {h : Ghost} {L : List Asrt}
variable {α : Type} [Inhabited α] {kd : Kd α} {xs : List α}
theorem St.row_add {w' : World} {T : TypeId} {v : Value} {cs : List Value} (S : St base w0 h w L) (hc : Chg w w' (fun _ => False)) (hown : w'.ownsRow w.heap.size T kd.sz v xs.length cs) (hel : Elems kd h xs cs) : St base w0 h w' (L ++ [row T kd v xs]) := by
  have S' := S.keep hc
  obtain ⟨Fs, hF, hD⟩ := S.sep
  have hsame : ∀ b, b < w.heap.size → w'.heap[b]? = w.heap[b]? := fun b hb => hc.block b hb (fun x => x)
  have hfresh : ∀ b, w.heap.size ≤ b → h b = none := fun b hb => by
    cases e : h b with
    | none => rfl
    | some o => have := hp_lt (S.ghost b o e); omega
  have hlt := hown.lt
  refine ⟨S'.below, S'.bsz, S'.ghost, S'.dom, fun q => if q < L.length then Fs q else fun b => v.ownBlock = some b, fun q A hq => ?_, fun p q hp hq hpq b h1 h2 => ?_⟩
  · by_cases hql : q < L.length
    · rw [List.getElem?_append_left hql] at hq
      obtain ⟨hA, hU⟩ := hF q A hq
      simp only [if_pos hql]
      exact ⟨A.far (fun b hb => hsame b (hU b hb).2.1) hA, fun b hb => ⟨(hU b hb).1, Nat.lt_of_lt_of_le (hU b hb).2.1 hc.size, (hU b hb).2.2⟩⟩
    · rw [List.getElem?_append_right (by omega)] at hq
      have h0 : q - L.length = 0 := by
        have := (List.getElem?_eq_some_iff.1 hq).1
        simp at this; omega
      rw [h0] at hq
      simp only [List.getElem?_cons_zero, Option.some.injEq] at hq
      subst hq
      simp only [if_neg hql]
      refine ⟨⟨cs, ⟨hown.1, ?_⟩, hel, fun g hg => hg⟩, fun b hb => ?_⟩
      · rcases hown.2 with h4 | ⟨g, cap, cur, hv, hb, hr⟩
        · exact .inl h4
        · exact .inr ⟨g, cap, cur, hv, Nat.zero_le _, hr⟩
      · have := hlt b hb
        exact ⟨.inr (Nat.le_trans S.bsz this.1), this.2, hfresh b this.1⟩
  · rw [List.length_append] at hp hq
    simp only [List.length_cons, List.length_nil] at hp hq
    by_cases hpl : p < L.length <;> by_cases hql : q < L.length
    · simp only [if_pos hpl] at h1; simp only [if_pos hql] at h2
      exact hD p q hpl hql hpq b h1 h2
    · simp only [if_pos hpl] at h1; simp only [if_neg hql] at h2
      have a1 := ((hF p _ (List.getElem?_eq_getElem hpl)).2 b h1).2.1
      have a2 := (hlt b h2).1; omega
    · simp only [if_neg hpl] at h1; simp only [if_pos hql] at h2
      have a1 := ((hF q _ (List.getElem?_eq_getElem hql)).2 b h2).2.1
      have a2 := (hlt b h1).1; omega
    · omega
end
end Gx
namespace Gx
open Go Go.RowKit
set_option linter.unusedSimpArgs false
set_option linter.unusedSectionVars false
set_option linter.unusedVariables false
section
variable {P : Program} {f n : Nat} {k : List Item} {ρ : Env} {w : World} {R : Ending → World → Prop} {ops : Array Oper} {rest : List Nat} {i : Nat}
variable {d : Tmp} {ty : TypeId} {pos : String} {af : Array Edge} {x y : Operand} {op : Op}
variable {base : Bgn} {w0 : World} {h : Ghost} {L : List Asrt}
variable {α : Type} [Inhabited α] {kd : Kd α} {xs : List α}
theorem St.row_nil (S : St base w0 h w L) (T : TypeId) (kd : Kd α) : St base w0 h w (L ++ [row T kd (.slice none 0 0) []]) :=
  S.row_add (kd := kd) (xs := []) (cs := []) (Chg.refl w _) (World.ownsRow_nil w _ T kd.sz) (Elems.nil kd h)
theorem made_get {z : List Value} {sz m : Nat} (hz : z.length = sz) (h0 : 0 < sz) (i : Nat) (hi : i < m) : ((madeCells z.toArray (m * sz)).toList.drop (i * sz)).take sz = z := by
  have hfit : i * sz + sz ≤ m * sz := by rw [← Nat.succ_mul]; exact Nat.mul_le_mul_right _ hi
  have hlen : (madeCells z.toArray (m * sz)).toList.length = m * sz := by rw [Array.length_toList, size_madeCells]
  apply List.ext_getElem?
  intro q
  rw [List.getElem?_take]
  split
  · rename_i hq
    rw [List.getElem?_drop, List.getElem?_eq_getElem (by omega), List.getElem?_eq_getElem (by omega)]
    congr 1
    simp only [madeCells, Array.getElem_toList, Array.getElem_map, Array.getElem_range, List.size_toArray, hz]
    have : (i * sz + q) % sz = q := by rw [Nat.add_comm, Nat.add_mul_mod_self_right, Nat.mod_eq_of_lt hq]
    rw [this]
    simp [hz, hq]
  · rw [List.getElem?_eq_none (by omega)]
theorem made_elems {z : α} {zc : List Value} {m : Nat} (hr : kd.rep h z zc) : Elems kd h (List.replicate m z) (madeCells zc.toArray (m * kd.sz)).toList := by
  refine ⟨by rw [Array.length_toList, size_madeCells, List.length_replicate], fun i x hi => ?_⟩
  rw [List.getElem?_replicate] at hi
  split at hi
  · injection hi with hi
    subst hi
    rw [made_get (kd.len hr) kd.pos i (by assumption)]
    exact hr
  · cases hi
theorem run_build_slice {T E : TypeId} {m b' len : Nat} {gg : Bool} {zv : Value} {pv : List (Nat × Value)} {cs : List Value} {zc : Array Value} (hT : P.underlying T = some (.slice E))
    (ht : tyInfo P E = some (m, b', gg, some zv)) (hsm : len * m ≤ 100000) (hz : (if len * m = 0 then #[] else zv.cells) = zc) (hf : Instr.fill (fun i => some (i * m, m)) ((Array.range (len * m)).map (zc[· % zc.size]!)) pv = some cs.toArray) :
    (Instr.buildSlice T len pv.toArray).run P w = .ok (.slice (some ⟨w.heap.size, 0, none⟩) len len) (w.alloc (.cells cs.toArray E)) := by
  obtain ⟨ii, dd, hi, _, hs, hby, _, hzz⟩ := tyInfo_parts ht
  have hns : ¬ (len * m > 2 ^ 24) := by omega
  have e : Instr.buildSlice T len pv.toArray = (do
    let .slice elem ← underlying T | stuck "buildSlice: slice type expected"
    let size ← Go.sizeOf elem
    if len * size > 2 ^ 24 then unsupported (.resourceLimit "buildSlice: more than 2^24 cells")
    let zero ← if len * size = 0 then pure #[] else do pure (← zeroValue elem).cells
    let some cells := Instr.fill (fun i => some (i * size, size)) ((Array.range (len * size)).map (zero[· % zero.size]!)) pv
      | stuck "buildSlice: a part of the wrong size"
    pure (.slice (some (← newRow elem cells)) len len)) := rfl
  rw [e]
  simp only [Sem.run_bind, run_underlying hT, Result.andThen_ok, rn_sizeOf hi, hs, if_neg hns]
  by_cases h0 : len * m = 0
  · rw [if_pos h0] at hz ⊢
    subst hz
    simp only [Sem.run_bind, Sem.run_pure, Result.andThen_ok, hf]
    rfl
  · rw [if_neg h0] at hz ⊢
    subst hz
    simp only [Sem.run_bind, Sem.run_pure, Result.andThen_ok, zero_cells ht, hf]
    rfl
theorem grown_chg {w w' : World} {v : Value} (hg : w.grownBy w' v.ownBlock) : Chg w w' (fun b => v.ownBlock = some b) := Chg.grown hg
theorem run_append_nothing {B : Nat} {t ty E : TypeId} {ii : TypeInfo} {sz n : Nat} {v : Value} {cs : List Value} (ht : P.underlying t = some (.slice E)) (hi : P.info? E = some ii) (hown : w.ownsRow B E sz v n cs) (c : Nat) : (Builtin.append_ #[t, t] ty #[v, .slice none 0 c]).run P w = .ok v w := by
  rcases hown.2 with ⟨rfl, rfl⟩ | ⟨g, cap, cur, rfl, _, _, hnc, _⟩
  · simp [Builtin.append_, run_underlying ht, Go.sizeOf, typeInfo, hi, Builtin.lenOf, Builtin.firstCells, go_sem]
  · simp [Builtin.append_, run_underlying ht, Go.sizeOf, typeInfo, hi, Builtin.lenOf, Builtin.firstCells, hnc, storeCells, go_sem]
theorem Leads.cells {A : Addr} {ys : List α} (hl : Leads kd (hp w) (some A) ys) : ∃ news, Elems kd (hp w) ys news ∧ ∀ j u, news[j]? = some u → w.cell? (A.add j) = some u := by
  rcases ys with _ | ⟨y0, ys'⟩
  · exact ⟨[], Elems.nil _ _, fun j u hj => by simp at hj⟩
  generalize hys : y0 :: ys' = ys at hl
  obtain ⟨ad, hA, hx⟩ := hl (by rw [← hys]; simp)
  injection hA with hA
  subst hA
  let news := (List.range (ys.length * kd.sz)).map fun j => (w.cell? (A.add j)).getD undef
  have hlen : news.length = ys.length * kd.sz := by simp [news]
  have hget : ∀ i e, ys[i]? = some e → ∃ seg, kd.rep (hp w) e seg ∧ ∀ q, q < kd.sz → w.cell? (A.add (i * kd.sz + q)) = seg[q]? := fun i e he => by
    obtain ⟨seg, h1, h2⟩ := hx i e he
    refine ⟨seg, h1, fun q hq => ?_⟩
    have hql : q < seg.length := by rw [kd.len h1]; exact hq
    rw [List.getElem?_eq_getElem hql]
    exact gcell_world (Le.refl _) (h2 q _ (List.getElem?_eq_getElem hql))
  have hcell : ∀ j u, news[j]? = some u → w.cell? (A.add j) = some u := fun j u hj => by
    have hjl : j < ys.length * kd.sz := by rw [← hlen]; exact (List.getElem?_eq_some_iff.1 hj).1
    have hi : j / kd.sz < ys.length := by rw [Nat.div_lt_iff_lt_mul kd.pos]; exact hjl
    obtain ⟨seg, h1, h2⟩ := hget (j / kd.sz) _ (List.getElem?_eq_getElem hi)
    have h3 := h2 (j % kd.sz) (Nat.mod_lt _ kd.pos)
    rw [Nat.mul_comm, Nat.div_add_mod] at h3
    have hql : j % kd.sz < seg.length := by rw [kd.len h1]; exact Nat.mod_lt _ kd.pos
    rw [List.getElem?_eq_getElem hql] at h3
    simp only [news, List.getElem?_map, List.getElem?_range hjl, Option.map_some, h3, Option.getD_some, Option.some.injEq] at hj
    rw [h3, hj]
  refine ⟨news, ⟨hlen, fun i e he => ?_⟩, hcell⟩
  obtain ⟨seg, h1, h2⟩ := hget i e he
  have hi : i < ys.length := (List.getElem?_eq_some_iff.1 he).1
  have hfit : i * kd.sz + kd.sz ≤ ys.length * kd.sz := by rw [← Nat.succ_mul]; exact Nat.mul_le_mul_right _ hi
  have : (news.drop (i * kd.sz)).take kd.sz = seg := by
    apply List.ext_getElem?
    intro q
    rw [List.getElem?_take]
    split
    · rename_i hq
      rw [List.getElem?_drop, List.getElem?_eq_getElem (by omega)]
      have := hcell _ _ (List.getElem?_eq_getElem (show i * kd.sz + q < news.length by omega))
      rw [← h2 q hq, this]
    · rw [List.getElem?_eq_none (by rw [kd.len h1]; omega)]
  rw [this]; exact h1
end
end Gx
namespace Gx
open Go Go.RowKit
set_option linter.unusedSimpArgs false
set_option linter.unusedSectionVars false
set_option linter.unusedVariables false
section
variable {P : Program} {f n : Nat} {k : List Item} {ρ : Env} {w : World} {R : Ending → World → Prop} {ops : Array Oper} {rest : List Nat} {i : Nat}
variable {d : Tmp} {ty : TypeId} {pos : String} {af : Array Edge} {x y : Operand} {op : Op}
variable {base : Bgn} {w0 : World} {h : Ghost} {L : List Asrt}
variable {α : Type} [Inhabited α] {kd : Kd α} {xs : List α}
theorem x_index_string {T : TypeId} {s : ByteArray} {q : Int} {kk : IntKind} {dd : Option Tmp} {g : Option (Nat × Bool)} (hT : P.underlying T = some .string) (hx : ev ρ x = .string s) (hy : ev ρ y = .int kk q) (h0 : 0 ≤ q) (h1 : q < (s.size : Int)) :
    (execOp (ev ρ) ⟨dd, .index T x y, ty, pos, af, g⟩).run P w = .ok (.value (.int .u8 ((s.data.toList.getD q.toNat 0).toNat : Nat))) w := by
  have hlt : q.toNat < s.size := by omega
  have hg : s[q.toNat]? = some (s.data.toList.getD q.toNat 0) := by
    rw [getElem?_pos s q.toNat hlt]
    congr 1
    have h2 : q.toNat < s.data.toList.length := by simpa using hlt
    rw [List.getD_eq_getElem?_getD, List.getElem?_eq_getElem h2]
    rfl
  simp only [execOp, hx, hy, Instr.index, asIntOf, Sem.run_bind, Sem.run_pure, Result.andThen_ok, run_underlying hT, if_pos h0, hg]
theorem x_index_arr {T E : TypeId} {len : Nat} {cs : List Value} {q : Int} {kk : IntKind} {dd : Option Tmp} {g : Option (Nat × Bool)} {b' : Nat} {z : Option Value} {v : Value} (hT : P.underlying T = some (.array len E)) (ht : tyInfo P E = some (1, b', false, z)) (hx : ev ρ x = .agg cs.toArray) (hy : ev ρ y = .int kk q) (h0 : 0 ≤ q) (h1 : q < (len : Int)) (hv : cs[q.toNat]? = some v) :
    (execOp (ev ρ) ⟨dd, .index T x y, ty, pos, af, g⟩).run P w = .ok (.value v) w := by
  obtain ⟨ii, d2, hi, hd2, hsz, _, hg2, _⟩ := tyInfo_parts ht
  simp [execOp, hx, hy, Instr.index, asIntOf, run_underlying hT, h0, h1, rn_sizeOf hi, hsz, part, run_isAgg hd2, hg2, hv, go_sem]
theorem x_field {T : TypeId} {fs : Array Field} {fd : Field} {q m b' o : Nat} {gg : Bool} {z : Option Value} {cs ds : List Value} {dd : Option Tmp} {g : Option (Nat × Bool)} {v : Value} (hT : P.underlying T = some (.struct fs)) (hf : fs[q]? = some fd) (ho : fd.offset = o) (ht : tyInfo P fd.type = some (m, b', gg, z)) (hx : ev ρ x = .agg cs.toArray) (hs : (cs.drop o).take m = ds) (hm : ds.length = m) (h1 : gg = false → m = 1) (hv : packV gg ds = v) :
    (execOp (ev ρ) ⟨dd, .field T x q, ty, pos, af, g⟩).run P w = .ok (.value v) w := by
  obtain ⟨ii, d2, hi, hd2, hsz, _, hg2, _⟩ := tyInfo_parts ht
  subst ho
  cases gg with
  | true =>
    have e : cs.toArray.extract fd.offset (fd.offset + m) = ds.toArray := by
      apply Array.ext'
      rw [← hs]
      simp
    simp [execOp, hx, Instr.field, run_underlying hT, hf, asAgg, part, run_isAgg hd2, hg2, rn_sizeOf hi, hsz, e, ← hv, packV, go_sem]
    exact hs
  | false =>
    have hm1 := h1 rfl
    subst hm1
    match ds, hm with
    | [u], _ =>
      have hu : cs[fd.offset]? = some u := by
        have : ((cs.drop fd.offset).take 1)[0]? = some u := by rw [hs]; rfl
        rw [List.getElem?_take, if_pos (by omega), List.getElem?_drop] at this
        simpa using this
      simp [execOp, hx, Instr.field, run_underlying hT, hf, asAgg, part, run_isAgg hd2, hg2, hu, ← hv, packV, go_sem]
end
end Gx
namespace Gx
open Go Go.RowKit
set_option linter.unusedSimpArgs false
set_option linter.unusedSectionVars false
set_option linter.unusedVariables false
abbrev Gr (w w2 : World) : Prop := Chg w w2 (fun _ => False)
theorem Gr.refl (w : World) : Gr w w := ⟨rfl, rfl, rfl, Nat.le_refl _, fun _ _ _ => rfl⟩
theorem Gr.trans {w w2 w3 : World} (h : Gr w w2) (h2 : Gr w2 w3) : Gr w w3 :=
  ⟨h2.os.trans h.os, h2.tape.trans h.tape, h2.output.trans h.output, Nat.le_trans h.size h2.size, fun b hb _ => (h2.block b (Nat.lt_of_lt_of_le hb h.size) (fun x => x)).trans (h.block b hb (fun x => x))⟩
abbrev Sp := { p : World → Prop // ∀ w w2, Gr w w2 → p w → p w2 }
abbrev Held := List (Nat × Sp)
def waits (ops : Array Oper) (j i : Nat) : Bool := ((ops[j]?).map fun o => o.after.any fun e => Region.binds .any e && e.on == i).getD false
def Keep (ops : Array Oper) (j : Nat) (w : World) : Held → Prop
  | [] => True
  | p :: r => (waits ops j p.1 = false → p.2.1 w) ∧ Keep ops j w r
theorem Keep.mem {ops : Array Oper} {j : Nat} {w : World} : ∀ {H : Held}, Keep ops j w H → ∀ p ∈ H, waits ops j p.1 = false → p.2.1 w
  | p :: r, h, q, hq, hw => by
    rcases List.mem_cons.1 hq with e | e
    · subst e; exact h.1 hw
    · exact Keep.mem h.2 q e hw
section
variable {P : Program} {ops : Array Oper} {Q : Exit → Act → World → Prop} {H : Held} {S : World → Prop}
def GivesIf (P : Program) (ops : Array Oper) (S : World → Prop) (o : Oper) (v : Value) (a : Act) : Prop :=
  (Region.wanted o (yielded ops a.tmps) = true ∧ ∀ w, S w → ((execOp a.eval o).run P w = .ok (.value v) w ∨ ∃ g args, (execOp a.eval o).run P w = .ok (.enter g args) w ∧ Calls P g args w fun e w2 => e = .returned v ∧ Gr w w2)) ∨
  (Region.wanted o (yielded ops a.tmps) = false ∧ v = undef)
theorem GivesIf.wpOp {i : Nat} {o : Oper} {v : Value} {a : Act} (hi : ops[i]? = some o) (hy : GivesIf P ops S o v a)
    {K : Act → World → Prop} {w : World} (hS : S w) (h : ∀ w2, Gr w w2 → K (a.put o.dst v) w2) : wpOp P ops Q i K a w := by
  unfold Go.wpOp
  simp only [hi]
  rcases hy with ⟨hw, hv⟩ | ⟨hw, rfl⟩
  · rcases hv w hS with hv | ⟨g, args, hv, hc⟩
    · simp only [hw, if_true, Oper.wp, hv, Oper.upon]; exact .inl (h w (Gr.refl w))
    · simp only [hw, if_true, Oper.wp, hv, Oper.upon]
      refine .inl (Calls.mono hc fun e w2 he => ?_)
      obtain ⟨rfl, hg⟩ := he
      exact h w2 hg
  · simp only [hw, Bool.false_eq_true, if_false]; exact h w (Gr.refl w)
end
section
variable {P : Program} {f n : Nat} {k : List Item} {ρ : Env} {w : World} {R : Ending → World → Prop} {ops : Array Oper} {H : Held} {fuel : Nat} {listed : Array Bool} {i : Nat}
end
end Gx
namespace Gx
open Go Go.RowKit
set_option linter.unusedSimpArgs false
set_option linter.unusedSectionVars false
set_option linter.unusedVariables false
section
variable {P : Program} {f n : Nat} {k : List Item} {ρ : Env} {w w' : World} {R : Ending → World → Prop} {ops : Array Oper} {rest : List Nat} {i : Nat} {H : Held} {fuel : Nat} {listed : Array Bool}
variable {d : Tmp} {ty : TypeId} {pos : String} {af : Array Edge} {gd : Option (Nat × Bool)} {x y : Operand} {op : Op} {v : Value}
def CF (ad : Addr) (seg : List Value) (w : World) : Prop := ∀ j u, seg[j]? = some u → w.cell? (ad.add j) = some u
theorem CF.same {ad : Addr} {seg : List Value} (hh : w'.heap = w.heap) (h : CF ad seg w) : CF ad seg w' := fun j u hj => by
  have h1 := h j u hj
  simpa [World.cell?, hh] using h1
theorem CF.ghost {ad : Addr} {seg : List Value} {h : Ghost} (hs : ∀ j u, seg[j]? = some u → gcell h (ad.add j) = some u) (hle : Le h (hp w)) : CF ad seg w := fun j u hj => gcell_world hle (hs j u hj)
theorem CF.box {b off m : Nat} {T : TypeId} {cs ds : List Value} (hb : w.heap[b]? = some (.cells cs.toArray T (0, 0))) (hs : (cs.drop off).take m = ds) : CF ⟨b, off, none⟩ ds w := fun q u hq => by
  have hadd : (⟨b, off, none⟩ : Addr).add q = ⟨b, off + q, none⟩ := by unfold Addr.add; split <;> simp_all
  rw [hadd, cell_box hb]
  rw [← hs, List.getElem?_take] at hq
  split at hq
  · rwa [List.getElem?_drop] at hq
  · cases hq
end
section
variable {P : Program} {ρ : Env} {w w' : World} {d : Option Tmp} {ty : TypeId} {pos : String} {af : Array Edge} {g : Option (Nat × Bool)} {x y : Operand}
variable {base : Bgn} {w0 : World} {h : Ghost} {L : List Asrt}
variable {α : Type} [Inhabited α] {kd : Kd α} {xs : List α}
theorem x_load {T : TypeId} {m b' : Nat} {gg : Bool} {z : Option Value} {ad : Addr} {seg : List Value} (ht : tyInfo P T = some (m, b', gg, z)) (hm : seg.length = m) (h1 : gg = false → m = 1) (hx : ev ρ x = .pointer (some ad)) (hc : CF ad seg w) :
    (execOp (ev ρ) ⟨d, .load T x, ty, pos, af, g⟩).run P w = .ok (.value (packV gg seg)) w := by
  have hl := run_loadVar (P := P) (w := w) (a := ad) ht hm h1 hc
  simp only [execOp, hx, Instr.loadAt, Instr.sureAddr, Sem.run_bind]
  show (((Sem.pure ad).run P w).andThen fun a w' => ((loadVar T a).run P w')).andThen _ = _
  simp only [Sem.run, Result.andThen_ok, hl]
  rfl
theorem x_box {T : TypeId} {v : Value} {a : Addr} (hx : ev ρ x = v) (hr : (newVar T v).run P w = .ok a w') : (execOp (ev ρ) ⟨d, .box T x, ty, pos, af, g⟩).run P w = .ok (.value (.pointer (some a))) w' := by
  simp only [execOp, Instr.box, hx, Sem.run_bind, hr, Result.andThen_ok]; rfl
theorem x_alloc {T : TypeId} {z : Value} {a : Addr} {m b' : Nat} {gg : Bool} (ht : tyInfo P T = some (m, b', gg, some z)) (hr : (newVar T z).run P w = .ok a w') : (execOp (ev ρ) ⟨d, .alloc T, ty, pos, af, g⟩).run P w = .ok (.value (.pointer (some a))) w' := by
  simp only [execOp, Instr.alloc, Sem.run_bind, zero_cells ht, Result.andThen_ok, hr]; rfl
theorem x_store {T : TypeId} {a : Operand} {v : Value} {ad : Addr} (ha : ev ρ a = .pointer (some ad)) (hx : ev ρ x = v) (hr : (storeVar T ad v).run P w = .ok () w') : (execOp (ev ρ) ⟨d, .store T a x, ty, pos, af, g⟩).run P w = .ok .skip w' := by
  simp only [execOp, ha, hx, Instr.storeAt, Instr.sureAddr, Sem.run_bind]
  show (((Sem.pure ad).run P w).andThen fun a w' => ((storeVar T a v).run P w')).andThen _ = _
  simp only [Sem.run, Result.andThen_ok, hr]
  rfl
theorem x_make {T : TypeId} {a b v : Value} (hx : ev ρ x = a) (hy : ev ρ y = b) (hr : (Instr.makeSlice T a b).run P w = .ok v w') : (execOp (ev ρ) ⟨d, .makeSlice T x y, ty, pos, af, g⟩).run P w = .ok (.value v) w' := by
  simp only [execOp, hx, hy, Sem.run_bind, hr, Result.andThen_ok]; rfl
theorem x_build_slice {T : TypeId} {len : Nat} {parts : Array (Nat × Operand)} {pv : List (Nat × Value)} {v : Value} (hp : (parts.map fun (i, x) => (i, ev ρ x)) = pv.toArray) (hr : (Instr.buildSlice T len pv.toArray).run P w = .ok v w') : (execOp (ev ρ) ⟨d, .buildSlice T len parts, ty, pos, af, g⟩).run P w = .ok (.value v) w' := by
  simp only [execOp, hp, Sem.run_bind, hr, Result.andThen_ok]; rfl
theorem x_build {T : TypeId} {parts : Array (Nat × Operand)} {pv : List (Nat × Value)} {v : Value} (hp : (parts.map fun (i, x) => (i, ev ρ x)) = pv.toArray) (hr : (Instr.build T pv.toArray).run P w = .ok v w) : (execOp (ev ρ) ⟨d, .build T parts, ty, pos, af, g⟩).run P w = .ok (.value v) w := by
  simp only [execOp, hp, Sem.run_bind, hr, Result.andThen_ok]; rfl
theorem x_append {T : TypeId} {a b v : Value} (hx : ev ρ x = a) (hy : ev ρ y = b) (hr : (Builtin.append_ #[T, T] ty #[a, b]).run P w = .ok v w') : (execOp (ev ρ) ⟨d, .call ⟨.builtin .append, #[x, y], #[T, T]⟩, ty, pos, af, g⟩).run P w = .ok (.value v) w' := by
  have h1 : ((#[x, y] : Array Operand).map (ev ρ)) = #[a, b] := by simp [hx, hy]
  simp only [execOp, resolve, invoke, builtin, Sem.run_bind, Sem.run_pure, Result.andThen_ok, h1, hr]
theorem x_slice {T : TypeId} {lo hi : Option Operand} {lv hv : Option Value} {a v : Value} (hx : ev ρ x = a) (hl : lo.map (ev ρ) = lv) (hh : hi.map (ev ρ) = hv) (hr : (Instr.sliceAt T a lv hv none).run P w = .ok v w) : (execOp (ev ρ) ⟨d, .slice T x lo hi none, ty, pos, af, g⟩).run P w = .ok (.value v) w := by
  simp only [execOp, hx, hl, hh, Option.map_none, Sem.run_bind, hr, Result.andThen_ok]; rfl
theorem x_index_ro {A : Option Addr} {ad : Addr} {len cap m b' : Nat} {q : Int} {T E : TypeId} {kk : IntKind} {gg : Bool} {z : Option Value} (hT : P.underlying T = some (.slice E)) (ht : tyInfo P E = some (m, b', gg, z))
    (hx : ev ρ x = .slice A len cap) (hy : ev ρ y = .int kk q) (hA : ∃ a, A = some a ∧ ad = a.add (q.toNat * m)) (h0 : 0 ≤ q) (h1 : q < (len : Int)) : (execOp (ev ρ) ⟨d, .indexAddr T x y, ty, pos, af, g⟩).run P w = .ok (.value (.pointer (some ad))) w := by
  obtain ⟨a, rfl, rfl⟩ := hA
  exact x_indexAddr_slice hT ht hx hy h0 h1
theorem x_index_own {v : Value} {ad : Addr} {len m b' : Nat} {q : Int} {T E : TypeId} {kk : IntKind} {gg : Bool} {z : Option Value} (hT : P.underlying T = some (.slice E)) (ht : tyInfo P E = some (m, b', gg, z))
    (hx : ev ρ x = v) (hy : ev ρ y = .int kk q) (hA : ∃ g cap, v = .slice (some ⟨g, 0, none⟩) len cap ∧ ad = ⟨g, q.toNat * m, none⟩) (h0 : 0 ≤ q) (h1 : q < (len : Int)) : (execOp (ev ρ) ⟨d, .indexAddr T x y, ty, pos, af, g⟩).run P w = .ok (.value (.pointer (some ad))) w := by
  obtain ⟨b, cap, rfl, rfl⟩ := hA
  have hadd : (⟨b, 0, none⟩ : Addr).add (q.toNat * m) = ⟨b, q.toNat * m, none⟩ := by unfold Addr.add; split <;> simp_all
  rw [← hadd]
  exact x_indexAddr_slice hT ht hx hy h0 h1
theorem e_box (S : St base w0 h w L) (T : TypeId) {v : Value} (cs : List Value) (hv : v.cells = cs.toArray) : ∃ b w', (newVar T v).run P w = .ok (⟨b, 0, none⟩ : Addr) w' ∧ Chg w w' (fun _ => False) ∧ St base w0 h w' (L ++ [box b T cs]) :=
  ⟨w.heap.size, w.alloc (.cells cs.toArray T), by simp only [newVar, newRow, newObj, hv, Sem.run_bind]; rfl, Chg.alloc _ _, S.alloc T cs⟩
theorem e_store {j b off : Nat} {T E : TypeId} {cs vs : List Value} {v : Value} {m b' : Nat} {gg : Bool} {z : Option Value} (S : St base w0 h w L) (ht : tyInfo P T = some (m, b', gg, z)) (hc : v.cells = vs.toArray) (hm : vs.length = m) (hj : L[j]? = some (box b E cs)) (hfit : off + m ≤ cs.length) (h1 : ∀ u ∈ vs, u.oneCell' = true) :
    ∃ w', (storeVar T ⟨b, off, none⟩ v).run P w = .ok () w' ∧ Chg w w' (fun q => q = b) ∧ St base w0 h w' (L.set j (box b E (lput cs off vs))) := by
  have hb := S.box_at hj
  have hlt : b < w.heap.size := (Array.getElem?_eq_some_iff.1 hb).1
  have S' : St base w0 h (putBlock w b E (lput cs off vs)) (L.set j (box b E (lput cs off vs))) := by
    refine S.upd hj fun F hF _ => ⟨(putBlock_chg w b E _).mono (fun q hq => by subst hq; exact hF.2), F, ⟨putBlock_at hlt _ _, hF.2⟩, fun q hq => .inl hq⟩
  have hr := run_storeVar_box (P := P) (v := v) ht hb (by rw [hc]; simpa using hm) hfit (by rw [hc]; simpa using h1)
  rw [hc] at hr
  exact ⟨_, hr, putBlock_chg w b E _, S'⟩
theorem e_make {T E : TypeId} {kk kk' : IntKind} {q : Int} {m b' : Nat} {gg : Bool} {zv : Value} {z : α} {zc : List Value} (S : St base w0 h w L) (hT : P.underlying T = some (.slice E)) (ht : tyInfo P E = some (m, b', gg, some zv)) (hm : kd.sz = m) (hz : zv.cells = zc.toArray) (hr : kd.rep h z zc)
    (h0 : 0 ≤ q) (hb : (b' : Int) * q ≤ 281474976710656) (h63 : q ≤ 9223372036854775807) :
    ∃ v w', (Instr.makeSlice T (.int kk q) (.int kk' q)).run P w = .ok v w' ∧ Chg w w' (fun _ => False) ∧ St base w0 h w' (L ++ [row E kd v (List.replicate q.toNat z)]) := by
  obtain ⟨ii, dd, hi, _, hs, hby, _, hzz⟩ := tyInfo_parts ht
  have hrun := run_make (P := P) w T E ii zv hT hi hzz kk kk' q q h0 (Int.le_refl _) (by rw [hby]; exact hb) h63
  rw [hz, hs, ← hm] at hrun
  refine ⟨_, _, hrun, Chg.alloc _ _, ?_⟩
  have hown := World.ownsRow_lit (e := E) (base := w.heap.size) (size := kd.sz) w (madeCells zc.toArray (q.toNat * kd.sz)) q.toNat (Nat.le_refl _) (by simp only [maxLen]; omega) (size_madeCells _ _)
  refine S.row_add (cs := (madeCells zc.toArray (q.toNat * kd.sz)).toList) (Chg.alloc _ _) ?_ (made_elems hr)
  simpa using hown
theorem e_build {T E : TypeId} {m b' len : Nat} {gg : Bool} {zv : Value} {pv : List (Nat × Value)} {cs : List Value} {zc : Array Value} (S : St base w0 h w L) (hT : P.underlying T = some (.slice E)) (ht : tyInfo P E = some (m, b', gg, some zv)) (hm : kd.sz = m) (hlen : xs.length = len) (hsmall : Nat.ble (len * m) 100000 = true)
    (hz : (if len * m = 0 then #[] else zv.cells) = zc) (hf : Instr.fill (fun i => some (i * m, m)) ((Array.range (len * m)).map (zc[· % zc.size]!)) pv = some cs.toArray) (hel : Elems kd h xs cs) :
    ∃ v w', (Instr.buildSlice T len pv.toArray).run P w = .ok v w' ∧ Chg w w' (fun _ => False) ∧ St base w0 h w' (L ++ [row E kd v xs]) := by
  have hsm : len * m ≤ 100000 := by simpa [Nat.ble_eq] using hsmall
  refine ⟨_, _, run_build_slice hT ht hsm hz hf, Chg.alloc _ _, ?_⟩
  have hcs : cs.length = len * kd.sz := by rw [hel.1, hlen]
  have hown := World.ownsRow_lit (e := E) (base := w.heap.size) (size := kd.sz) w cs.toArray len (Nat.le_refl _) (by have := kd.pos; simp only [maxLen]; rw [← hm] at hsm; have : len ≤ len * kd.sz := Nat.le_mul_of_pos_right _ kd.pos; omega) (by simpa using hcs)
  subst hlen
  refine S.row_add (cs := cs) (Chg.alloc _ _) ?_ hel
  simpa using hown
theorem e_index_ro {hh : Ghost} {A : Option Addr} {q : Int} {m : Nat} (hl : Leads kd hh A xs) (hm : kd.sz = m) (h0 : 0 ≤ q) (h1 : q < (xs.length : Int)) : ∃ ad seg, (∃ a, A = some a ∧ ad = a.add (q.toNat * m)) ∧ kd.rep hh (at_ xs q) seg ∧ ∀ j u, seg[j]? = some u → gcell hh (ad.add j) = some u := by
  obtain ⟨a, e, seg, h2, h3⟩ := hl.seg h0 h1
  subst hm
  exact ⟨_, seg, ⟨a, e, rfl⟩, h2, h3⟩
theorem e_index_own {j : Nat} {v : Value} {q : Int} {m : Nat} {E : TypeId} (S : St base w0 h w L) (hj : L[j]? = some (row E kd v xs)) (hm : kd.sz = m) (h0 : 0 ≤ q) (h1 : q < (xs.length : Int)) :
    ∃ ad, (∃ g cap, v = .slice (some ⟨g, 0, none⟩) xs.length cap ∧ ad = ⟨g, q.toNat * m, none⟩) ∧ AtOwn v m q ad := by
  obtain ⟨cs, hown, _⟩ := S.row_at hj
  rcases hown.2 with ⟨_, he⟩ | ⟨g, cap, cur, hv, _⟩
  · omega
  · exact ⟨_, ⟨g, cap, hv, rfl⟩, g, by rw [hv]; rfl, rfl⟩
theorem e_load_own {j : Nat} {v : Value} {q : Int} {m : Nat} {T : TypeId} {ad : Addr} (S : St base w0 h w L) (hj : L[j]? = some (row T kd v xs)) (hm : kd.sz = m) (ha : AtOwn v m q ad) (h0 : 0 ≤ q) (hq : q < (xs.length : Int)) : ∃ seg, kd.rep h (at_ xs q) seg ∧ CF ad seg w := by
  obtain ⟨cs, hown, hel⟩ := S.row_at hj
  obtain ⟨g, hg, rfl⟩ := ha
  subst hm
  refine ⟨_, hel.2 _ _ (at_some h0 hq), fun p u hp => ?_⟩
  rw [List.getElem?_take] at hp
  split at hp
  · rw [List.getElem?_drop] at hp
    have := hown.cells hg _ u hp
    rwa [show (⟨g, q.toNat * kd.sz, none⟩ : Addr).add p = (⟨g, 0, none⟩ : Addr).add (q.toNat * kd.sz + p) by
      unfold Addr.add; split <;> split <;> simp_all]
  · cases hp
end
end Gx
namespace Gx
open Go Go.RowKit
set_option linter.unusedSimpArgs false
set_option linter.unusedSectionVars false
set_option linter.unusedVariables false
section
variable {P : Program} {w : World} {base : Bgn} {w0 : World} {h : Ghost} {L : List Asrt}
variable {α : Type} [Inhabited α] {kd : Kd α} {xs : List α}
def News (kd : Kd α) (h : Ghost) (w : World) (A : Option Addr) (ys : List α) : Prop := (A = none ∧ ys = []) ∨ ∃ ad news, A = some ad ∧ Elems kd h ys news ∧ ∀ j u, news[j]? = some u → w.cell? (ad.add j) = some u
theorem news_own {j : Nat} {T : TypeId} {v : Value} {A : Option Addr} {c : Nat} {ys : List α} (S : St base w0 h w L) (hj : L[j]? = some (row T kd v ys)) (hv : v = .slice A ys.length c) : News kd h w A ys := by
  obtain ⟨cs, hown, hel⟩ := S.row_at hj
  subst hv
  rcases hown.2 with ⟨hv, h0⟩ | ⟨g, cap, cur, hv, _⟩
  · injection hv with e _ _
    exact .inl ⟨e, List.eq_nil_of_length_eq_zero h0⟩
  · injection hv with e _ _
    subst e
    exact .inr ⟨_, cs, rfl, hel, fun j u hj => hown.cells (g := g) rfl j u hj⟩
theorem e_append {j : Nat} {T E : TypeId} {m b' : Nat} {gg : Bool} {zv : Value} {v : Value} {A : Option Addr} {c : Nat} {ys : List α} {len : Nat} (ty : TypeId) (S : St base w0 h w L) (hT : P.underlying T = some (.slice E))
    (ht : tyInfo P E = some (m, b', gg, some zv)) (hm : kd.sz = m) (hzs : zv.cells.size = m) (hj : L[j]? = some (row E kd v xs)) (hlen : ys.length = len)
    (hnews : News kd h w A ys) (hbytes : (xs.length + ys.length) * b' ≤ 140737488355328) (hbig : xs.length + ys.length ≤ 9223372036854775807) :
    ∃ v' w', (Builtin.append_ #[T, T] ty #[v, .slice A len c]).run P w = .ok v' w' ∧ Chg w w' (fun b => v.ownBlock = some b) ∧ St base w0 h w' (L.set j (row E kd v' (xs ++ ys))) := by
  obtain ⟨cs, hown, helx⟩ := S.row_at hj
  obtain ⟨ii, dd, hi, _, hs, hby, _, hzz⟩ := tyInfo_parts ht
  subst hlen; subst hm
  have finish : ∀ v' w' news, (Builtin.append_ #[T, T] ty #[v, .slice A ys.length c]).run P w = .ok v' w' → Elems kd h ys news → w'.ownsRow w.heap.size E kd.sz v' (xs.length + ys.length) (cs ++ news) ∨ w'.ownsRow 0 E kd.sz v' (xs.length + ys.length) (cs ++ news) → w.grownBy w' v.ownBlock → (v'.ownBlock = v.ownBlock ∨ v'.ownBlock = some w.heap.size) → ∃ v' w', (Builtin.append_ #[T, T] ty #[v, .slice A ys.length c]).run P w = .ok v' w' ∧ Chg w w' (fun b => v.ownBlock = some b) ∧ St base w0 h w' (L.set j (row E kd v' (xs ++ ys))) := by
    intro v' w' news hrun helN hown' hg hwhere
    have hown2 : w'.ownsRow 0 E kd.sz v' (xs.length + ys.length) (cs ++ news) := by
      rcases hown' with h1 | h1
      · refine ⟨h1.1, ?_⟩
        rcases h1.2 with h4 | ⟨g, cap, cur, hv, hb, hr⟩
        · exact .inl h4
        · exact .inr ⟨g, cap, cur, hv, Nat.zero_le _, hr⟩
      · exact h1
    have helN' : Elems kd h ys news := helN
    have hlt := hown2.lt
    have S' : St base w0 h w' (L.set j (row E kd v' (xs ++ ys))) := by
      refine S.upd hj fun F hF hFU => ?_
      obtain ⟨cs2, hown3, hel3, hfo⟩ := hF
      have hsame : cs2 = cs := by
        rcases hown3.2 with ⟨hv, h0⟩ | ⟨g, cap, cur, hv, _, hh, _, _, _, htk⟩
        · have e1 : cs2 = [] := List.eq_nil_of_length_eq_zero (by rw [hown3.1, h0]; simp)
          have e2 : cs = [] := List.eq_nil_of_length_eq_zero (by rw [hown.1, h0]; simp)
          rw [e1, e2]
        · rcases hown.2 with ⟨hv', h0'⟩ | ⟨g', cap', cur', hv', _, hh', _, _, _, htk'⟩
          · rw [hv] at hv'; cases hv'
          · rw [hv] at hv'
            injection hv' with e1 _ _
            injection e1 with e1
            injection e1 with e1 _ _
            subst e1
            rw [hh] at hh'
            injection hh' with e2
            injection e2 with e2 _ _
            subst e2
            rw [← htk, ← htk']
      subst hsame
      refine ⟨(grown_chg hg).mono fun b hb => hfo b hb, fun b => v'.ownBlock = some b, ⟨cs2 ++ news, by rw [List.length_append]; exact hown2, hel3.app helN', fun g hg' => hg'⟩, fun b hb => ?_⟩
      rcases hwhere with e | e
      · left; exact hfo b (by rw [← e]; exact hb)
      · right
        have hb2 := (hlt b hb).2
        rw [hb] at e; injection e with e
        omega
    exact ⟨v', w', hrun, grown_chg hg, S'⟩
  rcases hnews with ⟨rfl, rfl⟩ | ⟨ad, news, rfl, helN, hcell⟩
  · exact finish v w [] (run_append_nothing hT hi hown c) (Elems.nil _ _) (.inr (by simpa using hown)) (World.grownBy.refl w _) (.inl rfl)
  · obtain ⟨v', w', hrun, h2, h3, _, h5⟩ := run_append_own_at (P := P) w 0 T ty E ii zv kd.sz b' hT hi hzz hs hby hzs kd.pos v xs.length cs hown ad ys.length c news helN.1 hcell helN.one (by simp only [maxLen]; omega) hbytes (Nat.zero_le _)
    exact finish v' w' news hrun helN (.inr h2) h3 h5
theorem run_slice_hi {T E : TypeId} {A : Option Addr} {len cap : Nat} {q : Int} {kk : IntKind} {m b' : Nat} {gg : Bool} {z : Option Value} (hT : P.underlying T = some (.slice E)) (ht : tyInfo P E = some (m, b', gg, z))
    (h0 : 0 ≤ q) (h1 : q ≤ cap) : (Instr.sliceAt T (.slice A len cap) none (some (.int kk q)) none).run P w = .ok (.slice (if cap = 0 then A else A.map (·.add 0)) q.toNat cap) w := by
  obtain ⟨ii, d2, hi, hd2, hsz, _, _, _⟩ := tyInfo_parts ht
  simp [Instr.sliceAt, run_underlying hT, Instr.slice, Instr.sliceBounds, Instr.sliceBound, asIntOf, h0, h1, rn_sizeOf hi, go_sem]
theorem e_slice_hi {j : Nat} {v : Value} {T E : TypeId} {q : Int} {kk : IntKind} {m b' : Nat} {gg : Bool} {z : Option Value} (S : St base w0 h w L) (hT : P.underlying T = some (.slice E)) (ht : tyInfo P E = some (m, b', gg, z))
    (hj : L[j]? = some (row E kd v xs)) (h0 : 0 ≤ q) (h1 : q ≤ (xs.length : Int)) :
    ∃ v', (Instr.sliceAt T v none (some (.int kk q)) none).run P w = .ok v' w ∧ St base w0 h w (L.set j (row E kd v' (xs.take q.toNat))) := by
  obtain ⟨cs, hown, hel⟩ := S.row_at hj
  have hql : (xs.take q.toNat).length = q.toNat := by rw [List.length_take]; omega
  have hcs : (cs.take (q.toNat * kd.sz)).length = q.toNat * kd.sz := by rw [List.length_take, hown.1]; exact Nat.min_eq_left (Nat.mul_le_mul_right _ (by omega))
  have upd_ : ∀ v', (∀ cs, w.ownsRow 0 E kd.sz v xs.length cs → w.ownsRow 0 E kd.sz v' q.toNat (cs.take (q.toNat * kd.sz))) → (∀ g, v'.ownBlock = some g → v.ownBlock = some g) → St base w0 h w (L.set j (row E kd v' (xs.take q.toNat))) := by
    intro v' ho' hb'
    refine S.upd hj fun F hF _ => ?_
    obtain ⟨cs2, h2, h3, h4⟩ := hF
    exact ⟨Chg.refl w _, F, ⟨cs2.take (q.toNat * kd.sz), by rw [hql]; exact ho' cs2 h2, h3.take_ _, fun g hg => h4 g (hb' g hg)⟩, fun b hb => .inl hb⟩
  rcases hown.2 with ⟨hv, hz0⟩ | ⟨g, cap, cur, hv, hb, hh, hl, hc, hsz, htk⟩
  · have hq0 : q.toNat = 0 := by omega
    refine ⟨.slice none q.toNat 0, ?_, upd_ _ (fun cs h2 => ?_) (fun g hg => by simp [Value.ownBlock] at hg)⟩
    · have := run_slice_hi (w := w) (kk := kk) (A := none) (len := 0) (cap := 0) hT ht h0 (by omega)
      rw [hv]; simpa using this
    · rw [hq0]; simp only [Nat.zero_mul, List.take_zero]; exact World.ownsRow_nil _ _ _ _
  · refine ⟨.slice (some ⟨g, 0, none⟩) q.toNat cap, ?_, upd_ _ (fun cs h2 => ?_) (fun g' hg => by rw [hv]; exact hg)⟩
    · have := run_slice_hi (w := w) (kk := kk) (A := some ⟨g, 0, none⟩) (len := xs.length) (cap := cap) hT ht h0 (by omega)
      rw [hv]; simpa [Addr.add] using this
    · refine ⟨by rw [List.length_take, h2.1]; exact Nat.min_eq_left (Nat.mul_le_mul_right _ (by omega)), .inr ⟨g, cap, cur, rfl, hb, hh, by omega, hc, hsz, ?_⟩⟩
      rcases h2.2 with ⟨hv', _⟩ | ⟨g', cap', cur', hv', _, hh', _, _, _, htk'⟩
      · rw [hv] at hv'; cases hv'
      · rw [hv] at hv'
        injection hv' with e1 _ _
        injection e1 with e1
        injection e1 with e1 _ _
        subst e1
        rw [hh] at hh'
        injection hh' with e2
        injection e2 with e2 _ _
        subst e2
        rw [← htk', List.take_take, Nat.min_eq_left (Nat.mul_le_mul_right _ (by omega))]
end
end Gx
namespace Gx
open Go Go.RowKit
set_option linter.unusedSimpArgs false
set_option linter.unusedSectionVars false
set_option linter.unusedVariables false
theorem all_cons {w : World} {i : Nat} {F : Sp} {H : Held} (h : F.1 w) (hs : ∀ p ∈ H, p.2.1 w) : ∀ p ∈ (i, F) :: H, p.2.1 w := fun p hp => by
  rcases List.mem_cons.1 hp with e | e
  · subst e; exact h
  · exact hs p e
section
variable {P : Program} {f n : Nat} {k : List Item} {ρ : Env} {w w' : World} {R : Ending → World → Prop} {ops : Array Oper} {H : Held} {fuel : Nat} {listed : Array Bool}
end
section
variable {P : Program} {ρ : Env} {w w' : World} {d : Option Tmp} {ty : TypeId} {pos : String} {af : Array Edge} {g : Option (Nat × Bool)} {x y : Operand}
variable {base : Bgn} {w0 : World} {h : Ghost} {L : List Asrt}
variable {α : Type} [Inhabited α] {kd : Kd α} {xs : List α}
theorem leads_nil (kd : Kd α) (h : Ghost) : Leads kd h none ([] : List α) := fun hne => (hne rfl).elim
theorem slice_nil_rep (kd : Kd α) (h : Ghost) : kd.slice.rep h [] [.slice none 0 0] := ⟨none, 0, rfl, by simp, by simp [maxLen], leads_nil _ _⟩
theorem row_one {j : Nat} {T : TypeId} {v : Value} (S : St base w0 h w L) (hj : L[j]? = some (row T kd v xs)) : v.oneCell' = true := by
  obtain ⟨A, c, e, _⟩ := S.row_val hj
  rw [e]; rfl
theorem eqIn_bool {a b : Bool} {t : TypeId} (hT : P.underlying t = some .bool) (m : Nat) : (Op.equalIn (m + 1) t (.bool a) (.bool b)).run P w = .ok (a == b) w := by
  rw [Op.equalIn]
  simp only [Sem.run_bind, run_underlying hT, Result.andThen_ok]
  rfl
theorem guard_bool {a b : Bool} {t : TypeId} {o : BinOp} : (eqGuard o t x y (.bool a) (.bool b)).run P w = .ok () w := by
  unfold eqGuard
  cases o <;> rfl
theorem x_eql_bool {a b : Bool} {t t2 : TypeId} (hT : P.underlying t = some .bool) (hx : ev ρ x = .bool a) (hy : ev ρ y = .bool b) : (execOp (ev ρ) ⟨d, .binOp .eql t x y t2, ty, pos, af, g⟩).run P w = .ok (.value (.bool (decide (a = b)))) w := by
  have e : (a == b) = decide (a = b) := by cases a <;> cases b <;> rfl
  have h2 : (binOp .eql t (.bool a) (.bool b)).run P w = .ok (.bool (a == b)) w := by
    show ((do pure (.bool (← Op.equalIn (9999 + 1) t (.bool a) (.bool b))) : Sem Value)).run P w = _
    rw [Sem.run_bind, eqIn_bool hT]; rfl
  simp only [execOp, hx, hy, Sem.run_bind, guard_bool, Result.andThen_ok, h2, e]
  rfl
theorem x_neq_bool {a b : Bool} {t t2 : TypeId} (hT : P.underlying t = some .bool) (hx : ev ρ x = .bool a) (hy : ev ρ y = .bool b) : (execOp (ev ρ) ⟨d, .binOp .neq t x y t2, ty, pos, af, g⟩).run P w = .ok (.value (.bool (decide (a ≠ b)))) w := by
  have e : (!(a == b)) = decide (a ≠ b) := by cases a <;> cases b <;> rfl
  have h2 : (binOp .neq t (.bool a) (.bool b)).run P w = .ok (.bool (!(a == b))) w := by
    show ((do pure (.bool (!(← Op.equalIn (9999 + 1) t (.bool a) (.bool b)))) : Sem Value)).run P w = _
    rw [Sem.run_bind, eqIn_bool hT]; rfl
  simp only [execOp, hx, hy, Sem.run_bind, guard_bool, Result.andThen_ok, h2, e]
  rfl
theorem bytes_list (a : ByteArray) : a.toList = a.data.toList := ByteArray.toList_eq a
theorem bytes_eq {a b : ByteArray} : (a.toList == b.toList) = decide (a = b) := by
  rw [bytes_list, bytes_list]
  by_cases h : a = b
  · subst h; simp
  · have : a.data.toList ≠ b.data.toList := fun e => h (by cases a; cases b; congr; exact Array.ext' e)
    rw [decide_eq_false h]
    exact beq_eq_false_iff_ne.mpr this
theorem x_eql_string {a b : ByteArray} {t t2 : TypeId} (hx : ev ρ x = .string a) (hy : ev ρ y = .string b) : (execOp (ev ρ) ⟨d, .binOp .eql t x y t2, ty, pos, af, g⟩).run P w = .ok (.value (.bool (decide (a = b)))) w := by
  rw [← bytes_eq]
  simp [execOp, hx, hy, eqGuard, binOp, Op.stringOp, go_sem]
theorem x_neq_string {a b : ByteArray} {t t2 : TypeId} (hx : ev ρ x = .string a) (hy : ev ρ y = .string b) : (execOp (ev ρ) ⟨d, .binOp .neq t x y t2, ty, pos, af, g⟩).run P w = .ok (.value (.bool (decide (a ≠ b)))) w := by
  have e : (!(a.toList == b.toList)) = decide (a ≠ b) := by rw [bytes_eq]; simp
  rw [← e]
  simp [execOp, hx, hy, eqGuard, binOp, Op.stringOp, go_sem]
def byt (s : ByteArray) (i : Int) : Int := ((s.data.toList.getD i.toNat 0).toNat : Nat)
theorem byt_range (s : ByteArray) (i : Int) : 0 ≤ byt s i ∧ byt s i ≤ 255 := by
  unfold byt
  have := (s.data.toList.getD i.toNat 0).toNat_lt
  omega
theorem x_index_byt {T : TypeId} {s : ByteArray} {q : Int} {kk : IntKind} (hT : P.underlying T = some .string) (hx : ev ρ x = .string s) (hy : ev ρ y = .int kk q) (h0 : 0 ≤ q) (h1 : q < (s.size : Int)) :
    (execOp (ev ρ) ⟨d, .index T x y, ty, pos, af, g⟩).run P w = .ok (.value (.int .u8 (byt s q))) w := x_index_string hT hx hy h0 h1
end
end Gx
namespace Gx
open Go Go.RowKit
set_option linter.unusedSimpArgs false
set_option linter.unusedSectionVars false
set_option linter.unusedVariables false
def fieldInfo (P : Program) (T : TypeId) (q : Nat) : Option (Nat × TypeId) :=
  match P.underlying T with
  | some (.struct fs) => (fs[q]?).map fun f => (f.offset, f.type)
  | _ => none
def placesInfo (P : Program) (T : TypeId) : Option (List (Nat × Nat)) :=
  match P.underlying T with
  | some (.struct fs) => fs.toList.mapM fun f => (P.info? f.type).map fun i => (f.offset, i.size)
  | _ => none
theorem fieldInfo_parts {P : Program} {T : TypeId} {q o : Nat} {ft : TypeId} (h : fieldInfo P T q = some (o, ft)) : ∃ fs fd, P.underlying T = some (.struct fs) ∧ fs[q]? = some fd ∧ fd.offset = o ∧ fd.type = ft := by
  unfold fieldInfo at h
  split at h
  · rename_i fs hu
    cases hq : fs[q]? with
    | none => rw [hq] at h; cases h
    | some fd =>
      rw [hq] at h
      simp only [Option.map_some, Option.some.injEq, Prod.mk.injEq] at h
      exact ⟨fs, fd, hu, hq, h.1, h.2⟩
  · cases h
section
variable {P : Program} {ρ : Env} {w w' : World} {d : Option Tmp} {ty : TypeId} {pos : String} {af : Array Edge} {g : Option (Nat × Bool)} {x y : Operand}
theorem x_fieldOf {T ft : TypeId} {q m b' o : Nat} {gg : Bool} {z : Option Value} {cs ds : List Value} {v : Value} (hf : fieldInfo P T q = some (o, ft)) (ht : tyInfo P ft = some (m, b', gg, z)) (hx : ev ρ x = .agg cs.toArray) (hs : (cs.drop o).take m = ds) (hm : ds.length = m) (h1 : gg = false → m = 1) (hv : packV gg ds = v) :
    (execOp (ev ρ) ⟨d, .field T x q, ty, pos, af, g⟩).run P w = .ok (.value v) w := by
  obtain ⟨fs, fd, hu, hq, ho, rfl⟩ := fieldInfo_parts hf
  exact x_field hu hq ho ht hx hs hm h1 hv
theorem mapM_places {P : Program} {w : World} : ∀ (l : List Field) (ps : List (Nat × Nat)), l.mapM (fun f => (P.info? f.type).map fun i => (f.offset, i.size)) = some ps → (l.mapM fun f => (do pure (f.offset, ← Go.sizeOf f.type) : Sem (Nat × Nat))).run P w = .ok ps w
  | [], ps, h => by
    simp only [List.mapM_nil, Option.pure_def, Option.some.injEq] at h
    subst h
    rfl
  | f :: l, ps, h => by
    rw [List.mapM_cons] at h
    cases hi : P.info? f.type with
    | none => simp [hi] at h
    | some i =>
      cases hl : l.mapM (fun f => (P.info? f.type).map fun i => (f.offset, i.size)) with
      | none => simp [hi, hl] at h
      | some qs =>
        simp [hi, hl] at h
        subst h
        have ih := mapM_places (w := w) l qs hl
        rw [List.mapM_cons]
        simp only [Sem.run_bind, rn_sizeOf hi, Result.andThen_ok, Sem.run_pure, ih]
theorem run_build_struct {T : TypeId} {ps : List (Nat × Nat)} {zc : Array Value} {m b' : Nat} {gg : Bool} {zv : Value} {pv : List (Nat × Value)} {cs : List Value} (hp : placesInfo P T = some ps) (ht : tyInfo P T = some (m, b', gg, some zv)) (hz : zv.cells = zc)
    (hf : Instr.fill (ps.toArray[·]?) zc pv = some cs.toArray) : (Instr.build T pv.toArray).run P w = .ok (.agg cs.toArray) w := by
  unfold placesInfo at hp
  split at hp
  · rename_i fs hu
    have h1 := mapM_places (w := w) fs.toList ps hp
    have h2 : (fs.mapM fun f => (do pure (f.offset, ← Go.sizeOf f.type) : Sem (Nat × Nat))).run P w = .ok ps.toArray w := by
      rw [Array.mapM_eq_mapM_toList, Sem.run_map]
      show ((fs.toList.mapM fun f => (do pure (f.offset, ← Go.sizeOf f.type) : Sem (Nat × Nat))).run P w).andThen _ = _
      rw [h1]; rfl
    subst hz
    simp only [Instr.build, Sem.run_bind, zero_cells ht, Result.andThen_ok, run_underlying hu, h2, hf]
    rfl
  · cases hp
end
section
variable {ops : Array Oper} {H : Held} {i j : Nat} {F : Sp} {w : World}
end
section
variable {H : Held} {i j : Nat} {F : Sp} {w : World}
end
section
variable {P : Program} {f n : Nat} {k : List Item} {ρ : Env} {w : World} {R : Ending → World → Prop} {ops : Array Oper} {i : Nat} {H : Held} {fuel : Nat} {listed : Array Bool}
variable {d : Tmp} {ty : TypeId} {pos : String} {af : Array Edge} {gd : Option (Nat × Bool)} {op : Op} {v : Value} {F : Sp}
end
section
variable {P : Program} {f n : Nat} {k : List Item} {ρ : Env} {w : World} {R : Ending → World → Prop} {ops : Array Oper} {H X : Held} {fuel : Nat} {listed : Array Bool}
end
end Gx
namespace Gx
open Go Go.RowKit
set_option linter.unusedSimpArgs false
set_option linter.unusedSectionVars false
set_option linter.unusedVariables false
def encInts (k : IntKind) (xs : List Int) : List Value := xs.map fun x => .int k x
def okInts (k : IntKind) (n : Nat) (xs : List Int) : Prop := xs.length = n ∧ ∀ x ∈ xs, inK k x
def encBools (xs : List Bool) : List Value := xs.map fun x => .bool x
def okBools (n : Nat) (xs : List Bool) : Prop := xs.length = n
theorem encInts_one (k : IntKind) (xs : List Int) : ∀ u ∈ encInts k xs, u.oneCell' = true := by simp [encInts, Value.oneCell']
theorem encBools_one (xs : List Bool) : ∀ u ∈ encBools xs, u.oneCell' = true := by
  intro u hu
  simp only [encBools, List.mem_map] at hu
  obtain ⟨x, _, rfl⟩ := hu
  rfl
def kInts (k : IntKind) (n : Nat) (h : 0 < n) : Kd (List Int) := .flat (encInts k) (okInts k n) n h (fun x hx => by simp [encInts, hx.1]) (encInts_one k)
def kBools (n : Nat) (h : 0 < n) : Kd (List Bool) := .flat encBools (okBools n) n h (fun x hx => by simp [encBools]; exact hx) encBools_one
section
variable {k : IntKind} {n : Nat} {xs : List Int} {bs : List Bool} {i v : Int}
theorem encInts_get (h : okInts k n xs) (h0 : 0 ≤ i) (h1 : i < (n : Int)) : (encInts k xs)[i.toNat]? = some (.int k (at_ xs i)) := by
  have hl := h.1
  rw [encInts, List.getElem?_map, at_some h0 (by omega)]
  rfl
theorem encBools_get (h : okBools n bs) (h0 : 0 ≤ i) (h1 : i < (n : Int)) : (encBools bs)[i.toNat]? = some (.bool (at_ bs i)) := by
  have hl : bs.length = n := h
  rw [encBools, List.getElem?_map, at_some h0 (by omega)]
  rfl
theorem okInts_set (h : okInts k n xs) (i : Nat) (hv : inK k v) : okInts k n (xs.set i v) := ⟨by rw [List.length_set]; exact h.1, fun x hx => by
  rcases List.mem_or_eq_of_mem_set hx with e | e
  · exact h.2 x e
  · rw [e]; exact hv⟩
theorem okBools_set (h : okBools n bs) (i : Nat) (v : Bool) : okBools n (bs.set i v) := by unfold okBools; rw [List.length_set]; exact h
theorem okInts_at (h : okInts k n xs) (h0 : 0 ≤ i) (h1 : i < (n : Int)) : inK k (at_ xs i) := h.2 _ (List.mem_of_getElem? (at_some h0 (by rw [h.1]; exact h1)))
theorem okInts_rep {v : Int} (hv : inK k v) (n : Nat) : okInts k n (List.replicate n v) := ⟨by simp, fun x hx => by rw [List.eq_of_mem_replicate hx]; exact hv⟩
theorem okBools_rep (n : Nat) (v : Bool) : okBools n (List.replicate n v) := by simp [okBools]
end
abbrev BSet := BitVec 256
def wd (s : BSet) (i : Nat) : Int := ((s.toNat / 2 ^ (64 * i) % 18446744073709551616 : Nat) : Int)
def words (s : BSet) : List Int := [wd s 0, wd s 1, wd s 2, wd s 3]
theorem wd_in (s : BSet) (i : Nat) : inK .u64 (wd s i) := by
  unfold wd
  refine in_u64 ?_ ?_ <;> omega
theorem okWords (s : BSet) : okInts .u64 4 (words s) := ⟨rfl, fun x hx => by simp [words] at hx; rcases hx with e | e | e | e <;> rw [e] <;> exact wd_in s _⟩
def encSet (s : BSet) : List Value := encInts .u64 (words s)
theorem encSet_one (s : BSet) : ∀ u ∈ encSet s, u.oneCell' = true := encInts_one _ _
def kSet : Kd BSet := .flat encSet (fun _ => True) 4 (by omega) (fun _ _ => rfl) encSet_one
def ofWords (xs : List Int) : BSet := BitVec.ofNat 256 ((at_ xs 0).toNat + (at_ xs 1).toNat * 18446744073709551616 + (at_ xs 2).toNat * 340282366920938463463374607431768211456 + (at_ xs 3).toNat * 6277101735386680763835789423207666416102355444464034512896)
theorem words_of {xs : List Int} (h : okInts .u64 4 xs) : words (ofWords xs) = xs := by
  obtain ⟨hl, hr⟩ := h
  match xs, hl with
  | [a, b, c, d], _ =>
    have ha := hr a (by simp); have hb := hr b (by simp); have hc := hr c (by simp); have hd := hr d (by simp)
    have a0 := u64_lo ha; have a1 := u64_hi ha; have b0 := u64_lo hb; have b1 := u64_hi hb; have c0 := u64_lo hc; have c1 := u64_hi hc; have d0 := u64_lo hd; have d1 := u64_hi hd
    have e0 : at_ [a, b, c, d] 0 = a := rfl
    have e1 : at_ [a, b, c, d] 1 = b := rfl
    have e2 : at_ [a, b, c, d] 2 = c := rfl
    have e3 : at_ [a, b, c, d] 3 = d := rfl
    obtain ⟨a', rfl⟩ := Int.eq_ofNat_of_zero_le a0
    obtain ⟨b', rfl⟩ := Int.eq_ofNat_of_zero_le b0
    obtain ⟨c', rfl⟩ := Int.eq_ofNat_of_zero_le c0
    obtain ⟨d', rfl⟩ := Int.eq_ofNat_of_zero_le d0
    have p : (2 : Nat) ^ 256 = 115792089237316195423570985008687907853269984665640564039457584007913129639936 := by decide
    have hN : (a' + b' * 18446744073709551616 + c' * 340282366920938463463374607431768211456 + d' * 6277101735386680763835789423207666416102355444464034512896) % 2 ^ 256 = a' + b' * 18446744073709551616 + c' * 340282366920938463463374607431768211456 + d' * 6277101735386680763835789423207666416102355444464034512896 := by
      apply Nat.mod_eq_of_lt; rw [p]; omega
    simp only [words, wd, ofWords, e0, e1, e2, e3, BitVec.toNat_ofNat, Int.toNat_natCast, hN, Nat.mul_zero, Nat.mul_one, Nat.reduceMul, Nat.reducePow, Nat.pow_zero, Nat.div_one]
    have q0 : (a' + b' * 18446744073709551616 + c' * 340282366920938463463374607431768211456 + d' * 6277101735386680763835789423207666416102355444464034512896) % 18446744073709551616 = a' := by omega
    have q1 : (a' + b' * 18446744073709551616 + c' * 340282366920938463463374607431768211456 + d' * 6277101735386680763835789423207666416102355444464034512896) / 18446744073709551616 % 18446744073709551616 = b' := by omega
    have q2 : (a' + b' * 18446744073709551616 + c' * 340282366920938463463374607431768211456 + d' * 6277101735386680763835789423207666416102355444464034512896) / 340282366920938463463374607431768211456 % 18446744073709551616 = c' := by omega
    have q3 : (a' + b' * 18446744073709551616 + c' * 340282366920938463463374607431768211456 + d' * 6277101735386680763835789423207666416102355444464034512896) / 6277101735386680763835789423207666416102355444464034512896 % 18446744073709551616 = d' := by omega
    rw [q0, q1, q2, q3]
theorem encSet_of {xs : List Int} (h : okInts .u64 4 xs) : encInts .u64 xs = encSet (ofWords xs) := by rw [encSet, words_of h]
theorem of_words (s : BSet) : ofWords (words s) = s := by
  apply BitVec.eq_of_toNat_eq
  have hs := s.isLt
  have p : (2 : Nat) ^ 256 = 115792089237316195423570985008687907853269984665640564039457584007913129639936 := by decide
  have e0 : at_ (words s) 0 = wd s 0 := rfl
  have e1 : at_ (words s) 1 = wd s 1 := rfl
  have e2 : at_ (words s) 2 = wd s 2 := rfl
  have e3 : at_ (words s) 3 = wd s 3 := rfl
  simp only [ofWords, e0, e1, e2, e3, BitVec.toNat_ofNat, wd, Int.toNat_natCast, Nat.mul_zero, Nat.mul_one, Nat.reduceMul, Nat.reducePow, Nat.pow_zero, Nat.div_one]
  rw [p] at hs
  omega
theorem words_inj {a b : BSet} (h : words a = words b) : a = b := by rw [← of_words a, ← of_words b, h]
end Gx
namespace Gx
open Go Go.RowKit
set_option linter.unusedSimpArgs false
set_option linter.unusedSectionVars false
set_option linter.unusedVariables false
def iand (a b : Int) : Int := ((a.toNat &&& b.toNat : Nat) : Int)
def ior (a b : Int) : Int := ((a.toNat ||| b.toNat : Nat) : Int)
theorem iand_nonneg (a b : Int) : 0 ≤ iand a b := by unfold iand; omega
theorem iand_le' {a b : Int} (h : 0 ≤ b) : iand a b ≤ b := by
  unfold iand
  have := Nat.and_le_right (n := a.toNat) (m := b.toNat)
  omega
theorem ior_in {a b : Int} (ha : inK .u64 a) (hb : inK .u64 b) : inK .u64 (ior a b) := by
  have a0 := u64_lo ha; have a1 := u64_hi ha; have b0 := u64_lo hb; have b1 := u64_hi hb
  have h := Nat.or_lt_two_pow (x := a.toNat) (y := b.toNat) (n := 64) (by omega) (by omega)
  unfold ior
  exact in_u64 (by omega) (by omega)
theorem pow_in {b : Int} (h0 : 0 ≤ b) (h1 : b < 64) : inK .u64 (2 ^ b.toNat) := by
  have h : (2 : Nat) ^ b.toNat < 2 ^ 64 := Nat.pow_lt_pow_right (by omega) (by omega)
  have e : ((2 : Int) ^ b.toNat) = (((2 : Nat) ^ b.toNat : Nat) : Int) := by simp
  rw [e]
  generalize (2 : Nat) ^ b.toNat = z at h
  exact in_u64 (by omega) (by omega)
theorem ofInt_toNat {a : Int} (h0 : 0 ≤ a) (h1 : a < 18446744073709551616) : (BitVec.ofInt 64 a).toNat = a.toNat := by
  rw [BitVec.toNat_ofInt]
  omega
section
variable {P : Program} {ρ : Env} {w w' : World} {d : Option Tmp} {ty : TypeId} {pos : String} {af : Array Edge} {g : Option (Nat × Bool)} {x y : Operand}
theorem guard_int {a b : Int} {k k' : IntKind} {t : TypeId} {o : BinOp} : (eqGuard o t x y (.int k a) (.int k' b)).run P w = .ok () w := by
  unfold eqGuard
  cases o <;> rfl
theorem x_com_u64 {a : Int} {t : TypeId} (hx : ev ρ x = .int .u64 a) (ha : inK .u64 a) : (execOp (ev ρ) ⟨d, .unOp .xor t x, ty, pos, af, g⟩).run P w = .ok (.value (.int .u64 (18446744073709551615 - a))) w := by
  have a0 := u64_lo ha; have a1 := u64_hi ha
  have h1 : (BitVec.ofInt 64 a).toNat = a.toNat := ofInt_toNat a0 (by omega)
  have h2 : (BitVec.ofInt 64 18446744073709551615).toNat = 18446744073709551615 := ofInt_toNat (by omega) (by omega)
  have h4 : (BitVec.ofInt 64 18446744073709551615 ^^^ BitVec.ofInt 64 a) = ~~~ (BitVec.ofInt 64 a) := by
    have : (BitVec.ofInt 64 18446744073709551615) = BitVec.allOnes 64 := by decide
    rw [this, BitVec.allOnes_xor]
  have h3 : IntKind.u64.wrap ((BitVec.ofInt 64 18446744073709551615 ^^^ BitVec.ofInt 64 a).toNat : Int) = 18446744073709551615 - a := by
    rw [h4, BitVec.toNat_not, h1]
    have e : (((2 : Nat) ^ 64 - 1 - a.toNat : Nat) : Int) = 18446744073709551615 - a := by
      have : (2 : Nat) ^ 64 = 18446744073709551616 := by decide
      rw [this]; omega
    rw [e]
    exact wrap_in (in_u64 (by omega) (by omega))
  simp only [execOp, hx]
  show ((Op.intBits .xor .u64 18446744073709551615 a >>= fun v => (pure (Next.value v) : Sem Next))).run P w = _
  rw [Sem.run_bind]
  show ((Sem.pure (Value.int .u64 (IntKind.u64.wrap ((BitVec.ofInt 64 18446744073709551615 ^^^ BitVec.ofInt 64 a).toNat : Int)))).run P w).andThen _ = _
  rw [h3]; rfl
theorem x_shr {a b : Int} {k yk : IntKind} {t t2 : TypeId} (hx : ev ρ x = .int k a) (hy : ev ρ y = .int yk b) (h0 : 0 ≤ b) (h1 : b.toNat ≤ k.bits) : (execOp (ev ρ) ⟨d, .binOp .shr t x y t2, ty, pos, af, g⟩).run P w = .ok (.value (.int k (a / 2 ^ b.toNat))) w := by
  have hn : ¬ b < 0 := by omega
  have hm : min b.toNat k.bits = b.toNat := by omega
  have hs : (Op.shift .shr k a yk b).run P w = .ok (.int k (a / 2 ^ b.toNat)) w := by
    unfold Op.shift
    rw [if_neg hn]
    simp only [hm]
    rw [Int.fdiv_eq_ediv_of_nonneg _ (Int.le_of_lt (Int.pow_pos (by omega)))]; rfl
  simp only [execOp, hx, hy, Sem.run_bind, guard_int, Result.andThen_ok]
  show ((Op.shift .shr k a yk b).run P w).andThen _ = _
  rw [hs]; rfl
theorem x_mul_wrap {k : IntKind} {a b : Int} {t t2 : TypeId} (hx : ev ρ x = .int k a) (hy : ev ρ y = .int k b) : (execOp (ev ρ) ⟨d, .binOp .mul t x y t2, ty, pos, af, g⟩).run P w = .ok (.value (.int k (k.wrap (a * b)))) w := by
  simp [execOp, hx, hy, eqGuard, binOp, Op.intArith, go_sem]
theorem x_max {k k2 : IntKind} {a b : Int} {ts : Array TypeId} (hx : ev ρ x = .int k a) (hy : ev ρ y = .int k2 b) : (execOp (ev ρ) ⟨d, .call ⟨.builtin .max, #[x, y], ts⟩, ty, pos, af, g⟩).run P w = .ok (.value (.int k (max a b))) w := by
  have e : (if b > a then b else a) = max a b := by omega
  simp [execOp, resolve, invoke, builtin, Builtin.max_, Builtin.max2, hx, hy, go_sem]
  omega
theorem x_min {k k2 : IntKind} {a b : Int} {ts : Array TypeId} (hx : ev ρ x = .int k a) (hy : ev ρ y = .int k2 b) : (execOp (ev ρ) ⟨d, .call ⟨.builtin .min, #[x, y], ts⟩, ty, pos, af, g⟩).run P w = .ok (.value (.int k (min a b))) w := by
  simp [execOp, resolve, invoke, builtin, Builtin.min_, Builtin.min2, hx, hy, go_sem]
  omega
theorem part_ints {E : TypeId} {k : IntKind} {xs : List Int} {n b' : Nat} {z : Option Value} (ht : tyInfo P E = some (1, b', false, z)) (hx : okInts k n xs) {i : Nat} (hi : i < n) : (part E (encInts k xs).toArray (i * 1)).run P w = .ok (.int k (at_ xs i)) w := by
  obtain ⟨ii, d2, hii, hd2, hsz, _, hg, _⟩ := tyInfo_parts ht
  have hg2 := encInts_get hx (i := (i : Int)) (by omega) (by omega)
  rw [Int.toNat_natCast] at hg2
  simp only [part, Sem.run_bind, run_isAgg hd2, hg, Result.andThen_ok, Bool.false_eq_true, if_false, Nat.mul_one, List.getElem?_toArray, hg2]
  rfl
theorem eqItems_ints {E : TypeId} {k : IntKind} {xs ys : List Int} {n b' : Nat} {z : Option Value} (hE : P.underlying E = some (.int k)) (ht : tyInfo P E = some (1, b', false, z)) (hx : okInts k n xs) (hy : okInts k n ys) (dd : Nat) : ∀ is : List Nat, (∀ i ∈ is, i < n) →
    (Op.eqItems (dd + 1) E 1 (encInts k xs).toArray (encInts k ys).toArray is).run P w = .ok (is.all fun i => at_ xs i == at_ ys i) w
  | [], _ => rfl
  | i :: is, h => by
    have hi := h i (by simp)
    simp only [Op.eqItems, Sem.run_bind, part_ints ht hx hi, part_ints ht hy hi, Result.andThen_ok, run_equalIn_int w dd E k k _ _ hE]
    cases hb : (at_ xs i == at_ ys i)
    · simp only [Bool.not_false, if_true, Sem.run_pure, List.all_cons, hb, Bool.false_and]
    · simp only [Bool.not_true, Bool.false_eq_true, if_false, List.all_cons, hb, Bool.true_and]
      exact eqItems_ints hE ht hx hy dd is (fun j hj => h j (by simp [hj]))
theorem eqIn_ints {len : Nat} {T E : TypeId} {k : IntKind} {xs ys : List Int} {b' : Nat} {z : Option Value} (hT : P.underlying T = some (.array len E)) (hE : P.underlying E = some (.int k)) (ht : tyInfo P E = some (1, b', false, z)) (hx : okInts k len xs) (hy : okInts k len ys) (dd : Nat) :
    (Op.equalIn (dd + 2) T (.agg (encInts k xs).toArray) (.agg (encInts k ys).toArray)).run P w = .ok (decide (xs = ys)) w := by
  obtain ⟨ii, d2, hii, hd2, hsz, _, hg, _⟩ := tyInfo_parts ht
  have hc : P.cellsOf E = 1 := by simp [Program.cellsOf, hii, hsz]
  rw [run_equalIn_array w (dd + 1) _ _ hT hii, hc, eqItems_ints hE ht hx hy dd _ (fun i hi => List.mem_range.1 hi)]
  congr 1
  rw [Bool.eq_iff_iff]
  simp only [List.all_eq_true, List.mem_range, beq_iff_eq, decide_eq_true_eq]
  constructor
  · intro h
    apply List.ext_getElem?
    intro i
    by_cases hi : i < len
    · have h1 := at_some (xs := xs) (i := (i : Int)) (by omega) (by rw [hx.1]; omega)
      have h2 := at_some (xs := ys) (i := (i : Int)) (by omega) (by rw [hy.1]; omega)
      rw [Int.toNat_natCast] at h1 h2
      rw [h1, h2, h i hi]
    · rw [List.getElem?_eq_none (by rw [hx.1]; omega), List.getElem?_eq_none (by rw [hy.1]; omega)]
  · intro e i _; rw [e]
theorem x_eql_set {a b : BSet} {t t2 E : TypeId} {b' : Nat} {z : Option Value} (hT : P.underlying t = some (.array 4 E)) (hE : P.underlying E = some (.int .u64)) (ht : tyInfo P E = some (1, b', false, z)) (hg : P.eqGuardType P.depth t = false) (hx : ev ρ x = .agg (encSet a).toArray) (hy : ev ρ y = .agg (encSet b).toArray) :
    (execOp (ev ρ) ⟨d, .binOp .eql t x y t2, ty, pos, af, g⟩).run P w = .ok (.value (.bool (decide (a = b)))) w := by
  have e : decide (words a = words b) = decide (a = b) := by
    by_cases h : a = b
    · subst h; simp
    · rw [decide_eq_false h, decide_eq_false (fun e => h (words_inj e))]
  have h1 := eqIn_ints (w := w) hT hE ht (okWords a) (okWords b) 9998
  simp only [execOp, hx, hy, Sem.run_bind, run_eqGuard_agg w .eql t x y _ _ hg, Result.andThen_ok, run_eql_struct, encSet, h1, e]
  rfl
theorem x_neq_set {a b : BSet} {t t2 E : TypeId} {b' : Nat} {z : Option Value} (hT : P.underlying t = some (.array 4 E)) (hE : P.underlying E = some (.int .u64)) (ht : tyInfo P E = some (1, b', false, z)) (hg : P.eqGuardType P.depth t = false) (hx : ev ρ x = .agg (encSet a).toArray) (hy : ev ρ y = .agg (encSet b).toArray) :
    (execOp (ev ρ) ⟨d, .binOp .neq t x y t2, ty, pos, af, g⟩).run P w = .ok (.value (.bool (decide (a ≠ b)))) w := by
  have e : (!decide (words a = words b)) = decide (a ≠ b) := by
    by_cases h : a = b
    · subst h; simp
    · rw [decide_eq_true h, decide_eq_false (fun e => h (words_inj e))]; rfl
  have h1 := eqIn_ints (w := w) hT hE ht (okWords a) (okWords b) 9998
  simp only [execOp, hx, hy, Sem.run_bind, run_eqGuard_agg w .neq t x y _ _ hg, Result.andThen_ok, run_neq_struct, encSet, h1, e]
  rfl
end
end Gx
namespace Gx
open Go Go.RowKit
set_option linter.unusedSimpArgs false
set_option linter.unusedVariables false
section
variable {P : Program} {w : World}
theorem run_build_array {T E : TypeId} {n m b' b2 : Nat} {gg g2 : Bool} {z : Option Value} {zv : Value} {pv : List (Nat × Value)} {cs : List Value} (hT : P.underlying T = some (.array n E)) (hE : tyInfo P E = some (m, b', gg, z)) (ht : tyInfo P T = some (n * m, b2, g2, some zv))
    (hf : Instr.fill (fun i => some (i * m, m)) zv.cells pv = some cs.toArray) : (Instr.build T pv.toArray).run P w = .ok (.agg cs.toArray) w := by
  obtain ⟨ii, d2, hii, hd2, hsz, _, hg, _⟩ := tyInfo_parts hE
  simp only [Instr.build, Sem.run_bind, zero_cells ht, Result.andThen_ok, run_underlying hT, rn_sizeOf hii, hsz, hf]
  rfl
end
section
variable {P : Program} {ρ : Env} {w w' : World} {d : Option Tmp} {ty : TypeId} {pos : String} {af : Array Edge} {g : Option (Nat × Bool)} {x y : Operand}
theorem y_makeFunc {fn : Fn} {fs cs : Array Operand} {fv cv : List Value} (hf : fs.toList.map (ev ρ) = fv) (hc : cs.toList.map (ev ρ) = cv) : (execOp (ev ρ) ⟨d, .makeFunc fn fs cs, ty, pos, af, g⟩).run P w = .ok (.value (.func fn fv.toArray cv.toArray)) w := by
  refine x_makeFunc ?_ ?_
  · subst hf; apply Array.ext'; simp
  · subst hc; apply Array.ext'; simp
theorem y_build_slice {T : TypeId} {len : Nat} {parts : Array (Nat × Operand)} {pv : List (Nat × Value)} {v : Value} (hp : parts.toList.map (fun p => (p.1, ev ρ p.2)) = pv) (hr : (Instr.buildSlice T len pv.toArray).run P w = .ok v w') : (execOp (ev ρ) ⟨d, .buildSlice T len parts, ty, pos, af, g⟩).run P w = .ok (.value v) w' := by
  refine x_build_slice ?_ hr
  subst hp; apply Array.ext'; simp
theorem y_build {T : TypeId} {parts : Array (Nat × Operand)} {pv : List (Nat × Value)} {v : Value} (hp : parts.toList.map (fun p => (p.1, ev ρ p.2)) = pv) (hr : (Instr.build T pv.toArray).run P w = .ok v w) : (execOp (ev ρ) ⟨d, .build T parts, ty, pos, af, g⟩).run P w = .ok (.value v) w := by
  refine x_build ?_ hr
  subst hp; apply Array.ext'; simp
end
section
variable {P : Program} {f n : Nat} {k : List Item} {ρ : Env} {w : World} {R : Ending → World → Prop} {ops : Array Oper}
end
structure Spot where
  set : BSet
  tag : Int
deriving DecidableEq
instance : Inhabited Spot := ⟨⟨0, 0⟩⟩
structure Mach where
  spots : List Spot
  first : List Int
  follow : List (List Int)
  last : List Bool
  empty : Bool
instance : Inhabited Mach := ⟨⟨[], [], [], [], false⟩⟩
def num : Nat → List Value → List (Nat × Value)
  | _, [] => []
  | k, v :: vs => (k, v) :: num (k + 1) vs
section
variable {P : Program} {w : World} {base : Bgn} {w0 : World} {h : Ghost} {L : List Asrt} {α : Type} [Inhabited α] {kd : Kd α} {xs : List α}
end
section
variable {P : Program} {ρ : Env} {w w' : World} {d : Option Tmp} {ty : TypeId} {pos : String} {af : Array Edge} {g : Option (Nat × Bool)} {x y : Operand}
theorem x_eql_nil {A : Option Addr} {l c : Nat} {t t2 e : TypeId} (hT : P.underlying t = some (.slice e)) (hx : ev ρ x = .slice A l c) (hy : ev ρ y = .slice none 0 0) : (execOp (ev ρ) ⟨d, .binOp .eql t x y t2, ty, pos, af, g⟩).run P w = .ok (.value (.bool A.isNone)) w := by
  have hg : (eqGuard .eql t x y (.slice A l c) (.slice none 0 0)).run P w = .ok () w := by unfold eqGuard; rfl
  have h1 := run_equalIn_slice_nil (P := P) (w := w) 9999 t e A l c hT
  simp only [execOp, hx, hy, Sem.run_bind, hg, Result.andThen_ok, binOp, Op.equal, Op.maxDepth]
  rw [show (10000 : Nat) = 9999 + 1 from rfl, h1]
  rfl
theorem x_neq_nil {A : Option Addr} {l c : Nat} {t t2 e : TypeId} (hT : P.underlying t = some (.slice e)) (hx : ev ρ x = .slice A l c) (hy : ev ρ y = .slice none 0 0) : (execOp (ev ρ) ⟨d, .binOp .neq t x y t2, ty, pos, af, g⟩).run P w = .ok (.value (.bool (!A.isNone))) w := by
  have hg : (eqGuard .neq t x y (.slice A l c) (.slice none 0 0)).run P w = .ok () w := by unfold eqGuard; rfl
  have h1 := run_equalIn_slice_nil (P := P) (w := w) 9999 t e A l c hT
  simp only [execOp, hx, hy, Sem.run_bind, hg, Result.andThen_ok, binOp, Op.equal, Op.maxDepth]
  rw [show (10000 : Nat) = 9999 + 1 from rfl, h1]
  rfl
theorem leads_isNone {α : Type} [Inhabited α] {k : Kd α} {h : Ghost} {A : Option Addr} {xs : List α} (hl : Leads k h A xs) (hn : A.isNone = true) : xs = [] := by
  cases xs with
  | nil => rfl
  | cons a l =>
    obtain ⟨ad, e, _⟩ := hl (by simp)
    rw [e] at hn; cases hn
end
theorem fold_lput (off : Nat) : ∀ (seg : List Value) (n : Nat) (cs : List Value), (seg.zipIdx n).foldl (fun (cs : Array Value) (p : Value × Nat) => cs.setIfInBounds (off + p.2) p.1) cs.toArray = (lput cs (off + n) seg).toArray
  | [], n, cs => rfl
  | v :: seg, n, cs => by
    simp only [List.zipIdx_cons, List.foldl_cons, lput]
    have e : cs.toArray.setIfInBounds (off + n) v = (cs.set (off + n) v).toArray := by simp
    rw [e, fold_lput off seg (n + 1)]
    rfl
theorem fill_segs (m : Nat) : ∀ (vs : List (Value × List Value)) (k : Nat) (cs : List Value), (∀ p ∈ vs, p.1.cells = p.2.toArray ∧ p.2.length = m) → (k + vs.length) * m ≤ cs.length →
    Instr.fill (fun i => some (i * m, m)) cs.toArray (num k (vs.map (·.1))) = some (cs.take (k * m) ++ vs.flatMap (·.2) ++ cs.drop ((k + vs.length) * m)).toArray
  | [], k, cs, _, _ => by simp [num, Instr.fill]
  | p :: vs, k, cs, h1, h2 => by
    obtain ⟨hv, hl⟩ := h1 p (by simp)
    simp only [List.length_cons] at h2
    have hkm : k * m + m ≤ cs.length := by
      have : (k + 1) * m ≤ (k + (vs.length + 1)) * m := Nat.mul_le_mul_right m (by omega)
      rw [Nat.add_mul, Nat.one_mul] at this
      omega
    have hns : ¬ (p.1.cells.size ≠ m ∨ k * m + p.1.cells.size > cs.length) := by rw [hv]; simp [hl]; omega
    simp only [List.map_cons, num, Instr.fill]
    rw [if_neg (by simpa using hns)]
    have e : (p.1.cells.zipIdx.foldl (fun cs (c, j) => cs.setIfInBounds (k * m + j) c) cs.toArray) = (lput cs (k * m) p.2).toArray := by
      rw [hv, ← Array.foldl_toList]
      have := fold_lput (k * m) p.2 0 cs
      rw [Nat.add_zero] at this
      simpa using this
    have hll : (lput cs (k * m) p.2).length = cs.length := lput_length _ _ _
    rw [e, fill_segs m vs (k + 1) _ (fun q hq => h1 q (by simp [hq])) (by rw [hll]; rw [show k + 1 + vs.length = k + (vs.length + 1) by omega]; exact h2)]
    congr 2
    rw [lput_eq p.2 cs (k * m) (by omega), hl]
    have e1 : (k + 1) * m = k * m + m := by rw [Nat.add_mul, Nat.one_mul]
    have hlk : (cs.take (k * m)).length = k * m := by rw [List.length_take]; omega
    have e2 : k + 1 + vs.length = k + (vs.length + 1) := by omega
    rw [e1, e2, List.flatMap_cons, List.length_cons]
    have t1 : (cs.take (k * m) ++ p.2 ++ cs.drop (k * m + m)).take (k * m + m) = cs.take (k * m) ++ p.2 := by
      rw [List.take_append_of_le_length (by rw [List.length_append, hlk, hl]; exact Nat.le_refl _), List.take_of_length_le (by rw [List.length_append, hlk, hl]; exact Nat.le_refl _)]
    have hge : k * m + m ≤ (k + (vs.length + 1)) * m := by rw [← e1]; exact Nat.mul_le_mul_right m (by omega)
    have t2 : (cs.take (k * m) ++ p.2 ++ cs.drop (k * m + m)).drop ((k + (vs.length + 1)) * m) = cs.drop ((k + (vs.length + 1)) * m) := by
      rw [List.drop_append, List.length_append, hlk, hl, List.drop_of_length_le (by rw [List.length_append, hlk, hl]; exact hge), List.nil_append, List.drop_drop]
      congr 1; omega
    rw [t1, t2]
    simp only [List.append_assoc]
section
variable {P : Program} {w : World} {base : Bgn} {w0 : World} {h : Ghost} {L : List Asrt} {α : Type} [Inhabited α] {kd : Kd α} {xs : List α}
theorem e_build_segs {T E : TypeId} {m b' len : Nat} {gg : Bool} {zv : Value} (vs : List (Value × List Value)) (S : St base w0 h w L) (hT : P.underlying T = some (.slice E)) (ht : tyInfo P E = some (m, b', gg, some zv)) (hm : kd.sz = m) (hlen : xs.length = len) (hl2 : vs.length = len) (hsmall : Nat.ble (len * m) 100000 = true)
    (h1 : ∀ p ∈ vs, p.1.cells = p.2.toArray ∧ p.2.length = m) {cs : List Value} (hel : Elems kd h xs cs) (hcs : cs = vs.flatMap (·.2)) :
    ∃ v w', (Instr.buildSlice T len (num 0 (vs.map (·.1))).toArray).run P w = .ok v w' ∧ Chg w w' (fun _ => False) ∧ St base w0 h w' (L ++ [row E kd v xs]) := by
  subst hl2
  subst hcs
  refine e_build S hT ht hm hlen hsmall rfl ?_ hel
  have e : ∀ (z : Array Value) (n : Nat), ((Array.range n).map (z[· % z.size]!)) = (((Array.range n).map (z[· % z.size]!)).toList).toArray := fun _ _ => rfl
  rw [e, fill_segs m vs 0 _ h1 (by simp)]
  simp
end
end Gx
namespace Gx
open Go Go.RowKit
set_option linter.unusedSimpArgs false
set_option linter.unusedVariables false
section
variable {P : Program} {ρ : Env} {w : World} {ty : TypeId} {pos : String} {af : Array Edge} {x y : Operand}
end
section
variable {α : Type} {kd : Kd α} {h : Ghost} {A : Option Addr} {xs : List α}
variable {P : Program} {w : World}
theorem Leads.cellsG {w : World} {A : Addr} {ys : List α} (hle : Le h (hp w)) (hl : Leads kd h (some A) ys) : ∃ news, Elems kd h ys news ∧ ∀ j u, news[j]? = some u → w.cell? (A.add j) = some u := by
  rcases ys with _ | ⟨y0, ys'⟩
  · exact ⟨[], Elems.nil _ _, fun j u hj => by simp at hj⟩
  generalize hys : y0 :: ys' = ys at hl
  obtain ⟨ad, hA, hx⟩ := hl (by rw [← hys]; simp)
  injection hA with hA
  subst hA
  let news := (List.range (ys.length * kd.sz)).map fun j => (w.cell? (A.add j)).getD undef
  have hlen : news.length = ys.length * kd.sz := by simp [news]
  have hget : ∀ i e, ys[i]? = some e → ∃ seg, kd.rep h e seg ∧ ∀ q, q < kd.sz → w.cell? (A.add (i * kd.sz + q)) = seg[q]? := fun i e he => by
    obtain ⟨seg, h1, h2⟩ := hx i e he
    refine ⟨seg, h1, fun q hq => ?_⟩
    have hql : q < seg.length := by rw [kd.len h1]; exact hq
    rw [List.getElem?_eq_getElem hql]
    exact gcell_world hle (h2 q _ (List.getElem?_eq_getElem hql))
  have hcell : ∀ j u, news[j]? = some u → w.cell? (A.add j) = some u := fun j u hj => by
    have hjl : j < ys.length * kd.sz := by rw [← hlen]; exact (List.getElem?_eq_some_iff.1 hj).1
    have hi : j / kd.sz < ys.length := by rw [Nat.div_lt_iff_lt_mul kd.pos]; exact hjl
    obtain ⟨seg, h1, h2⟩ := hget (j / kd.sz) _ (List.getElem?_eq_getElem hi)
    have h3 := h2 (j % kd.sz) (Nat.mod_lt _ kd.pos)
    rw [Nat.mul_comm, Nat.div_add_mod] at h3
    have hql : j % kd.sz < seg.length := by rw [kd.len h1]; exact Nat.mod_lt _ kd.pos
    rw [List.getElem?_eq_getElem hql] at h3
    simp only [news, List.getElem?_map, List.getElem?_range hjl, Option.map_some, h3, Option.getD_some, Option.some.injEq] at hj
    rw [h3, hj]
  refine ⟨news, ⟨hlen, fun i e he => ?_⟩, hcell⟩
  obtain ⟨seg, h1, h2⟩ := hget i e he
  have hi : i < ys.length := (List.getElem?_eq_some_iff.1 he).1
  have hfit : i * kd.sz + kd.sz ≤ ys.length * kd.sz := by rw [← Nat.succ_mul]; exact Nat.mul_le_mul_right _ hi
  have : (news.drop (i * kd.sz)).take kd.sz = seg := by
    apply List.ext_getElem?
    intro q
    rw [List.getElem?_take]
    split
    · rename_i hq
      rw [List.getElem?_drop, List.getElem?_eq_getElem (by omega)]
      have := hcell _ _ (List.getElem?_eq_getElem (show i * kd.sz + q < news.length by omega))
      rw [← h2 q hq, this]
    · rw [List.getElem?_eq_none (by rw [kd.len h1]; omega)]
  rw [this]; exact h1
theorem news_read {w w0 : World} {base : Bgn} {L : List Asrt} {A : Option Addr} {ys : List α} (S : St base w0 h w L) (hl : Leads kd h A ys) : News kd h w A ys := by
  rcases A with _ | ad
  · left
    refine ⟨rfl, ?_⟩
    rcases ys with _ | ⟨a, b⟩
    · rfl
    · obtain ⟨_, e, _⟩ := hl (by simp); cases e
  · obtain ⟨news, h1, h2⟩ := hl.cellsG S.ghost
    exact .inr ⟨ad, news, rfl, h1, h2⟩
end
end Gx
namespace Gx
open Go Go.RowKit
set_option linter.unusedSimpArgs false
set_option linter.unusedVariables false
set_option linter.unusedSectionVars false
def rows {α : Type} (T : TypeId) (k : Kd α) (us : List Value) (xss : List (List α)) (p : Nat → Bool) : Asrt where
  holds := fun h w F => us.length = xss.length ∧ ∃ G : Nat → Nat → Prop, (∀ i, i < xss.length → p i = true → (row T k (us.getD i default) (xss.getD i default)).holds h w (G i) ∧ ∀ b, G i b → F b) ∧
    ∀ i j, i < xss.length → j < xss.length → p i = true → p j = true → i ≠ j → ∀ b, G i b → ¬ G j b
  mono := fun hl ⟨hn, G, h1, h2⟩ => ⟨hn, G, fun i hi hp => ⟨(row T k _ _).mono hl (h1 i hi hp).1, (h1 i hi hp).2⟩, h2⟩
  far := fun hf ⟨hn, G, h1, h2⟩ => ⟨hn, G, fun i hi hp => ⟨(row T k _ _).far (fun b hb => hf b ((h1 i hi hp).2 b hb)) (h1 i hi hp).1, (h1 i hi hp).2⟩, h2⟩
section
variable {base : Bgn} {w0 w : World} {h : Ghost} {L : List Asrt}
theorem St.split (S : St base w0 h w L) {j : Nat} {A A1 A2 : Asrt} (hj : L[j]? = some A)
    (hm : ∀ F, A.holds h w F → ∃ F1 F2, A1.holds h w F1 ∧ A2.holds h w F2 ∧ (∀ b, F1 b → F b) ∧ (∀ b, F2 b → F b) ∧ ∀ b, F1 b → ¬ F2 b) : St base w0 h w (L.set j A1 ++ [A2]) := by
  obtain ⟨Fs, hF, hD⟩ := S.sep
  obtain ⟨hA, hU⟩ := hF j A hj
  obtain ⟨F1, F2, h1, h2, s1, s2, hd⟩ := hm _ hA
  have hl : j < L.length := (List.getElem?_eq_some_iff.1 hj).1
  refine ⟨S.below, S.bsz, S.ghost, S.dom, fun i => if i = L.length then F2 else if i = j then F1 else Fs i, fun i B hi => ?_, fun i m hi hm' him b hb1 hb2 => ?_⟩
  · by_cases hil : i = L.length
    · subst hil
      rw [List.getElem?_append_right (by simp)] at hi
      simp at hi
      subst hi
      simp only [if_true]
      exact ⟨h2, fun b hb => hU b (s2 b hb)⟩
    · simp only [if_neg hil]
      have hlt : i < L.length := by
        have := (List.getElem?_eq_some_iff.1 hi).1
        simp at this; omega
      rw [List.getElem?_append_left (by simpa using hlt)] at hi
      by_cases hij : i = j
      · subst hij
        rw [List.getElem?_set_self hl] at hi
        injection hi with hi
        subst hi
        simp only [if_true]
        exact ⟨h1, fun b hb => hU b (s1 b hb)⟩
      · rw [List.getElem?_set_ne (fun e => hij e.symm)] at hi
        simp only [if_neg hij]
        exact hF i B hi
  · simp only [List.length_append, List.length_set, List.length_cons, List.length_nil] at hi hm'
    have old : ∀ i, i < L.length → i ≠ j → ∀ b, Fs j b → ¬ Fs i b := fun i hi hij b hb hb' => hD j i hl hi (fun e => hij e.symm) b hb hb'
    by_cases e1 : i = L.length <;> by_cases e2 : m = L.length
    · omega
    · simp only [if_pos e1] at hb1; simp only [if_neg e2] at hb2
      by_cases e3 : m = j
      · simp only [if_pos e3] at hb2; exact hd b hb2 hb1
      · simp only [if_neg e3] at hb2; exact old m (by omega) e3 b (s2 b hb1) hb2
    · simp only [if_neg e1] at hb1; simp only [if_pos e2] at hb2
      by_cases e3 : i = j
      · simp only [if_pos e3] at hb1; exact hd b hb1 hb2
      · simp only [if_neg e3] at hb1; exact old i (by omega) e3 b (s2 b hb2) hb1
    · simp only [if_neg e1] at hb1; simp only [if_neg e2] at hb2
      by_cases e3 : i = j
      · simp only [if_pos e3] at hb1
        have e4 : m ≠ j := fun e => him (by rw [e3, e])
        simp only [if_neg e4] at hb2
        exact old m (by omega) e4 b (s1 b hb1) hb2
      · simp only [if_neg e3] at hb1
        by_cases e4 : m = j
        · simp only [if_pos e4] at hb2; exact old i (by omega) e3 b (s1 b hb2) hb1
        · simp only [if_neg e4] at hb2; exact hD i m (by omega) (by omega) him b hb1 hb2
end
section
variable {base : Bgn} {w0 w : World} {h : Ghost} {L : List Asrt} {α : Type} {k : Kd α} {T : TypeId} {us us2 : List Value} {xss xss2 : List (List α)} {ys : List α} {v : Value} {i j : Nat} {q : Int}
end
end Gx
namespace Gx
open Go Go.RowKit
set_option linter.unusedSimpArgs false
set_option linter.unusedVariables false
set_option linter.unusedSectionVars false
theorem lput_part {cs vs : List Value} {a n o : Nat} (h1 : a + n ≤ cs.length) (h2 : o + vs.length ≤ n) : lput cs a (lput ((cs.drop a).take n) o vs) = lput cs (a + o) vs := by
  have hs : ((cs.drop a).take n).length = n := by rw [List.length_take, List.length_drop]; omega
  apply List.ext_getElem?
  intro p
  rw [lput_get _ cs a p (by rw [lput_length, hs]; exact h1), lput_get vs cs (a + o) p (by omega), lput_length, hs]
  by_cases e1 : a ≤ p ∧ p < a + n
  · rw [if_pos e1, lput_get vs _ o (p - a) (by rw [hs]; exact h2)]
    by_cases e2 : o ≤ p - a ∧ p - a < o + vs.length
    · rw [if_pos e2, if_pos (by omega)]; congr 1; omega
    · rw [if_neg e2, if_neg (by omega), List.getElem?_take, if_pos (by omega), List.getElem?_drop]; congr 1; omega
  · rw [if_neg e1, if_neg (by omega)]
section
variable {P : Program} {w : World} {base : Bgn} {w0 : World} {h : Ghost} {L : List Asrt}
variable {α : Type} [Inhabited α] {kd : Kd α} {xs : List α}
theorem e_store_part {j : Nat} {v u : Value} {q : Int} {T E : TypeId} {m n o b' : Nat} {gg : Bool} {z : Option Value} {ad : Addr} (e : α) {vs : List Value} (S : St base w0 h w L) (ht : tyInfo P T = some (m, b', gg, z)) (hm : kd.sz = n)
    (hj : L[j]? = some (row E kd v xs)) (hc : u.cells = vs.toArray) (hv1 : ∀ u ∈ vs, u.oneCell' = true) (hlen : vs.length = m) (hfit0 : o + m ≤ n) (hr : ∀ seg, kd.rep h (at_ xs q) seg → kd.rep h e (lput seg o vs)) (hat : AtOwn v n q ad) (h0 : 0 ≤ q) (hq : q < (xs.length : Int)) :
    ∃ w', (storeVar T (ad.add o) u).run P w = .ok () w' ∧ Chg w w' (fun b => v.ownBlock = some b) ∧ St base w0 h w' (L.set j (row E kd v (xs.set q.toNat e))) := by
  obtain ⟨Fs, hF, _⟩ := S.sep
  obtain ⟨g, hg, rfl⟩ := hat
  subst hm
  have hql : q.toNat < xs.length := by omega
  obtain ⟨⟨cs, hown, hel, hfo⟩, _⟩ := hF j _ hj
  rcases hown.2 with ⟨_, he⟩ | ⟨g', cap, cur, hv, hb, hh, hl, hcap, hcs, htk⟩
  · omega
  have hgg : g' = g := by rw [hv] at hg; simpa [Value.ownBlock] using hg
  subst hgg
  have hlt : g' < w.heap.size := (Array.getElem?_eq_some_iff.1 hh).1
  have hfit : q.toNat * kd.sz + kd.sz ≤ xs.length * kd.sz := by rw [← Nat.succ_mul]; exact Nat.mul_le_mul_right _ hql
  have hcap' : xs.length * kd.sz ≤ cap * kd.sz := Nat.mul_le_mul_right _ hl
  have hh' : w.heap[g']? = some (.cells cur.toList.toArray E (0, 0)) := by rw [hh]
  have hcl : cur.toList.length = cap * kd.sz := by rw [Array.length_toList]; exact hcs
  have hx : xs[q.toNat]? = some (at_ xs q) := at_some h0 hq
  have hseg := hel.2 _ _ hx
  have hr' := hr _ hseg
  have same : (cur.toList.drop (q.toNat * kd.sz)).take kd.sz = (cs.drop (q.toNat * kd.sz)).take kd.sz := by
    apply List.ext_getElem?
    intro p
    rw [List.getElem?_take, List.getElem?_take]
    split
    · rw [List.getElem?_drop, List.getElem?_drop, ← htk, List.getElem?_take, if_pos (by omega)]
    · rfl
  have hvl := kd.len hr'
  have S' : St base w0 h (putBlock w g' E (lput cur.toList (q.toNat * kd.sz) (lput ((cs.drop (q.toNat * kd.sz)).take kd.sz) o vs))) (L.set j (row E kd v (xs.set q.toNat e))) := by
    refine S.upd hj fun F hF' hFU => ?_
    obtain ⟨cs2, hown2, hel2, hfo2⟩ := hF'
    have hFg : F g' := hfo2 g' hg
    refine ⟨(putBlock_chg w g' E _).mono (fun b hb => by subst hb; exact hFg), F, ⟨lput cs (q.toNat * kd.sz) (lput ((cs.drop (q.toNat * kd.sz)).take kd.sz) o vs), ⟨?_, .inr ⟨g', cap, (lput cur.toList (q.toNat * kd.sz) (lput ((cs.drop (q.toNat * kd.sz)).take kd.sz) o vs)).toArray, ?_, hb, putBlock_at hlt _ _, ?_, hcap, ?_, ?_⟩⟩, drop_take_set hel hql hr', hfo2⟩, fun b hb => .inl hb⟩
    · rw [lput_length, hown.1, List.length_set]
    · rw [hv, List.length_set]
    · rw [List.length_set]; exact hl
    · simp [lput_length, hcs]
    · rw [List.length_set]
      show (lput cur.toList (q.toNat * kd.sz) _).take _ = _
      apply List.ext_getElem?
      intro p
      rw [List.getElem?_take, lput_get _ cur.toList _ _ (by omega), lput_get _ cs _ _ (by rw [hown.1]; omega)]
      split
      · split
        · rfl
        · rw [← htk, List.getElem?_take, if_pos (by assumption)]
      · rw [if_neg (by omega), List.getElem?_eq_none (by rw [hown.1]; omega)]
  have hrun := run_storeVar_box (P := P) (v := u) (off := q.toNat * kd.sz + o) ht hh' (by rw [hc]; simpa using hlen) (by omega) (by rw [hc]; simpa using hv1)
  rw [hc] at hrun
  have e2 : lput cur.toList (q.toNat * kd.sz + o) vs = lput cur.toList (q.toNat * kd.sz) (lput ((cs.drop (q.toNat * kd.sz)).take kd.sz) o vs) := by
    rw [← same, lput_part (by omega) (by omega)]
  rw [← e2] at S'
  have e3 : (⟨g', q.toNat * kd.sz, none⟩ : Addr).add o = ⟨g', q.toNat * kd.sz + o, none⟩ := by
    unfold Addr.add; split
    · rename_i e; rw [e]; rfl
    · rfl
  rw [e3]
  exact ⟨_, hrun, (putBlock_chg w g' E _).mono (fun b hb => by subst hb; exact hg), S'⟩
end
end Gx
namespace Gx
open Go Go.RowKit
set_option linter.unusedSimpArgs false
set_option linter.unusedVariables false
def bitAt (ws : List Int) (i : Nat) : Bool := (at_ ws ((i / 64 : Nat) : Int)).toNat.testBit (i % 64)
theorem at_words (s : BSet) {k : Nat} (hk : k < 4) : at_ (words s) (k : Int) = wd s k := by
  match k, hk with
  | 0, _ => rfl
  | 1, _ => rfl
  | 2, _ => rfl
  | 3, _ => rfl
theorem wd_bit (s : BSet) (k : Nat) {j : Nat} (hj : j < 64) : (wd s k).toNat.testBit j = s.getLsbD (64 * k + j) := by
  unfold wd
  rw [Int.toNat_natCast]
  have e : (18446744073709551616 : Nat) = 2 ^ 64 := by decide
  rw [e, Nat.testBit_mod_two_pow, Nat.testBit_div_two_pow]
  simp only [hj, decide_true, Bool.true_and]
  rw [BitVec.testBit_toNat]
  congr 1
  omega
theorem bit_words (s : BSet) {i : Nat} (hi : i < 256) : bitAt (words s) i = s.getLsbD i := by
  unfold bitAt
  rw [at_words s (by omega), wd_bit s _ (by omega)]
  congr 1; omega
theorem at_set {α : Type} [Inhabited α] {xs : List α} {i j : Int} {v : α} (hi : 0 ≤ i) (hi' : i < (xs.length : Int)) (hj : 0 ≤ j) : at_ (xs.set i.toNat v) j = if j = i then v else at_ xs j := by
  unfold at_
  rw [List.getD_eq_getElem?_getD, List.getD_eq_getElem?_getD, List.getElem?_set]
  by_cases h : j = i
  · subst h; rw [if_pos rfl, if_pos rfl, if_pos (by omega)]; rfl
  · rw [if_neg (by omega), if_neg h]
theorem ior_bit (a b : Int) (j : Nat) : (ior a b).toNat.testBit j = (a.toNat.testBit j || b.toNat.testBit j) := by
  unfold ior; rw [Int.toNat_natCast, Nat.testBit_or]
def has (s : BSet) (c : Int) : Bool := s.getLsbD c.toNat
def ofPred (p : Nat → Bool) : BSet := (List.range 256).foldl (fun s i => if p i then s ||| BitVec.twoPow 256 i else s) 0
def setOf (bs : List Int) : BSet := ofPred fun i => decide ((i : Int) ∈ bs)
def members (ws : List Int) : List Bool := (List.range 256).map fun i => bitAt ws i
end Gx
namespace Gx
open Go Go.RowKit
set_option linter.unusedSimpArgs false
set_option linter.unusedVariables false
def elemsTo (s : BSet) (n : Nat) : List Nat := (List.range n).filter fun i => s.getLsbD i
def elems (s : BSet) : List Nat := elemsTo s 256
def ints (l : List Nat) : List Int := l.map fun (i : Nat) => ((i : Nat) : Int)
def listOf (s : BSet) : List Int := ints (elems s)
def count (s : BSet) : Int := ((elems s).length : Nat)
def first (s : BSet) : Int := ((elems s).head?.getD 0 : Nat)
def wbits (x : Nat) : List Nat := (List.range 64).filter fun i => x.testBit i
theorem range_add (a b : Nat) : List.range (a + b) = List.range a ++ (List.range b).map (a + ·) := by
  induction b with
  | zero => simp
  | succ b ih => rw [← Nat.add_assoc, List.range_succ, ih, List.range_succ]; simp
theorem elemsTo_word (s : BSet) (k : Nat) : elemsTo s (64 * (k + 1)) = elemsTo s (64 * k) ++ (wbits (wd s k).toNat).map (64 * k + ·) := by
  unfold elemsTo wbits
  rw [Nat.mul_add, Nat.mul_one, range_add, List.filter_append, List.filter_map]
  congr 2
  apply List.filter_congr
  intro j hj
  rw [wd_bit s k (by simpa using hj)]; rfl
theorem ints_app (a b : List Nat) : ints (a ++ b) = ints a ++ ints b := by simp [ints]
theorem mem_wbits {x i : Nat} : i ∈ wbits x ↔ i < 64 ∧ x.testBit i = true := by simp [wbits]
theorem wbits_nil {x : Nat} (hx : x < 18446744073709551616) : wbits x = [] ↔ x = 0 := by
  constructor
  · intro h
    apply Nat.eq_of_testBit_eq
    intro i
    rw [Nat.zero_testBit]
    by_cases hi : i < 64
    · cases hb : x.testBit i
      · rfl
      · have : i ∈ wbits x := mem_wbits.2 ⟨hi, hb⟩
        rw [h] at this; cases this
    · apply Nat.testBit_lt_two_pow
      have h64 : (2 : Nat) ^ 64 = 18446744073709551616 := by decide
      have : (2 : Nat) ^ 64 ≤ 2 ^ i := Nat.pow_le_pow_right (by omega) (by omega)
      omega
  · rintro rfl
    unfold wbits
    rw [List.filter_eq_nil_iff]
    intro i _
    simp
theorem ctz_at {x : Nat} (h0 : x ≠ 0) (hx : x < 18446744073709551616) : ∃ m, x = 2 ^ Lib.ctz 64 x * (2 * m + 1) ∧ Lib.ctz 64 x < 64 := by
  have h64 : (2 : Nat) ^ 64 = 18446744073709551616 := by decide
  obtain ⟨m, hm, hk⟩ := Lib.ctzFrom_spec 64 x (by omega) (by omega)
  have e : Lib.ctz 64 x = Lib.ctzFrom 64 x := by simp [Lib.ctz, h0]
  rw [e]
  exact ⟨m, hm, hk⟩
theorem filter_head {p : Nat → Bool} {n k : Nat} (hk : k < n) (hp : p k = true) (hl : ∀ i, i < k → p i = false) : (List.range n).filter p = k :: ((List.range n).filter fun i => p i && decide (i ≠ k)) := by
  obtain ⟨d, rfl⟩ : ∃ d, n = k + (1 + d) := ⟨n - k - 1, by omega⟩
  rw [range_add, range_add]
  simp only [List.filter_append, List.filter_map, List.map_append]
  have e1 : (List.range k).filter p = [] := by
    rw [List.filter_eq_nil_iff]; intro i hi; rw [hl i (by simpa using hi)]; simp
  have e2 : (List.range k).filter (fun i => p i && decide (i ≠ k)) = [] := by
    rw [List.filter_eq_nil_iff]; intro i hi; rw [hl i (by simpa using hi)]; simp
  rw [e1, e2]
  have e3 : List.range 1 = [0] := rfl
  rw [e3]
  simp only [List.map_cons, List.map_nil, List.nil_append, Function.comp_def, List.filter_cons, List.filter_nil, Nat.add_zero, hp, if_true]
  simp only [Bool.true_and, ne_eq, not_true_eq_false, decide_false, Bool.false_eq_true, if_false, List.map_nil, List.nil_append, List.cons_append, List.map_cons, Nat.add_zero]
  congr 2
  congr 1
  apply List.filter_congr
  intro j hj
  simp
theorem wbits_step {x : Nat} (h0 : x ≠ 0) (hx : x < 18446744073709551616) : wbits x = Lib.ctz 64 x :: wbits (x &&& (x - 1)) := by
  obtain ⟨m, hm, hk⟩ := ctz_at h0 hx
  generalize Lib.ctz 64 x = k at hm hk
  have hbit : ∀ i, x.testBit i = (decide (k ≤ i) && (2 * m + 1).testBit (i - k)) := fun i => by rw [hm, Nat.testBit_two_pow_mul]
  have hp : x.testBit k = true := by rw [hbit]; simp
  have hl : ∀ i, i < k → x.testBit i = false := fun i hi => by rw [hbit, decide_eq_false (by omega)]; rfl
  have hand : ∀ i, (x &&& (x - 1)).testBit i = (x.testBit i && decide (i ≠ k)) := fun i => by
    rw [Nat.testBit_and]
    have hx1 : x - 1 = 2 ^ k * (2 * m) + (2 ^ k - 1) := by
      have hpos : 0 < 2 ^ k := Nat.two_pow_pos k
      have e : 2 ^ k * (2 * m + 1) = 2 ^ k * (2 * m) + 2 ^ k := by rw [Nat.mul_add, Nat.mul_one]
      omega
    by_cases hi : i < k
    · rw [hl i hi]; simp
    · rw [hx1, Nat.testBit_two_pow_mul_add _ (Nat.sub_lt (Nat.two_pow_pos k) (by omega)), if_neg hi]
      by_cases hik : i = k
      · subst hik; simp
      · rw [decide_eq_true hik, Bool.and_true, hbit, decide_eq_true (by omega), Bool.true_and]
        obtain ⟨d, rfl⟩ : ∃ d, i = k + (d + 1) := ⟨i - k - 1, by omega⟩
        have e : k + (d + 1) - k = d + 1 := by omega
        rw [e, Nat.testBit_succ, Nat.testBit_succ]
        have e1 : (2 * m + 1) / 2 = m := by omega
        have e2 : 2 * m / 2 = m := by omega
        rw [e1, e2, Bool.and_self]
  have hf : (List.range 64).filter (fun i => x.testBit i && decide (i ≠ k)) = wbits (x &&& (x - 1)) := by
    unfold wbits
    apply List.filter_congr
    intro i _
    rw [hand i]
  rw [← hf]
  exact filter_head (p := fun i => x.testBit i) hk hp hl
theorem iand_pred_lt {x : Int} (h : 0 < x) : (iand x (x - 1)).toNat < x.toNat := by
  have := iand_le' (a := x) (b := x - 1) (by omega)
  have := iand_nonneg x (x - 1)
  omega
theorem iand_pred {x : Int} (h : 0 < x) : (iand x (x - 1)).toNat = x.toNat &&& (x.toNat - 1) := by
  unfold iand
  rw [Int.toNat_natCast]
  congr 1
  omega
def cnt (s : BSet) (t : Int) : Int := ((elemsTo s (64 * t.toNat)).length : Nat)
theorem cnt_4 (s : BSet) : cnt s 4 = count s := rfl
theorem elemsTo_le (s : BSet) (n : Nat) : (elemsTo s n).length ≤ n := by
  have := List.length_filter_le (fun i => s.getLsbD i) (List.range n)
  simpa [elemsTo] using this
theorem cnt_le (s : BSet) {t : Int} (h : t ≤ 4) : 0 ≤ cnt s t ∧ cnt s t ≤ 256 := by
  unfold cnt
  have := elemsTo_le s (64 * t.toNat)
  omega
def rowTo (s : BSet) (t : Int) : List Int := ints (elemsTo s (64 * t.toNat))
def wrow (t x : Int) : List Int := (wbits x.toNat).map fun (i : Nat) => t * 64 + ((i : Nat) : Int)
theorem rowTo_step (s : BSet) {t : Int} (h0 : 0 ≤ t) (h1 : t < 4) : rowTo s t ++ wrow t (at_ (words s) t) = rowTo s (t + 1) := by
  obtain ⟨k, rfl⟩ := Int.eq_ofNat_of_zero_le h0
  unfold rowTo wrow
  rw [show ((k : Int) + 1).toNat = k + 1 by omega, Int.toNat_natCast, elemsTo_word, ints_app, at_words s (by omega)]
  congr 1
  simp [ints]
  intro i _
  omega
theorem wrow_nil (t : Int) : wrow t 0 = [] := by
  have : wbits (0 : Int).toNat = [] := (wbits_nil (by decide)).2 rfl
  unfold wrow; rw [this]; rfl
theorem wrow_step (t : Int) {x : Int} (h0 : 0 < x) (h1 : x ≤ 18446744073709551615) : wrow t x = (t * 64 + ((Lib.ctz 64 x.toNat : Nat) : Int)) :: wrow t (iand x (x - 1)) := by
  unfold wrow
  rw [iand_pred h0, wbits_step (x := x.toNat) (by omega) (by omega)]
  rfl
theorem ctz_lt {x : Int} (h0 : x ≠ 0) (h1 : 0 ≤ x) (h2 : x ≤ 18446744073709551615) : Lib.ctz 64 x.toNat < 64 := (ctz_at (x := x.toNat) (by omega) (by omega)).choose_spec.2
def memTo (ws : List Int) (t : Int) : List Bool := (List.range 256).map fun (i : Nat) => decide (((i : Nat) : Int) < t) && bitAt ws i
theorem memTo_256 (ws : List Int) : memTo ws 256 = members ws := by
  unfold memTo members
  apply List.map_congr_left
  intro i hi
  have : i < 256 := by simpa using hi
  rw [decide_eq_true (by omega)]; rfl
theorem half_step (x : Int) (k : Int) (h : 0 ≤ k) : x / 2 ^ k.toNat / 2 = x / 2 ^ (k + 1).toNat := by
  rw [show (k + 1).toNat = k.toNat + 1 by omega, Int.pow_succ, Int.ediv_ediv_of_nonneg (Int.le_of_lt (Int.pow_pos (by omega)))]
theorem bit_div {x : Int} (hx : 0 ≤ x) (k : Nat) : decide (x / 2 ^ k % 2 = 1) = x.toNat.testBit k := by
  obtain ⟨n, rfl⟩ := Int.eq_ofNat_of_zero_le hx
  rw [Int.toNat_natCast, Nat.testBit_eq_decide_div_mod_eq]
  have e : ((n : Int) / 2 ^ k) = ((n / 2 ^ k : Nat) : Int) := by simp
  rw [e]
  apply decide_eq_decide.2
  omega
theorem memTo_step (ws : List Int) (hok : okInts .u64 4 ws) {t : Int} (h0 : 0 ≤ t) (h1 : t < 256) : (memTo ws t).set t.toNat (decide (at_ ws (t / 64) / 2 ^ (t % 64).toNat % 2 = 1)) = memTo ws (t + 1) := by
  obtain ⟨n, rfl⟩ := Int.eq_ofNat_of_zero_le h0
  have hin := okInts_at hok (i := (n : Int) / 64) (by omega) (by omega)
  rw [bit_div (u64_lo hin), Int.toNat_natCast]
  have e : (at_ ws ((n : Int) / 64)).toNat.testBit ((n : Int) % 64).toNat = bitAt ws n := by
    unfold bitAt
    rw [show ((n : Int) / 64) = ((n / 64 : Nat) : Int) by omega, show ((n : Int) % 64).toNat = n % 64 by omega]
  rw [e]
  unfold memTo
  apply List.ext_getElem?
  intro j
  rw [List.getElem?_set]
  simp only [List.length_map, List.length_range, List.getElem?_map]
  by_cases hj : n = j
  · subst hj
    rw [if_pos rfl, if_pos (by omega), List.getElem?_range (by omega)]
    simp
    omega
  · rw [if_neg hj]
    by_cases hj2 : j < 256
    · rw [List.getElem?_range hj2]
      simp only [Option.map_some]
      congr 2
      exact decide_eq_decide.2 (by omega)
    · rw [List.getElem?_eq_none (by simpa using hj2)]; rfl
theorem rowTo_le (s : BSet) (t : Int) : (rowTo s t).length ≤ 64 * t.toNat := by
  unfold rowTo ints
  rw [List.length_map]
  exact elemsTo_le s _
theorem list_bound (s : BSet) {t x : Int} {out out2 : List Int} (h0 : 0 ≤ t) (h1 : t < 4) (ho : out = rowTo s t) (h : out2 ++ wrow t x = out ++ wrow t (at_ (words s) t)) : out2.length ≤ 256 := by
  have h2 := congrArg List.length h
  rw [ho, rowTo_step s h0 h1] at h2
  have := rowTo_le s (t + 1)
  rw [List.length_append] at h2
  omega
end Gx
namespace Gx
open Go Go.RowKit
set_option linter.unusedSimpArgs false
set_option linter.unusedVariables false
theorem take_next {α : Type} [Inhabited α] (bs : List α) {t : Int} (h0 : 0 ≤ t) (h1 : t < (bs.length : Int)) : bs.take (t + 1).toNat = bs.take t.toNat ++ [at_ bs t] := by
  rw [show (t + 1).toNat = t.toNat + 1 by omega, List.take_add_one, at_some h0 h1]; rfl
theorem at_map_range {α : Type} [Inhabited α] (f : Nat → α) (n : Nat) {i : Int} (h0 : 0 ≤ i) (h1 : i < (n : Int)) : at_ ((List.range n).map f) i = f i.toNat := by
  unfold at_
  rw [List.getD_eq_getElem?_getD, List.getElem?_map, List.getElem?_range (by omega)]; rfl
theorem list_ext {α : Type} [Inhabited α] {a b : List α} {n : Nat} (ha : a.length = n) (hb : b.length = n) (h : ∀ k : Int, 0 ≤ k → k < (n : Int) → at_ a k = at_ b k) : a = b := by
  apply List.ext_getElem?
  intro j
  by_cases hj : j < n
  · have h1 := at_some (xs := a) (i := ((j : Nat) : Int)) (by omega) (by omega)
    have h2 := at_some (xs := b) (i := ((j : Nat) : Int)) (by omega) (by omega)
    rw [Int.toNat_natCast] at h1 h2
    rw [h1, h2, h _ (by omega) (by omega)]
  · rw [List.getElem?_eq_none (by omega), List.getElem?_eq_none (by omega)]
theorem mem_at (a : BSet) {c : Int} (h0 : 0 ≤ c) (h1 : c < 256) : at_ (members (words a)) c = a.getLsbD c.toNat := by
  unfold members
  rw [at_map_range _ _ h0 h1, bit_words a (by omega)]
theorem list_len (s : BSet) : ((listOf s).length : Int) = count s := by simp [listOf, ints, count]
theorem list_get (s : BSet) {i : Int} (h0 : 0 ≤ i) (h1 : i < ((listOf s).length : Int)) : 0 ≤ at_ (listOf s) i ∧ at_ (listOf s) i < 256 ∧ has s (at_ (listOf s) i) = true := by
  have hm : at_ (listOf s) i ∈ listOf s := List.mem_of_getElem? (at_some h0 h1)
  generalize at_ (listOf s) i = z at hm
  unfold listOf ints elems elemsTo at hm
  simp only [List.mem_map, List.mem_filter, List.mem_range] at hm
  obtain ⟨j, ⟨hj, hb⟩, rfl⟩ := hm
  refine ⟨by omega, by omega, ?_⟩
  unfold has
  rw [Int.toNat_natCast]; exact hb
theorem list_rise (s : BSet) {i j : Int} (h0 : 0 ≤ i) (hij : i < j) (h1 : j < ((listOf s).length : Int)) : at_ (listOf s) i < at_ (listOf s) j := by
  have hp : (listOf s).Pairwise (· < ·) := by
    unfold listOf ints
    rw [List.pairwise_map]
    have h : (elems s).Pairwise (· < ·) := List.Pairwise.filter _ List.pairwise_lt_range
    exact h.imp (fun h => by omega)
  have e1 := at_some (xs := listOf s) h0 (by omega)
  have e2 := at_some (xs := listOf s) (i := j) (by omega) h1
  obtain ⟨l1, g1⟩ := List.getElem?_eq_some_iff.1 e1
  obtain ⟨l2, g2⟩ := List.getElem?_eq_some_iff.1 e2
  rw [← g1, ← g2]
  exact List.pairwise_iff_getElem.1 hp _ _ l1 l2 (by omega)
theorem has_mem (a : BSet) {c : Int} (h0 : 0 ≤ c) (h1 : c < 256) : has a c = at_ (members (words a)) c := (mem_at a h0 h1).symm
end Gx
namespace Gx
open Go Go.RowKit
set_option linter.unusedSimpArgs false
set_option linter.unusedSectionVars false
set_option linter.unusedVariables false
structure PartM where
  of : List Int
  n : Int
deriving DecidableEq
instance : Inhabited PartM := ⟨⟨[], 0⟩⟩
def encPart (p : PartM) : List Value := encInts .u8 p.of ++ [.int .i64 p.n]
def okPart (p : PartM) : Prop := okInts .u8 256 p.of ∧ inK .i64 p.n
theorem encPart_one (p : PartM) : ∀ u ∈ encPart p, u.oneCell' = true := fun u hu => by
  simp only [encPart, List.mem_append, List.mem_singleton] at hu
  rcases hu with h | h
  · exact encInts_one _ _ u h
  · subst h; rfl
theorem encPart_len {p : PartM} (h : okPart p) : (encPart p).length = 257 := by simp [encPart, encInts, h.1.1]
def kPart : Kd PartM := .flat encPart okPart 257 (by omega) (fun _ h => encPart_len h) encPart_one
end Gx
namespace Gx
open Go Go.RowKit
set_option linter.unusedSimpArgs false
set_option linter.unusedSectionVars false
set_option linter.unusedVariables false
section
variable {P : Program} {ρ : Env} {w w' : World} {d : Option Tmp} {ty : TypeId} {pos : String} {af : Array Edge} {g : Option (Nat × Bool)} {x y : Operand}
theorem x_bytes_string {src dst e : TypeId} {A : Option Addr} {c : Nat} {xs : List Int} (hs : P.underlying src = some (.slice e)) (he : P.underlying e = some (.int .u8)) (hd : P.underlying dst = some .string)
    (hx : ev ρ x = .slice A xs.length c) (hl : Leads (Kd.int .u8) (hp w) A xs) : (execOp (ev ρ) ⟨d, .convert src dst x, ty, pos, af, g⟩).run P w = .ok (.value (.string (strOfNums xs))) w := by
  have key : (convert src dst (.slice A xs.length c)).run P w = .ok (.string (strOfNums xs)) w := by
    cases xs with
    | nil =>
      rw [run_convert_bytes_string w src dst e A _ c hs he hd]
      cases A with
      | none => rfl
      | some a =>
        have hc := run_loadCells_list (P := P) w a [] (fun j v hj => by simp at hj)
        simp only [List.length_nil] at hc
        have := run_bytesToString (P := P) w a 0 c [] (by simpa using hc)
        exact this
    | cons z zs =>
      obtain ⟨a, rfl, hcells⟩ := hl (by simp)
      rw [run_convert_bytes_string w src dst e _ _ c hs he hd]
      have hl2 := run_loadCells_list (P := P) w a ((z :: zs).map (Value.int .u8)) (fun j v hj => by
        rw [List.getElem?_map] at hj
        cases hq : (z :: zs)[j]? with
        | none => rw [hq] at hj; cases hj
        | some n =>
          rw [hq] at hj
          obtain ⟨seg, ⟨rfl, _⟩, hs2⟩ := hcells j n hq
          have := hs2 0 _ rfl
          simp only [Option.map_some, Option.some.injEq] at hj
          subst hj
          have e1 : (Kd.int .u8).sz = 1 := rfl
          rw [e1, Nat.mul_one, Nat.add_zero] at this
          rw [← gcell_of_block (h := hp w) (by rfl)]
          exact this)
      simp only [List.length_map] at hl2
      rw [run_bytesToString (P := P) w a _ c _ hl2, foldl_push_bytes]
      simp [strOfNums, ByteArray.empty, ByteArray.emptyWithCapacity]
      rfl
  simp only [execOp, hx, Sem.run_bind, key, Result.andThen_ok]
  rfl
theorem str_small {xs : List Int} (h : xs.length ≤ maxLen) : (strOfNums xs).size ≤ maxLen := by rw [strOfNums_size]; exact h
end
structure EqK {α : Type} [DecidableEq α] (P : Program) (T : TypeId) (enc : α → List Value) (ok : α → Prop) : Prop where
  run : ∀ (w : World) (a b : α), ok a → ok b → ∀ d, (Op.equalIn (d + 6) T (.agg (enc a).toArray) (.agg (enc b).toArray)).run P w = .ok (decide (a = b)) w
section
variable {P : Program} {ρ : Env} {w w' : World} {d : Option Tmp} {ty : TypeId} {pos : String} {af : Array Edge} {g : Option (Nat × Bool)} {x y : Operand}
theorem x_eql_agg {α : Type} [DecidableEq α] {enc : α → List Value} {ok : α → Prop} {t t2 : TypeId} {a b : α} (E : EqK P t enc ok) (ha : ok a) (hb : ok b) (hg : P.eqGuardType P.depth t = false) (hx : ev ρ x = .agg (enc a).toArray) (hy : ev ρ y = .agg (enc b).toArray) :
    (execOp (ev ρ) ⟨d, .binOp .eql t x y t2, ty, pos, af, g⟩).run P w = .ok (.value (.bool (decide (a = b)))) w := by
  have h1 := E.run w a b ha hb 9994
  simp only [execOp, hx, hy, Sem.run_bind, run_eqGuard_agg w .eql t x y _ _ hg, Result.andThen_ok, run_eql_struct, h1]
  rfl
theorem x_neq_agg {α : Type} [DecidableEq α] {enc : α → List Value} {ok : α → Prop} {t t2 : TypeId} {a b : α} (E : EqK P t enc ok) (ha : ok a) (hb : ok b) (hg : P.eqGuardType P.depth t = false) (hx : ev ρ x = .agg (enc a).toArray) (hy : ev ρ y = .agg (enc b).toArray) :
    (execOp (ev ρ) ⟨d, .binOp .neq t x y t2, ty, pos, af, g⟩).run P w = .ok (.value (.bool (decide (a ≠ b)))) w := by
  have h1 := E.run w a b ha hb 9994
  have e : (!decide (a = b)) = decide (a ≠ b) := by simp
  simp only [execOp, hx, hy, Sem.run_bind, run_eqGuard_agg w .neq t x y _ _ hg, Result.andThen_ok, run_neq_struct, h1, e]
  rfl
end
section
variable {P : Program}
def eqF (d : Nat) (xs ys : Array Value) : List (TypeId × Nat) → Sem Bool
  | [] => pure true
  | f :: fs => do
    let a ← part f.1 xs f.2
    let b ← part f.1 ys f.2
    let r ← Op.equalIn d f.1 a b
    if (!r) = true then pure false else eqF d xs ys fs
theorem eqF_of (d : Nat) (xs ys : Array Value) : ∀ (fs : List Field), (fs.all fun f => f.name != "_") = true → Op.eqFields d xs ys fs = eqF d xs ys (fs.map fun f => (f.type, f.offset))
  | [], _ => rfl
  | f :: fs, h => by
    simp only [List.all_cons, Bool.and_eq_true, bne_iff_ne, ne_eq] at h
    simp only [Op.eqFields, List.map_cons, eqF, h.1, ne_eq, not_false_eq_true, if_true]
    rw [eqF_of d xs ys fs h.2]
theorem eqF_cons {w : World} {d : Nat} {xs ys : Array Value} {t : TypeId} {o : Nat} {fs : List (TypeId × Nat)} {a b : Value} {r q : Bool} (ha : (part t xs o).run P w = .ok a w) (hb : (part t ys o).run P w = .ok b w) (hr : (Op.equalIn d t a b).run P w = .ok r w) (hq : (eqF d xs ys fs).run P w = .ok q w) :
    (eqF d xs ys ((t, o) :: fs)).run P w = .ok (r && q) w := by
  simp only [eqF, Sem.run_bind, ha, hb, hr, Result.andThen_ok]
  cases r
  · rfl
  · simpa using hq
theorem eqF_nil {w : World} {d : Nat} {xs ys : Array Value} : (eqF d xs ys []).run P w = .ok true w := rfl
theorem part_one {w : World} {t : TypeId} {n b : Nat} {z : Option Value} {cs : List Value} {o : Nat} {v : Value} (ht : tyInfo P t = some (n, b, false, z)) (hv : cs[o]? = some v) : (part t cs.toArray o).run P w = .ok v w := by
  obtain ⟨ii, d5, hi5, hd5, hs5, _, hg5, _⟩ := tyInfo_parts ht
  simp only [part, Sem.run_bind, run_isAgg hd5, hg5, Result.andThen_ok, Bool.false_eq_true, if_false, List.getElem?_toArray, hv]; rfl
theorem part_agg {w : World} {t : TypeId} {n b : Nat} {z : Option Value} {cs seg : List Value} {o : Nat} (ht : tyInfo P t = some (n, b, true, z)) (hv : (cs.drop o).take n = seg) : (part t cs.toArray o).run P w = .ok (.agg seg.toArray) w := by
  obtain ⟨ii, d5, hi5, hd5, hs5, _, hg5, _⟩ := tyInfo_parts ht
  have e : cs.toArray.extract o (o + n) = seg.toArray := by
    rw [← hv, List.extract_toArray, List.extract_eq_take_drop]; simp
  simp only [part, Sem.run_bind, run_isAgg hd5, hg5, Result.andThen_ok, if_true, run_sizeOf w hi5, show P.cellsOf t = n by simp [Program.cellsOf, hi5, hs5], e]; rfl
theorem eq_struct {α : Type} [DecidableEq α] {T : TypeId} {enc : α → List Value} {ok : α → Prop} {L : List (TypeId × Nat)} (hT : P.underlying T = some (.struct (P.fieldsOf T))) (hp : P.stoodInHeld T = false) (hn : ((P.fieldsOf T).toList.all fun f => f.name != "_") = true) (hL : ((P.fieldsOf T).toList.map fun f => (f.type, f.offset)) = L)
    (h : ∀ (w : World) (a b : α), ok a → ok b → ∀ d, (eqF (d + 5) (enc a).toArray (enc b).toArray L).run P w = .ok (decide (a = b)) w) : EqK P T enc ok where
  run := fun w a b ha hb d => by
    rw [run_equalIn_agg w (d + 5) T _ _ hT hp, eqF_of _ _ _ _ hn, hL]
    exact h w a b ha hb d
end
end Gx
namespace Gx
open Go Go.RowKit
set_option linter.unusedSimpArgs false
set_option linter.unusedSectionVars false
set_option linter.unusedVariables false
section
variable {P : Program} {ρ : Env} {w w' : World} {d : Option Tmp} {ty : TypeId} {pos : String} {af : Array Edge} {g : Option (Nat × Bool)} {x y : Operand}
theorem x_fieldAd {ad : Addr} {q o : Nat} {T ft : TypeId} {m b' : Nat} {gg : Bool} {z : Option Value} (hf : fieldInfo P T q = some (o, ft)) (hs : tyInfo P ft = some (m, b', gg, z)) (hm : Nat.blt 0 m = true) (hx : ev ρ x = .pointer (some ad)) :
    (execOp (ev ρ) ⟨d, .fieldAddr T x q, ty, pos, af, g⟩).run P w = .ok (.value (.pointer (some (ad.add o)))) w := by
  obtain ⟨fs, fd, hu, hq, ho, rfl⟩ := fieldInfo_parts hf
  obtain ⟨ii, d2, hi, hd2, hsz, _, _, _⟩ := tyInfo_parts hs
  have hm' : 0 < m := by simpa [Nat.blt_eq] using hm
  subst ho
  simp [execOp, hx, Instr.fieldAt, Instr.sureAddr, run_underlying hu, hq, fieldPlace, rn_sizeOf hi, hsz, (show ¬ m = 0 by omega), go_sem]
end
section
variable {P : Program} {f n : Nat} {k : List Item} {ρ : Env} {w : World} {R : Ending → World → Prop} {ops : Array Oper} {H : Held} {fuel : Nat} {listed : Array Bool}
end
theorem e_make0 {P : Program} {base : Bgn} {w0 w : World} {h : Ghost} {L : List Asrt} {α : Type} [Inhabited α] {kd : Kd α} {T E : TypeId} {kk kk' : IntKind} {q : Int} {m b' : Nat} {gg : Bool} {zv : Value} (S : St base w0 h w L) (hT : P.underlying T = some (.slice E)) (ht : tyInfo P E = some (m, b', gg, some zv)) (hm : kd.sz = m)
    (h0 : 0 ≤ q) (hb : (b' : Int) * q ≤ 281474976710656) (h63 : q ≤ 9223372036854775807) :
    ∃ v w', (Instr.makeSlice T (.int kk 0) (.int kk' q)).run P w = .ok v w' ∧ Chg w w' (fun _ => False) ∧ St base w0 h w' (L ++ [row E kd v ([] : List α)]) := by
  obtain ⟨ii, dd, hi, _, hs, hby, _, hzz⟩ := tyInfo_parts ht
  obtain ⟨c, rfl⟩ := Int.eq_ofNat_of_zero_le h0
  subst hby
  obtain ⟨w', hrun, hown, hg⟩ := run_make_own (P := P) w w.heap.size T E ii zv kd.sz hT hi hzz (by rw [hs, hm]) kk kk' c (Int.ofNat_le.1 (by rw [Int.natCast_mul]; exact hb)) (by simp only [maxLen]; omega) (Nat.le_refl _)
  have hc : Chg w w' (fun _ => False) := (Chg.grown hg).mono fun b e => by cases e
  refine ⟨_, w', hrun, hc, ?_⟩
  refine S.row_add (cs := []) hc ?_ (Elems.nil _ _)
  simpa using hown
theorem fill_any {place : Nat → Option (Nat × Nat)} {cells : Array Value} {i off n : Nat} {v : Value} {vc : List Value} {rest : List (Nat × Value)} {r : Array Value} (hp : place i = some (off, n)) (hv : v.cells = vc.toArray) (hn : vc.length = n) (ho : Nat.ble (off + n) cells.size = true)
    (h : Instr.fill place (lput cells.toList off vc).toArray rest = some r) : Instr.fill place cells ((i, v) :: rest) = some r := by
  have ho' : off + n ≤ cells.size := by simpa [Nat.ble_eq] using ho
  simp only [Instr.fill, hp]
  have hs : v.cells.size = n := by rw [hv]; simpa using hn
  rw [if_neg (by simp [hs]; omega)]
  rw [← h]
  congr 1
  rw [hv]
  have := fold_lput off vc 0 cells.toList
  simp only [Array.toArray_toList, Nat.add_zero] at this
  rw [← this, ← Array.foldl_toList]
  simp
end Gx
namespace Gx
open Go Go.RowKit
set_option linter.unusedSimpArgs false
set_option linter.unusedSectionVars false
set_option linter.unusedVariables false
section
variable {κ : Type} [DecidableEq κ]
def fo (key : Nat → κ) (t c : Nat) : Option Nat := (List.range t).find? fun j => decide (key j = key c)
end
section
variable {κ μ : Type} [DecidableEq κ] [DecidableEq μ]
end
def placeFrom (f : BSet → Bool) : List BSet → Int → Int
  | [], _ => -1
  | x :: r, i => if f x then i else placeFrom f r (i + 1)
def place (f : BSet → Bool) (l : List BSet) : Int := placeFrom f l 0
section
variable {κ : Type} [DecidableEq κ]
end
section
variable {κ : Type} [DecidableEq κ]
end
end Gx
namespace Gx
open Go Go.RowKit
set_option linter.unusedSimpArgs false
set_option linter.unusedSectionVars false
set_option linter.unusedVariables false
theorem at_map {α β : Type} [Inhabited α] [Inhabited β] (f : α → β) (l : List α) {i : Int} (h0 : 0 ≤ i) (h1 : i < (l.length : Int)) : at_ (l.map f) i = f (at_ l i) := by
  have h2 := at_some h0 h1
  have h3 : (l.map f)[i.toNat]? = some (at_ (l.map f) i) := at_some h0 (by simpa using h1)
  rw [List.getElem?_map, h2] at h3
  simpa using h3.symm
def anyTo (p : Nat → Bool) (c : Int) : Bool := (List.range c.toNat).any p
theorem anyTo_iff (p : Nat → Bool) (c : Int) : anyTo p c = true ↔ ∃ d : Nat, ((d : Nat) : Int) < c ∧ p d = true := by
  unfold anyTo
  rw [List.any_eq_true]
  constructor
  · rintro ⟨d, h1, h2⟩; exact ⟨d, by have := List.mem_range.1 h1; omega, h2⟩
  · rintro ⟨d, h1, h2⟩; exact ⟨d, List.mem_range.2 (by omega), h2⟩
section
variable {κ : Type} [DecidableEq κ] (key : Nat → κ)
end
section
variable {κ : Type} [DecidableEq κ] (key : Nat → κ)
end
theorem at_mem {α : Type} [Inhabited α] {l : List α} {i : Int} (h0 : 0 ≤ i) (h1 : i < (l.length : Int)) : at_ l i ∈ l := List.mem_of_getElem? (at_some h0 h1)
end Gx
namespace Gx
open Go Go.RowKit
set_option linter.unusedSimpArgs false
set_option linter.unusedSectionVars false
set_option linter.unusedVariables false
deriving instance DecidableEq for Mach
def rises (b last : Int) : List Int → Bool
  | [] => true
  | n :: r => decide (last < n) && decide (n < b) && rises b n r
theorem rises_lt {b : Int} : ∀ {last : Int} {l : List Int}, rises b last l = true → ∀ x ∈ l, last < x ∧ x < b
  | last, [], h, x, hx => by cases hx
  | last, n :: r, h, x, hx => by
    unfold rises at h
    simp only [Bool.and_eq_true, decide_eq_true_eq] at h
    rcases List.mem_cons.1 hx with e | e
    · subst e; exact h.1
    · have := rises_lt h.2 x e; omega
structure Right (m : Mach) : Prop where
  small : (m.spots.length : Int) ≤ 250
  follow : (m.follow.length : Int) = m.spots.length
  last : (m.last.length : Int) = m.spots.length
  first : rises m.spots.length (-1) m.first = true
  tag : ∀ i : Int, 0 ≤ i → i < (m.spots.length : Int) → (at_ m.spots i).tag ≤ 2
  row : ∀ i : Int, 0 ≤ i → i < (m.spots.length : Int) → rises m.spots.length (-1) (at_ m.follow i) = true
theorem Right.firsts {m : Mach} (h : Right m) : ∀ x ∈ m.first, 0 ≤ x ∧ x < (m.spots.length : Int) := fun x hx => by have := rises_lt h.first x hx; omega
theorem Right.rows {m : Mach} (h : Right m) {i : Int} (h0 : 0 ≤ i) (h1 : i < (m.spots.length : Int)) : ∀ x ∈ at_ m.follow i, 0 ≤ x ∧ x < (m.spots.length : Int) := fun x hx => by have := rises_lt (h.row i h0 h1) x hx; omega
def tab (n : Nat) (p : Nat → Bool) : List Bool := (List.range n).map p
theorem tab_len (n : Nat) (p : Nat → Bool) : (tab n p).length = n := by simp [tab]
theorem tab_at {n : Nat} {p : Nat → Bool} {i : Int} (h0 : 0 ≤ i) (h1 : i < (n : Int)) : at_ (tab n p) i = p i.toNat := at_map_range p n h0 h1
def markP (n : Nat) (l : List Int) : List Bool := tab n fun i => decide (((i : Nat) : Int) ∈ l)
def intoP (m : Mach) (next : List Bool) (c : Int) : List Bool := tab m.spots.length fun i => at_ next ((i : Nat) : Int) && has (at_ m.spots ((i : Nat) : Int)).set c
def behindP (m : Mach) (at' : List Bool) : List Bool := tab m.spots.length fun k => anyTo (fun i => at_ at' ((i : Nat) : Int) && decide (((k : Nat) : Int) ∈ at_ m.follow ((i : Nat) : Int))) m.spots.length
def runTo (m : Mach) (w : ByteArray) : Nat → List Bool
  | 0 => intoP m (markP m.spots.length m.first) (byt w 0)
  | k + 1 => intoP m (behindP m (runTo m w k)) (byt w ((k + 1 : Nat) : Int))
end Gx
namespace Gx
open Go Go.RowKit
set_option linter.unusedSimpArgs false
set_option linter.unusedSectionVars false
set_option linter.unusedVariables false
def trues (n : Nat) (l : List Bool) : Nat := (List.range n).countP fun i => at_ l ((i : Nat) : Int)
theorem trues_le (n : Nat) (l : List Bool) : trues n l ≤ n := by
  have := List.countP_le_length (p := fun i : Nat => at_ l ((i : Nat) : Int)) (l := List.range n)
  simpa [trues] using this
def Sub (n : Nat) (a b : List Bool) : Prop := ∀ i : Nat, i < n → at_ a ((i : Nat) : Int) = true → at_ b ((i : Nat) : Int) = true
theorem Sub.trans {n : Nat} {a b c : List Bool} (h : Sub n a b) (h2 : Sub n b c) : Sub n a c := fun i hi hx => h2 i hi (h i hi hx)
theorem marks_ext {n : Nat} {a b : List Bool} (ha : a.length = n) (hb : b.length = n) (h : ∀ i : Nat, i < n → at_ a ((i : Nat) : Int) = at_ b ((i : Nat) : Int)) : a = b :=
  list_ext ha hb fun k h0 h1 => by have := h k.toNat (by omega); rwa [Int.toNat_of_nonneg h0] at this
theorem mark_set_at {l : List Bool} {t : Int} (h0 : 0 ≤ t) (h1 : t < (l.length : Int)) (v : Bool) (i : Nat) : at_ (l.set t.toNat v) ((i : Nat) : Int) = if ((i : Nat) : Int) = t then v else at_ l ((i : Nat) : Int) := by
  unfold at_
  rw [List.getD_eq_getElem?_getD, List.getElem?_set, List.getD_eq_getElem?_getD, Int.toNat_natCast]
  by_cases h : ((i : Nat) : Int) = t
  · rw [if_pos h, if_pos (by omega), if_pos (by omega)]; rfl
  · rw [if_neg h, if_neg (by omega)]
theorem sub_set {n : Nat} {l : List Bool} {t : Int} (h0 : 0 ≤ t) (h1 : t < (l.length : Int)) : Sub n l (l.set t.toNat true) := fun i hi h => by
  rw [mark_set_at h0 h1]; split
  · rfl
  · exact h
def lfpTo (n : Nat) (F : List Bool → Nat → Bool) : Nat → List Bool
  | 0 => tab n fun _ => false
  | k + 1 => tab n (F (lfpTo n F k))
def lfp (n : Nat) (F : List Bool → Nat → Bool) : List Bool := lfpTo n F n
theorem sub_antisymm {n : Nat} {a b : List Bool} (ha : a.length = n) (hb : b.length = n) (h : Sub n a b) (h2 : Sub n b a) : a = b :=
  marks_ext ha hb fun i hi => by
    rw [Bool.eq_iff_iff]; exact ⟨h i hi, h2 i hi⟩
end Gx
namespace Gx
open Go Go.RowKit
set_option linter.unusedSimpArgs false
set_option linter.unusedSectionVars false
set_option linter.unusedVariables false
structure Grow (n : Nat) (c0 c : List Bool) (Q : Prop) : Prop where
  len0 : (c0.length : Int) = n
  len : (c.length : Int) = n
  sub : Sub n c0 c
  told : c = c0 → Q
theorem Grow.keep {n : Nat} {c0 c : List Bool} {Q Q' : Prop} (g : Grow n c0 c Q) (h : c = c0 → Q → Q') : Grow n c0 c Q' := ⟨g.len0, g.len, g.sub, fun e => h e (g.told e)⟩
theorem Grow.set {n : Nat} {c0 c : List Bool} {Q Q' : Prop} (g : Grow n c0 c Q) {t : Int} (h0 : 0 ≤ t) (h1 : t < (n : Int)) (h : at_ c0 t = true → Q → Q') : Grow n c0 (c.set t.toNat true) Q' where
  len0 := g.len0
  len := by rw [List.length_set]; exact g.len
  sub := g.sub.trans (sub_set h0 (by rw [g.len]; exact h1))
  told := fun e => by
    have hs : Sub n c (c.set t.toNat true) := sub_set h0 (by rw [g.len]; exact h1)
    have e2 : c = c0 := sub_antisymm (n := n) (by have := g.len; omega) (by have := g.len0; omega) (by rw [← e]; exact hs) g.sub
    have h3 := mark_set_at (l := c) h0 (by rw [g.len]; exact h1) true t.toNat
    rw [e, Int.toNat_of_nonneg h0, if_pos rfl] at h3
    exact h h3 (g.told e2)
section
variable {m : Mach} {c0 g0 come goes : List Bool} {QC QG QC' QG' : Prop}
end
section
variable {m : Mach} {c0 g0 come goes : List Bool} {QC QG : Prop} {i k : Int}
end
end Gx
namespace Gx
open Go Go.RowKit
set_option linter.unusedSimpArgs false
set_option linter.unusedSectionVars false
set_option linter.unusedVariables false
def bytesL (w : ByteArray) : List Int := w.data.toList.map fun b => ((b.toNat : Nat) : Int)
end Gx
namespace Gx
open Go Go.RowKit
set_option linter.unusedSimpArgs false
set_option linter.unusedSectionVars false
set_option linter.unusedVariables false
section
variable {P : Program} {f n : Nat} {k : List Item} {ρ : Env} {w : World} {R : Ending → World → Prop} {ops : Array Oper} {rest : List Nat} {i : Nat}
variable {d : Tmp} {ty : TypeId} {pos : String} {af : Array Edge} {x y : Operand} {op : Op} {gd : Option (Nat × Bool)}
end
section
variable {P : Program} {f n : Nat} {k : List Item} {ρ : Env} {w : World} {R : Ending → World → Prop} {ops : Array Oper} {H : Held} {fuel : Nat} {listed : Array Bool} {i : Nat}
variable {d : Tmp} {ty : TypeId} {pos : String} {af : Array Edge} {op : Op} {gd : Option (Nat × Bool)}
end
section
variable {P : Program} {w : World} {ρ : Env} {d : Option Tmp} {x y : Operand} {ty : TypeId} {pos : String} {af : Array Edge} {g : Option (Nat × Bool)}
theorem x_nilCheck {ad : Addr} (hx : ev ρ x = .pointer (some ad)) : (execOp (ev ρ) ⟨d, .nilCheck x, ty, pos, af, g⟩).run P w = .ok (.value (.pointer (some ad))) w := by
  simp only [execOp, hx]
  rfl
theorem x_eql_ptr {p : Option Addr} {t t2 e : TypeId} (hT : P.underlying t = some (.pointer e)) (hx : ev ρ x = .pointer p) (hy : ev ρ y = .pointer none) : (execOp (ev ρ) ⟨d, .binOp .eql t x y t2, ty, pos, af, g⟩).run P w = .ok (.value (.bool p.isNone)) w := by
  have hg : (eqGuard .eql t x y (.pointer p) (.pointer none)).run P w = .ok () w := by unfold eqGuard; rfl
  have h1 := run_equalIn_pointer_nil (P := P) (w := w) 9999 t p (by rw [show P.pointee t = e by simp [Program.pointee, hT]]; exact hT)
  simp only [execOp, hx, hy, Sem.run_bind, hg, Result.andThen_ok, binOp, Op.equal, Op.maxDepth]
  rw [show (10000 : Nat) = 9999 + 1 from rfl, h1]
  rfl
theorem x_neq_ptr {p : Option Addr} {t t2 e : TypeId} (hT : P.underlying t = some (.pointer e)) (hx : ev ρ x = .pointer p) (hy : ev ρ y = .pointer none) : (execOp (ev ρ) ⟨d, .binOp .neq t x y t2, ty, pos, af, g⟩).run P w = .ok (.value (.bool (!p.isNone))) w := by
  have hg : (eqGuard .neq t x y (.pointer p) (.pointer none)).run P w = .ok () w := by unfold eqGuard; rfl
  have h1 := run_equalIn_pointer_nil (P := P) (w := w) 9999 t p (by rw [show P.pointee t = e by simp [Program.pointee, hT]]; exact hT)
  simp only [execOp, hx, hy, Sem.run_bind, hg, Result.andThen_ok, binOp, Op.equal, Op.maxDepth]
  rw [show (10000 : Nat) = 9999 + 1 from rfl, h1]
  rfl
end
section
variable {α β : Type} [DecidableEq α] {P : Program} {kt : TypeId} {ke : α → Value} {ve : β → Value} {w w' : World}
end
theorem lput_mid {pre seg post vs : List Value} {off : Nat} (h : pre.length = off) (h2 : vs.length = seg.length) : lput (pre ++ (seg ++ post)) off vs = pre ++ (vs ++ post) := by
  subst h
  apply List.ext_getElem?
  intro q
  rw [lput_get vs _ _ _ (by simp; omega)]
  by_cases h3 : q < pre.length
  · rw [if_neg (by omega), List.getElem?_append_left h3, List.getElem?_append_left h3]
  · by_cases h4 : q < pre.length + vs.length
    · rw [if_pos ⟨by omega, h4⟩, List.getElem?_append_right (l₁ := pre) (l₂ := vs ++ post) (by omega), List.getElem?_append_left (by omega)]
    · rw [if_neg (by omega), List.getElem?_append_right (by omega), List.getElem?_append_right (by omega), List.getElem?_append_right (by omega), List.getElem?_append_right (by omega), h2]
theorem fill_mid {place : Nat → Option (Nat × Nat)} {cells : Array Value} {i off n : Nat} {v : Value} {vc pre seg post : List Value} {rest : List (Nat × Value)} {r : Array Value} (hp : place i = some (off, n)) (hv : v.cells = vc.toArray) (hn : vc.length = n) (hc : cells.toList = pre ++ (seg ++ post)) (h1 : pre.length = off) (h2 : seg.length = n)
    (h : Instr.fill place (pre ++ (vc ++ post)).toArray rest = some r) : Instr.fill place cells ((i, v) :: rest) = some r := by
  refine fill_any hp hv hn ?_ ?_
  · have : cells.size = cells.toList.length := by simp
    rw [this, hc]
    simp only [List.length_append, Nat.ble_eq]; omega
  · rw [hc, lput_mid h1 (by omega)]; exact h
section
variable {P : Program} {w w0 : World} {base : Bgn} {h : Ghost} {L : List Asrt}
theorem e_store_mid {j b off : Nat} {T E : TypeId} {vs pre seg post : List Value} {v : Value} {m b' : Nat} {g : Bool} {z : Option Value} (S : St base w0 h w L) (ht : tyInfo P T = some (m, b', g, z)) (hc : v.cells = vs.toArray) (hm : vs.length = m)
    (hp : pre.length = off) (hs : seg.length = m) (hj : L[j]? = some (box b E (pre ++ (seg ++ post)))) (h1 : ∀ u ∈ vs, u.oneCell' = true) :
    ∃ w', (storeVar T ⟨b, off, none⟩ v).run P w = .ok () w' ∧ Chg w w' (fun q => q = b) ∧ St base w0 h w' (L.set j (box b E (pre ++ (vs ++ post)))) := by
  have := e_store (v := v) (vs := vs) (off := off) S ht hc hm hj (by rw [List.length_append, List.length_append]; omega) h1
  rwa [lput_mid hp (hm.trans hs.symm)] at this
end
end Gx
namespace Gx
open Go Go.RowKit
set_option linter.unusedSimpArgs false
set_option linter.unusedSectionVars false
set_option linter.unusedVariables false
inductive Path (m : Mach) (src : List Int) : List Int → Int → Prop
  | one {i c : Int} : i ∈ src → 0 ≤ c → c < 256 → has (at_ m.spots i).set c = true → Path m src [c] i
  | snoc {l : List Int} {j i c : Int} : Path m src l j → i ∈ at_ m.follow j → 0 ≤ c → c < 256 → has (at_ m.spots i).set c = true → Path m src (l ++ [c]) i
theorem Path.some {m : Mach} {src l : List Int} {i : Int} (h : Path m src l i) : 0 < l.length := by cases h <;> simp
theorem Path.inn {m : Mach} (hR : Right m) {src l : List Int} {i : Int} (hs : ∀ x ∈ src, 0 ≤ x ∧ x < (m.spots.length : Int)) (h : Path m src l i) : 0 ≤ i ∧ i < (m.spots.length : Int) := by
  induction h with
  | one h3 => exact hs _ h3
  | snoc h3 h4 h5 h6 h7 ih => exact hR.rows ih.1 ih.2 _ h4
theorem Path.run {m : Mach} (hR : Right m) {l : List Int} {i : Int} (h : Path m m.first l i) : ∀ s : ByteArray, (∀ k : Nat, k < l.length → byt s ((k : Nat) : Int) = at_ l ((k : Nat) : Int)) → at_ (runTo m s (l.length - 1)) i = true := by
  induction h with
  | one h3 h4 h5 h6 =>
    intro s hb
    have hi := hR.firsts _ h3
    have h0 := hb 0 (by simp)
    show at_ (intoP m (markP m.spots.length m.first) (byt s 0)) _ = true
    unfold intoP
    rw [tab_at hi.1 hi.2]
    unfold markP
    rw [tab_at (by omega) (by omega), Int.toNat_natCast, Int.toNat_of_nonneg hi.1, decide_eq_true h3, Bool.true_and]
    have e : byt s 0 = _ := h0
    rw [e]; exact h6
  | snoc h3 h4 h5 h6 h7 ih =>
    rename_i l j i c
    intro s hb
    have hj := Path.inn hR hR.firsts h3
    have hi := hR.rows hj.1 hj.2 _ h4
    have hl := h3.some
    have h8 := ih s fun k hk => by
      rw [hb k (by simp; omega)]
      unfold at_
      rw [List.getD_eq_getElem?_getD, List.getD_eq_getElem?_getD, List.getElem?_append_left (by omega)]
    have h9 := hb l.length (by simp)
    have e1 : at_ (l ++ [c]) ((l.length : Nat) : Int) = c := by unfold at_; simp
    rw [e1] at h9
    rw [show (l ++ [c]).length - 1 = (l.length - 1) + 1 by simp; omega]
    show at_ (intoP m (behindP m (runTo m s (l.length - 1))) (byt s ((l.length - 1 + 1 : Nat) : Int))) i = true
    rw [show l.length - 1 + 1 = l.length by omega, h9]
    unfold intoP
    rw [tab_at hi.1 hi.2]
    unfold behindP
    rw [tab_at (by omega) (by omega), Int.toNat_natCast, Int.toNat_of_nonneg hi.1, h7, Bool.and_true, anyTo_iff]
    exact ⟨j.toNat, by omega, by rw [Int.toNat_of_nonneg hj.1, h8, decide_eq_true h4]; rfl⟩
def reachF (m : Mach) (src : List Int) (l : List Bool) (i : Nat) : Bool := decide (((i : Nat) : Int) ∈ src) || anyTo (fun j => at_ l ((j : Nat) : Int) && decide (((i : Nat) : Int) ∈ at_ m.follow ((j : Nat) : Int))) m.spots.length
def reachM (m : Mach) (src : List Int) : List Bool := lfp m.spots.length (reachF m src)
structure Way (m : Mach) (src : List Int) (texts : List ByteArray) (seen : List Bool) (todo : List Int) : Prop where
  lenT : (texts.length : Int) = m.spots.length
  lenS : (seen.length : Int) = m.spots.length
  inn : ∀ x ∈ todo, 0 ≤ x ∧ x < (m.spots.length : Int)
  nodup : todo.Nodup
  mem : ∀ x : Int, 0 ≤ x → x < (m.spots.length : Int) → (at_ seen x = true ↔ x ∈ todo)
  sound : ∀ x ∈ todo, at_ (reachM m src) x = true
  text : ∀ k : Int, 0 ≤ k → k < (todo.length : Int) → Path m src (bytesL (at_ texts (at_ todo k))) (at_ todo k) ∧ ((at_ texts (at_ todo k)).size : Int) ≤ k + 1
  first : ∀ x ∈ src, x ∈ todo
  cnt : todo.length ≤ trues m.spots.length seen
theorem way_len {m : Mach} {src : List Int} {texts : List ByteArray} {seen : List Bool} {todo : List Int} (W : Way m src texts seen todo) : (todo.length : Int) ≤ m.spots.length := by
  have := W.cnt
  have := trues_le m.spots.length seen
  omega
theorem way_size {m : Mach} {src : List Int} {texts : List ByteArray} {seen : List Bool} {todo : List Int} (W : Way m src texts seen todo) {k : Int} (h0 : 0 ≤ k) (h1 : k < (todo.length : Int)) : ((at_ texts (at_ todo k)).size : Int) ≤ m.spots.length := by
  have := (W.text k h0 h1).2
  have := way_len W
  omega
end Gx
namespace Gx
open Go Go.RowKit
set_option linter.unusedSimpArgs false
set_option linter.unusedSectionVars false
set_option linter.unusedVariables false
section
variable {P : Program} {w : World} {ρ : Env} {d : Option Nat} {x y : Operand} {ty : TypeId} {pos : String} {af : Array Edge} {g : Option (Nat × Bool)}
theorem x_add_str {a b : ByteArray} {t t2 : TypeId} (hx : ev ρ x = .string a) (hy : ev ρ y = .string b) (h : a.size + b.size ≤ 9223372036854775807) : (execOp (ev ρ) ⟨d, .binOp .add t x y t2, ty, pos, af, g⟩).run P w = .ok (.value (.string (a ++ b))) w := by
  simp [execOp, hx, hy, eqGuard, binOp, run_string_add_sum (P := P) w a b h, go_sem]
end
structure WayI (m : Mach) (src : List Int) (to' : Int) (texts : List ByteArray) (seen : List Bool) (todo : List Int) (i : Int) : Prop where
  way : Way m src texts seen todo
  done : ∀ k : Int, 0 ≤ k → k < i → k < (todo.length : Int) → (∀ x ∈ at_ m.follow (at_ todo k), x ∈ todo) ∧ at_ todo k ≠ to'
structure WayK (m : Mach) (src : List Int) (to' a : Int) (texts : List ByteArray) (seen : List Bool) (todo : List Int) (i k : Int) : Prop where
  base : WayI m src to' texts seen todo i
  lo : 0 ≤ i
  hi : i < (todo.length : Int)
  cur : at_ todo i = a
  row : ∀ q : Int, 0 ≤ q → q < k → q < ((at_ m.follow a).length : Int) → at_ (at_ m.follow a) q ∈ todo
theorem WayK.inn {m : Mach} {src : List Int} {to' a : Int} {texts : List ByteArray} {seen : List Bool} {todo : List Int} {i k : Int} (W : WayK m src to' a texts seen todo i k) : 0 ≤ a ∧ a < (m.spots.length : Int) := by
  rw [← W.cur]; exact W.base.way.inn _ (at_mem W.lo W.hi)
theorem WayK.size {m : Mach} {src : List Int} {to' a : Int} {texts : List ByteArray} {seen : List Bool} {todo : List Int} {i k : Int} (W : WayK m src to' a texts seen todo i k) : ((at_ texts a).size : Int) ≤ m.spots.length := by
  rw [← W.cur]; exact way_size W.base.way W.lo W.hi
end Gx
namespace Gx
open Go Go.RowKit
set_option linter.unusedSimpArgs false
set_option linter.unusedVariables false
section
variable {P : Program} {w : World} {ρ : Env} {d : Option Tmp} {ty : TypeId} {pos : String} {af : Array Edge} {g : Option (Nat × Bool)} {x y : Operand}
theorem x_addw {k : IntKind} {a b : Int} {t t2 : TypeId} (hx : ev ρ x = .int k a) (hy : ev ρ y = .int k b) : (execOp (ev ρ) ⟨d, .binOp .add t x y t2, ty, pos, af, g⟩).run P w = .ok (.value (.int k (k.wrap (a + b)))) w := by
  simp [execOp, hx, hy, eqGuard, binOp, Op.intArith, go_sem]
end
section
variable {α : Type} [Inhabited α] {a b : List α} {i : Int}
variable {t t2 : List (List α)} {k : Int}
end
end Gx
namespace Gx
open Go Go.RowKit
set_option linter.unusedSimpArgs false
set_option linter.unusedSectionVars false
set_option linter.unusedVariables false
def ltL : List Int → List Int → Bool
  | _, [] => false
  | [], _ :: _ => true
  | a :: x, b :: y => decide (a < b) || (decide (a = b) && ltL x y)
def lessL (x y : List Int) : Bool := decide (x.length < y.length) || (decide (x.length = y.length) && ltL x y)
def leL (x y : List Int) : Prop := x = y ∨ lessL x y = true
def strLt (a b : ByteArray) : Bool := ltL (bytesL a) (bytesL b)
theorem less_list : ∀ x y : List UInt8, Op.bytesLess x y = ltL (x.map fun b => ((b.toNat : Nat) : Int)) (y.map fun b => ((b.toNat : Nat) : Int))
  | x, [] => by cases x <;> rfl
  | [], _ :: _ => rfl
  | a :: x, b :: y => by
    have e1 : decide (a < b) = decide (((a.toNat : Nat) : Int) < ((b.toNat : Nat) : Int)) := decide_eq_decide.2 (by rw [UInt8.lt_iff_toNat_lt]; omega)
    have e2 : (a == b) = decide (((a.toNat : Nat) : Int) = ((b.toNat : Nat) : Int)) := by
      rw [Bool.eq_iff_iff, beq_iff_eq, decide_eq_true_eq]
      exact ⟨fun h => by rw [h], fun h => UInt8.toNat_inj.1 (by omega)⟩
    simp only [Op.bytesLess, List.map_cons, ltL, less_list x y, e1, e2]
theorem strLt_model (a b : ByteArray) : Op.bytesLess a.toList b.toList = strLt a b := by
  rw [ByteArray.toList_eq, ByteArray.toList_eq, less_list]; rfl
end Gx
namespace Gx
open Go Go.RowKit
set_option linter.unusedSimpArgs false
set_option linter.unusedSectionVars false
set_option linter.unusedVariables false
theorem at_app1 {α : Type} [Inhabited α] (l r : List α) {i : Int} (h0 : 0 ≤ i) (h1 : i < (l.length : Int)) : at_ (l ++ r) i = at_ l i := by
  unfold at_
  rw [List.getD_eq_getElem?_getD, List.getD_eq_getElem?_getD, List.getElem?_append_left (by omega)]
theorem at_app2 {α : Type} [Inhabited α] (l : List α) (x : α) : at_ (l ++ [x]) ((l.length : Nat) : Int) = x := by
  unfold at_
  rw [List.getD_eq_getElem?_getD, Int.toNat_natCast]; simp
structure StepM where
  st : Int
  fr : Int
  by_ : Int
deriving DecidableEq
instance : Inhabited StepM := ⟨⟨0, 0, 0⟩⟩
end Gx
namespace Gx
open Go Go.RowKit
set_option linter.unusedSimpArgs false
set_option linter.unusedSectionVars false
set_option linter.unusedVariables false
section
variable {α β : Type} [DecidableEq α]
def KN (kvs : List (α × β)) : Prop := (kvs.map (·.1)).Nodup
end
structure Off (t : Int) (O : Int → List Int → Prop) (kvs : List (Int × ByteArray)) : Prop where
  kn : KN kvs
  len : ∀ i u, O i u → (u.length : Int) = t
  yes : ∀ p ∈ kvs, O p.1 (bytesL p.2) ∧ ∀ u, O p.1 u → leL (bytesL p.2) u
  all : ∀ i u, O i u → ∃ s, (i, s) ∈ kvs
theorem Off.congr {t : Int} {O O' : Int → List Int → Prop} {kvs : List (Int × ByteArray)} (h : Off t O kvs) (e : ∀ i u, O' i u ↔ O i u) : Off t O' kvs :=
  ⟨h.kn, fun i u hO => h.len i u ((e i u).1 hO), fun p hp => ⟨(e _ _).2 (h.yes p hp).1, fun u hu => (h.yes p hp).2 u ((e _ _).1 hu)⟩, fun i u hO => h.all i u ((e i u).1 hO)⟩
end Gx
namespace Gx
open Go Go.RowKit
set_option linter.unusedSimpArgs false
set_option linter.unusedVariables false
set_option linter.unusedSectionVars false
def subB (w : ByteArray) (i j : Int) : ByteArray := w.extract i.toNat j.toNat
theorem sub_size (w : ByteArray) {i j : Int} (h0 : 0 ≤ i) (h1 : i ≤ j) (h2 : j ≤ (w.size : Int)) : ((subB w i j).size : Int) = j - i := by
  unfold subB; rw [ByteArray.size_extract]; omega
section
variable {P : Program} {w : World}
theorem r_sub_from {t : TypeId} {s : ByteArray} {k : IntKind} {i : Int} (h : P.underlying t = some .string) (h0 : 0 ≤ i) (h1 : i ≤ (s.size : Int)) : (Instr.sliceAt t (.string s) (some (.int k i)) none none).run P w = .ok (.string (subB s i s.size)) w := by
  rw [run_sliceAt_string (h := h), run_slice_string_from_if (h := h), if_pos ⟨h0, h1⟩]; rfl
theorem r_sub_both {t : TypeId} {s : ByteArray} {k k' : IntKind} {i j : Int} (h : P.underlying t = some .string) (h0 : 0 ≤ i) (h1 : i ≤ j) (h2 : j ≤ (s.size : Int)) : (Instr.sliceAt t (.string s) (some (.int k i)) (some (.int k' j)) none).run P w = .ok (.string (subB s i j)) w := by
  rw [run_sliceAt_string (h := h), run_slice_string (h := h) (h0 := h0) (h1 := h1) (h2 := h2)]; rfl
end
end Gx
namespace Gx
open Go Go.RowKit
set_option linter.unusedSimpArgs false
set_option linter.unusedVariables false
set_option linter.unusedSectionVars false
section
variable {P : Program} {w : World}
theorem r_sub_to {t : TypeId} {s : ByteArray} {k : IntKind} {j : Int} (h : P.underlying t = some .string) (h0 : 0 ≤ j) (h1 : j ≤ (s.size : Int)) : (Instr.sliceAt t (.string s) none (some (.int k j)) none).run P w = .ok (.string (subB s 0 j)) w := by
  rw [run_sliceAt_string (h := h), run_slice_string_to_if (h := h), if_pos ⟨h0, h1⟩]; rfl
end
end Gx
namespace Gx
open Go Go.RowKit
set_option linter.unusedSimpArgs false
set_option linter.unusedSectionVars false
set_option linter.unusedVariables false
section
variable {P : Program} {ρ : Env} {w : World} {d : Option Tmp} {ty : TypeId} {pos : String} {af : Array Edge} {g : Option (Nat × Bool)} {x y : Operand}
theorem x_lss_string {a b : ByteArray} {t t2 : TypeId} (hx : ev ρ x = .string a) (hy : ev ρ y = .string b) : (execOp (ev ρ) ⟨d, .binOp .lss t x y t2, ty, pos, af, g⟩).run P w = .ok (.value (.bool (strLt a b))) w := by
  rw [← strLt_model]
  simp [execOp, hx, hy, eqGuard, binOp, Op.stringOp, go_sem]
end
end Gx
namespace Gx
open Go Go.RowKit
set_option linter.unusedSimpArgs false
set_option linter.unusedVariables false
inductive SV (τ : Nat → Type) where
  | int (k : IntKind) (t : Int)
  | bool (b : Bool)
  | str (s : ByteArray)
  | fl (i : Nat) (x : τ i)
  | rs (i : Nat) (xs : List (τ i))
  | nm (n : Nat)
  | ptr (n o : Nat)
  | pa (n o m : Nat) (i : Int)
  | el (n : Nat) (i : Int) (sz o : Nat)
  | ea (i : Nat) (x : τ i) (o : Nat)
  | agg (l : List (SV τ))
  | tup (l : List (SV τ))
  | fn (f : Nat) (l : List (SV τ))
  | ifc (t : Nat) (x : SV τ)
  | raw (v : Value)
abbrev Ph := Nat → Option Value
def PLe (φ φ' : Ph) : Prop := ∀ n v, φ n = some v → φ' n = some v
theorem PLe.refl (φ : Ph) : PLe φ φ := fun _ _ h => h
theorem PLe.trans {φ φ' φ'' : Ph} (h : PLe φ φ') (k : PLe φ' φ'') : PLe φ φ'' := fun n v e => k n v (h n v e)
variable {τ : Nat → Type}
section
variable (kd : ∀ i, Kd (τ i))
mutual
def VR (φ : Ph) (h : Ghost) : SV τ → Value → Prop
  | .int k t, V => V = .int k t ∧ inK k t
  | .bool b, V => V = .bool b
  | .str s, V => V = .string s ∧ s.size ≤ maxLen
  | .fl i x, V => ∃ seg, V = .agg (List.toArray seg) ∧ (kd i).rep h x seg
  | .rs i xs, V => (kd i).slice.rep h xs [V]
  | .nm n, V => φ n = some V ∧ V.oneCell' = true
  | .ptr n o, V => ∃ x, φ n = some (.pointer (some ⟨x, 0, none⟩)) ∧ V = .pointer (some ⟨x, o, none⟩)
  | .pa n o m i, V => ∃ x, φ n = some (.pointer (some ⟨x, 0, none⟩)) ∧ 0 ≤ i ∧ i < (m : Int) ∧ V = .pointer (some ⟨x, o + i.toNat, none⟩)
  | .el n i sz o, V => ∃ A len c, φ n = some (.slice (some A) len c) ∧ 0 ≤ i ∧ i < (len : Int) ∧ V = .pointer (some (A.add (i.toNat * sz + o)))
  | .ea i x o, V => ∃ seg ad, (kd i).rep h x seg ∧ (∀ j u, seg[j]? = some u → gcell h (Addr.add ad j) = some u) ∧ V = .pointer (some (ad.add o))
  | .agg l, V => ∃ cs, V = .agg (List.toArray cs) ∧ CR φ h l cs
  | .tup l, V => ∃ vs, V = .tuple (List.toArray vs) ∧ LR φ h l vs
  | .fn f l, V => ∃ vs, V = .func (.func f) #[] (List.toArray vs) ∧ LR φ h l vs
  | .ifc t x, V => ∃ u, V = .iface t u ∧ VR φ h x u
  | .raw v, V => V = v
def LR (φ : Ph) (h : Ghost) : List (SV τ) → List Value → Prop
  | [], vs => vs = []
  | v :: l, vs => ∃ x xs, vs = x :: xs ∧ VR φ h v x ∧ LR φ h l xs
def CR (φ : Ph) (h : Ghost) : List (SV τ) → List Value → Prop
  | [], cs => cs = []
  | v :: l, cs => ∃ c1 c2, cs = c1 ++ c2 ∧ (match v with
    | .fl i x => (kd i).rep h x c1
    | v => ∃ V, c1 = [V] ∧ VR φ h v V ∧ V.oneCell' = true) ∧ CR φ h l c2
end
end
def C1 (kd : ∀ i, Kd (τ i)) (φ : Ph) (h : Ghost) (v : SV τ) (c : List Value) : Prop := match v with
  | .fl i x => (kd i).rep h x c
  | v => ∃ V, c = [V] ∧ VR kd φ h v V ∧ V.oneCell' = true
section
variable {kd : ∀ i, Kd (τ i)} {φ φ' : Ph} {h h' : Ghost}
theorem LR_nil {vs : List Value} : LR kd φ h [] vs ↔ vs = [] := by unfold LR; exact Iff.rfl
theorem LR_cons {v : SV τ} {l : List (SV τ)} {vs : List Value} : LR kd φ h (v :: l) vs ↔ ∃ x xs, vs = x :: xs ∧ VR kd φ h v x ∧ LR kd φ h l xs := by rw [LR]
theorem CR_nil {cs : List Value} : CR kd φ h [] cs ↔ cs = [] := by unfold CR; exact Iff.rfl
theorem CR_cons {v : SV τ} {l : List (SV τ)} {cs : List Value} : CR kd φ h (v :: l) cs ↔ ∃ c1 c2, cs = c1 ++ c2 ∧ C1 kd φ h v c1 ∧ CR kd φ h l c2 := by
  rw [CR]; unfold C1
  cases v <;> exact Iff.rfl
mutual
theorem VR.mono (hp : PLe φ φ') (hl : Le h h') : ∀ (v : SV τ) (V : Value), VR kd φ h v V → VR kd φ' h' v V
  | .int k t, V, e => by rw [VR] at e ⊢; exact e
  | .bool b, V, e => by rw [VR] at e ⊢; exact e
  | .str s, V, e => by rw [VR] at e ⊢; exact e
  | .fl i x, V, e => by rw [VR] at e ⊢; obtain ⟨seg, h1, h2⟩ := e; exact ⟨seg, h1, (kd i).mono hl h2⟩
  | .rs i xs, V, e => by rw [VR] at e ⊢; exact (kd i).slice.mono hl e
  | .nm n, V, e => by rw [VR] at e ⊢; exact ⟨hp n V e.1, e.2⟩
  | .ptr n o, V, e => by rw [VR] at e ⊢; obtain ⟨x, h1, h2⟩ := e; exact ⟨x, hp _ _ h1, h2⟩
  | .pa n o m i, V, e => by rw [VR] at e ⊢; obtain ⟨x, h1, h2⟩ := e; exact ⟨x, hp _ _ h1, h2⟩
  | .el n i sz o, V, e => by rw [VR] at e ⊢; obtain ⟨A, len, c, h1, h2⟩ := e; exact ⟨A, len, c, hp _ _ h1, h2⟩
  | .ea i x o, V, e => by rw [VR] at e ⊢; obtain ⟨seg, ad, h1, h2, h3⟩ := e; exact ⟨seg, ad, (kd i).mono hl h1, fun j u hj => gcell_mono hl (h2 j u hj), h3⟩
  | .agg l, V, e => by rw [VR] at e ⊢; obtain ⟨cs, h1, h2⟩ := e; exact ⟨cs, h1, CR.mono hp hl l cs h2⟩
  | .tup l, V, e => by rw [VR] at e ⊢; obtain ⟨cs, h1, h2⟩ := e; exact ⟨cs, h1, LR.mono hp hl l cs h2⟩
  | .fn f l, V, e => by rw [VR] at e ⊢; obtain ⟨cs, h1, h2⟩ := e; exact ⟨cs, h1, LR.mono hp hl l cs h2⟩
  | .ifc t x, V, e => by rw [VR] at e ⊢; obtain ⟨u, h1, h2⟩ := e; exact ⟨u, h1, VR.mono hp hl x u h2⟩
  | .raw v, V, e => by rw [VR] at e ⊢; exact e
theorem LR.mono (hp : PLe φ φ') (hl : Le h h') : ∀ (l : List (SV τ)) (vs : List Value), LR kd φ h l vs → LR kd φ' h' l vs
  | [], vs, e => by rw [LR] at e ⊢; exact e
  | v :: l, vs, e => by rw [LR] at e ⊢; obtain ⟨x, xs, h1, h2, h3⟩ := e; exact ⟨x, xs, h1, VR.mono hp hl v x h2, LR.mono hp hl l xs h3⟩
theorem CR.mono (hp : PLe φ φ') (hl : Le h h') : ∀ (l : List (SV τ)) (cs : List Value), CR kd φ h l cs → CR kd φ' h' l cs
  | [], cs, e => by rw [CR] at e ⊢; exact e
  | v :: l, cs, e => by
    rw [CR_cons] at e ⊢
    obtain ⟨c1, c2, h1, h2, h3⟩ := e
    refine ⟨c1, c2, h1, ?_, CR.mono hp hl l c2 h3⟩
    have key : (∃ V, c1 = [V] ∧ VR kd φ h v V ∧ V.oneCell' = true) → ∃ V, c1 = [V] ∧ VR kd φ' h' v V ∧ V.oneCell' = true := fun ⟨V, a, b, c⟩ => ⟨V, a, VR.mono hp hl v V b, c⟩
    unfold C1 at h2 ⊢
    cases v with
    | fl i x => exact (kd i).mono hl h2
    | _ => exact key h2
end
theorem C1.mono (hp : PLe φ φ') (hl : Le h h') {v : SV τ} {c : List Value} (e : C1 kd φ h v c) : C1 kd φ' h' v c := by
  have := CR.mono hp hl [v] c (CR_cons.2 ⟨c, [], by simp, e, CR_nil.2 rfl⟩)
  obtain ⟨c1, c2, h1, h2, h3⟩ := CR_cons.1 this
  rw [CR_nil] at h3; subst h3
  simp only [List.append_nil] at h1; subst h1
  exact h2
theorem LR_len : ∀ {l : List (SV τ)} {vs : List Value}, LR kd φ h l vs → vs.length = l.length
  | [], vs, e => by rw [LR_nil] at e; subst e; rfl
  | v :: l, vs, e => by obtain ⟨x, xs, rfl, _, h3⟩ := LR_cons.1 e; simp [LR_len h3]
theorem LR_get : ∀ {l : List (SV τ)} {vs : List Value} {i : Nat} {v : SV τ}, LR kd φ h l vs → l[i]? = some v → ∃ V, vs[i]? = some V ∧ VR kd φ h v V
  | [], _, i, v, _, hi => by simp at hi
  | u :: l, vs, i, v, e, hi => by
    obtain ⟨x, xs, rfl, h2, h3⟩ := LR_cons.1 e
    cases i with
    | zero => simp only [List.getElem?_cons_zero, Option.some.injEq] at hi; subst hi; exact ⟨x, rfl, h2⟩
    | succ i => exact LR_get (i := i) h3 (by simpa using hi)
theorem LR_app : ∀ {l m : List (SV τ)} {xs ys : List Value}, LR kd φ h l xs → LR kd φ h m ys → LR kd φ h (l ++ m) (xs ++ ys)
  | [], m, xs, ys, e, e2 => by rw [LR_nil] at e; subst e; exact e2
  | v :: l, m, xs, ys, e, e2 => by
    obtain ⟨x, zs, rfl, h2, h3⟩ := LR_cons.1 e
    exact LR_cons.2 ⟨x, zs ++ ys, rfl, h2, LR_app h3 e2⟩
theorem CR_app : ∀ {l m : List (SV τ)} {xs ys : List Value}, CR kd φ h l xs → CR kd φ h m ys → CR kd φ h (l ++ m) (xs ++ ys)
  | [], m, xs, ys, e, e2 => by rw [CR_nil] at e; subst e; exact e2
  | v :: l, m, xs, ys, e, e2 => by
    obtain ⟨c1, c2, rfl, h2, h3⟩ := CR_cons.1 e
    exact CR_cons.2 ⟨c1, c2 ++ ys, by simp, h2, CR_app h3 e2⟩
def SV.wid (kd : ∀ i, Kd (τ i)) : SV τ → Nat
  | .fl i _ => (kd i).sz
  | _ => 1
theorem C1_len {v : SV τ} {c : List Value} (e : C1 kd φ h v c) : c.length = v.wid kd := by
  unfold C1 at e
  cases v with
  | fl i x => exact (kd i).len e
  | _ => obtain ⟨V, rfl, _⟩ := e; rfl
theorem C1_one {v : SV τ} {c : List Value} (e : C1 kd φ h v c) : ∀ u ∈ c, u.oneCell' = true := by
  unfold C1 at e
  cases v with
  | fl i x => exact (kd i).one e
  | _ => obtain ⟨V, rfl, _, h1⟩ := e; intro u hu; simp at hu; subst hu; exact h1
def widL (kd : ∀ i, Kd (τ i)) : List (SV τ) → Nat
  | [] => 0
  | v :: l => v.wid kd + widL kd l
theorem CR_len : ∀ {l : List (SV τ)} {cs : List Value}, CR kd φ h l cs → cs.length = widL kd l
  | [], cs, e => by rw [CR_nil] at e; subst e; rfl
  | v :: l, cs, e => by
    obtain ⟨c1, c2, rfl, h2, h3⟩ := CR_cons.1 e
    rw [List.length_append, C1_len h2, CR_len h3]; rfl
theorem CR_one : ∀ {l : List (SV τ)} {cs : List Value}, CR kd φ h l cs → ∀ u ∈ cs, u.oneCell' = true
  | [], cs, e => by rw [CR_nil] at e; subst e; simp
  | v :: l, cs, e => by
    obtain ⟨c1, c2, rfl, h2, h3⟩ := CR_cons.1 e
    intro u hu
    rcases List.mem_append.1 hu with hu | hu
    · exact C1_one h2 u hu
    · exact CR_one h3 u hu
theorem CR_single {v : SV τ} {c : List Value} : CR kd φ h [v] c ↔ C1 kd φ h v c := by
  rw [CR_cons]
  constructor
  · rintro ⟨c1, c2, rfl, h2, h3⟩
    rw [CR_nil] at h3; subst h3; simpa using h2
  · exact fun e => ⟨c, [], by simp, e, CR_nil.2 rfl⟩
end
structure Df (τ : Nat → Type) where
  kd : ∀ i, Kd (τ i)
  opn : ∀ i, τ i → List (SV τ)
  cls : ∀ i, List (SV τ) → Option (τ i)
  opn_ok : ∀ i h x seg, (kd i).rep h x seg → ∀ φ, CR kd φ h (opn i x) seg
  cls_ok : ∀ i φ h l x seg, cls i l = some x → CR kd φ h l seg → (kd i).rep h x seg
  wt : ∀ i, τ i → Prop
  wt_ok : ∀ i h x seg, (kd i).rep h x seg → wt i x
  gf : Nat → Bool
  gf_ok : ∀ i, gf i = true → ∀ h h' x seg, (kd i).rep h x seg → (kd i).rep h' x seg
  /-- arrays: how many, a part, a part put -/
  arr : ∀ i, Option (Nat × (τ i → Int → SV τ) × (τ i → Int → SV τ → Option (τ i)))
  arr_get : ∀ i n get put, arr i = some (n, get, put) → ∀ h x seg q, (kd i).rep h x seg → 0 ≤ q → q < (n : Int) → ∃ V, seg[q.toNat]? = some V ∧ V.oneCell' = true ∧ ∀ φ, VR kd φ h (get x q) V
  arr_put : ∀ i n get put, arr i = some (n, get, put) → ∀ φ h x x' seg q v V, (kd i).rep h x seg → 0 ≤ q → q < (n : Int) → put x q v = some x' → VR kd φ h v V → V.oneCell' = true → (kd i).rep h x' (seg.set q.toNat V)
  arr_len : ∀ i n get put, arr i = some (n, get, put) → (kd i).sz = n
section
variable (D : Df τ) {φ : Ph} {h : Ghost}
def splitC : Nat → List (SV τ) → Nat → Option (List (SV τ) × List (SV τ))
  | 0, l, o => if Nat.beq o 0 then some ([], l) else none
  | f + 1, l, o => match o with
    | 0 => some ([], l)
    | o + 1 => match l with
      | [] => none
      | v :: r => cond (Nat.ble (v.wid D.kd) (o + 1)) (match splitC f r (o + 1 - v.wid D.kd) with
          | some (a, b) => some (v :: a, b)
          | none => none) (match v with
          | .fl i x => splitC f (D.opn i x ++ r) (o + 1)
          | _ => none)
variable {D}
theorem splitC_ok : ∀ {f : Nat} {l a b : List (SV τ)} {o : Nat} {cs : List Value}, splitC D f l o = some (a, b) → CR D.kd φ h l cs → ∃ xs ys, cs = xs ++ ys ∧ xs.length = o ∧ CR D.kd φ h a xs ∧ CR D.kd φ h b ys
  | 0, l, a, b, o, cs, e, hc => by
    unfold splitC at e
    split at e
    · rename_i ho
      have := Nat.eq_of_beq_eq_true ho; subst this
      injection e with e; injection e with e1 e2; subst e1; subst e2
      exact ⟨[], cs, rfl, rfl, CR_nil.2 rfl, hc⟩
    · cases e
  | f + 1, l, a, b, 0, cs, e, hc => by
    unfold splitC at e
    injection e with e; injection e with e1 e2; subst e1; subst e2
    exact ⟨[], cs, rfl, rfl, CR_nil.2 rfl, hc⟩
  | f + 1, [], a, b, o + 1, cs, e, hc => by unfold splitC at e; cases e
  | f + 1, v :: r, a, b, o + 1, cs, e, hc => by
    unfold splitC at e
    obtain ⟨c1, c2, rfl, h2, h3⟩ := CR_cons.1 hc
    have hlen := C1_len h2
    simp only at e
    cases hb : Nat.ble (v.wid D.kd) (o + 1) with
    | true =>
      rw [hb] at e
      simp only [cond_true] at e
      have hle := Nat.le_of_ble_eq_true hb
      split at e
      · rename_i a' b' he
        injection e with e; injection e with e1 e2; subst e1; subst e2
        obtain ⟨xs, ys, rfl, h4, h5, h6⟩ := splitC_ok he h3
        exact ⟨c1 ++ xs, ys, by simp, by rw [List.length_append, hlen, h4]; omega, CR_cons.2 ⟨c1, xs, rfl, h2, h5⟩, h6⟩
      · cases e
    | false =>
      rw [hb] at e
      simp only [cond_false] at e
      cases v with
      | fl i x => exact splitC_ok e (CR_app (D.opn_ok i h x c1 h2 φ) h3)
      | _ => cases e
def segC (D : Df τ) (l : List (SV τ)) (o m : Nat) : Option (List (SV τ) × List (SV τ) × List (SV τ)) := match splitC D 1000 l o with
  | some (a, r) => match splitC D 1000 r m with
    | some (s, b) => some (a, s, b)
    | none => none
  | none => none
theorem segC_ok {l a s b : List (SV τ)} {o m : Nat} {cs : List Value} (e : segC D l o m = some (a, s, b)) (hc : CR D.kd φ h l cs) : ∃ xs ss ys, cs = xs ++ (ss ++ ys) ∧ xs.length = o ∧ ss.length = m ∧ CR D.kd φ h a xs ∧ CR D.kd φ h s ss ∧ CR D.kd φ h b ys := by
  unfold segC at e
  split at e
  · rename_i a' r h1
    split at e
    · rename_i s' b' h2
      injection e with e; injection e with e1 e2; injection e2 with e2 e3; subst e1; subst e2; subst e3
      obtain ⟨xs, ys, rfl, h3, h4, h5⟩ := splitC_ok h1 hc
      obtain ⟨ss, zs, rfl, h6, h7, h8⟩ := splitC_ok h2 h5
      exact ⟨xs, ss, zs, rfl, h3, h6, h4, h7, h8⟩
    · cases e
  · cases e
def packS (D : Df τ) (k : Option Nat) (g : Bool) (s : List (SV τ)) : Option (SV τ) := match g with
  | true => some (match s with
    | [.fl i x] => .fl i x
    | s => match k with
      | some id => match D.cls id s with
        | some x => .fl id x
        | none => .agg s
      | none => .agg s)
  | false => match s with
    | [.fl _ _] => none
    | [v] => some v
    | _ => none
theorem packS_ok {k : Option Nat} {g : Bool} {s : List (SV τ)} {v : SV τ} {ss : List Value} (e : packS D k g s = some v) (hc : CR D.kd φ h s ss) : VR D.kd φ h v (packV g ss) ∧ (g = false → ss.length = 1) := by
  unfold packS at e
  split at e
  · refine ⟨?_, fun hg => by cases hg⟩
    injection e with e
    split at e
    · rename_i i x
      subst e
      rw [CR_single] at hc
      rw [VR]
      exact ⟨ss, rfl, hc⟩
    · split at e
      · rename_i id
        split at e
        · rename_i x hx
          subst e
          rw [VR]; exact ⟨ss, rfl, D.cls_ok _ _ _ _ _ _ hx hc⟩
        · subst e; rw [VR]; exact ⟨ss, rfl, hc⟩
      · subst e; rw [VR]; exact ⟨ss, rfl, hc⟩
  · split at e
    · cases e
    · rename_i u hne
      injection e with e; subst e
      rw [CR_single] at hc
      have : ∃ V, ss = [V] ∧ VR D.kd φ h u V ∧ V.oneCell' = true := by
        unfold C1 at hc
        cases u with
        | fl i x => exact absurd rfl (hne i x)
        | _ => exact hc
      obtain ⟨V, rfl, h1, h2⟩ := this
      exact ⟨h1, fun _ => rfl⟩
    · cases e
end
def SV.cellsS : SV τ → Option (List (SV τ))
  | .agg l => some l
  | .tup _ => none
  | .raw v => if v.oneCell' then some [.raw v] else none
  | v => some [v]
theorem oneCell_cells {V : Value} (h : V.oneCell' = true) : V.cells = #[V] := by cases V <;> first | rfl | (simp [Value.oneCell'] at h)
theorem cellsS_ok {kd : ∀ i, Kd (τ i)} {φ : Ph} {h : Ghost} {v : SV τ} {l : List (SV τ)} {V : Value} (e : v.cellsS = some l) (hv : VR kd φ h v V) : ∃ cs, V.cells = cs.toArray ∧ CR kd φ h l cs := by
  have one : (∀ i x, v ≠ .fl i x) → l = [v] → V.oneCell' = true → ∃ cs, V.cells = cs.toArray ∧ CR kd φ h l cs := fun hne hl h1 => by
    subst hl
    refine ⟨[V], oneCell_cells h1, CR_single.2 ?_⟩
    unfold C1
    cases v with
    | fl i x => exact absurd rfl (hne i x)
    | _ => exact ⟨V, rfl, hv, h1⟩
  cases v with
  | agg m =>
    unfold SV.cellsS at e; injection e with e; subst e
    rw [VR] at hv; obtain ⟨cs, rfl, h2⟩ := hv
    exact ⟨cs, rfl, h2⟩
  | tup m => unfold SV.cellsS at e; cases e
  | fl i x =>
    unfold SV.cellsS at e; injection e with e; subst e
    rw [VR] at hv; obtain ⟨seg, rfl, h2⟩ := hv
    exact ⟨seg, rfl, CR_single.2 h2⟩
  | raw u =>
    have e : (if u.oneCell' = true then some [SV.raw u] else none) = some l := e
    split at e
    · rename_i h1
      injection e with e
      rw [VR] at hv
      refine one (by simp) e.symm (by rw [hv]; exact h1)
    · cases e
  | int k t => unfold SV.cellsS at e; injection e with e; refine one (by simp) e.symm ?_; rw [VR] at hv; rw [hv.1]; rfl
  | bool b => unfold SV.cellsS at e; injection e with e; refine one (by simp) e.symm ?_; rw [VR] at hv; rw [hv]; rfl
  | str b => unfold SV.cellsS at e; injection e with e; refine one (by simp) e.symm ?_; rw [VR] at hv; rw [hv.1]; rfl
  | rs i xs => unfold SV.cellsS at e; injection e with e; refine one (by simp) e.symm ?_; rw [VR] at hv; exact (kd i).slice.one hv V (by simp)
  | nm n => unfold SV.cellsS at e; injection e with e; refine one (by simp) e.symm ?_; rw [VR] at hv; exact hv.2
  | ptr n o => unfold SV.cellsS at e; injection e with e; refine one (by simp) e.symm ?_; rw [VR] at hv; obtain ⟨_, _, rfl⟩ := hv; rfl
  | pa n o m i => unfold SV.cellsS at e; injection e with e; refine one (by simp) e.symm ?_; rw [VR] at hv; obtain ⟨_, _, _, _, rfl⟩ := hv; rfl
  | el n i sz o => unfold SV.cellsS at e; injection e with e; refine one (by simp) e.symm ?_; rw [VR] at hv; obtain ⟨_, _, _, _, _, _, rfl⟩ := hv; rfl
  | ea i x o => unfold SV.cellsS at e; injection e with e; refine one (by simp) e.symm ?_; rw [VR] at hv; obtain ⟨_, _, _, _, rfl⟩ := hv; rfl
  | fn f m => unfold SV.cellsS at e; injection e with e; refine one (by simp) e.symm ?_; rw [VR] at hv; obtain ⟨_, rfl, _⟩ := hv; rfl
  | ifc t x => unfold SV.cellsS at e; injection e with e; refine one (by simp) e.symm ?_; rw [VR] at hv; obtain ⟨_, rfl, _⟩ := hv; rfl
end Gx
namespace Gx
open Go Go.RowKit
set_option linter.unusedSimpArgs false
set_option linter.unusedVariables false
variable {τ : Nat → Type}
inductive SA (τ : Nat → Type) where
  | box (T : Nat) (l : List (SV τ))
  | row (T i : Nat) (xs : List (τ i))
  | fz (i : Nat) (xs : List (τ i))
def boxV (kd : ∀ i, Kd (τ i)) (φ : Ph) (p : Option Value) (T : Nat) (l : List (SV τ)) : Asrt where
  holds := fun h w F => ∃ x cs, p = some (.pointer (some ⟨x, 0, none⟩)) ∧ CR kd φ h l cs ∧ (box x T cs).holds h w F
  mono := fun hl ⟨x, cs, h1, h2, h3⟩ => ⟨x, cs, h1, CR.mono (PLe.refl φ) hl l cs h2, (box x T cs).mono hl h3⟩
  far := fun hf ⟨x, cs, h1, h2, h3⟩ => ⟨x, cs, h1, h2, (box x T cs).far hf h3⟩
def rowV (kd : ∀ i, Kd (τ i)) (p : Option Value) (T i : Nat) (xs : List (τ i)) : Asrt where
  holds := fun h w F => ∃ v, p = some v ∧ (row T (kd i) v xs).holds h w F
  mono := fun hl ⟨v, h1, h2⟩ => ⟨v, h1, (row T (kd i) v xs).mono hl h2⟩
  far := fun hf ⟨v, h1, h2⟩ => ⟨v, h1, (row T (kd i) v xs).far hf h2⟩
def fzV (kd : ∀ i, Kd (τ i)) (p : Option Value) (i : Nat) (xs : List (τ i)) : Asrt where
  holds := fun h _ _ => ∃ v, p = some v ∧ (kd i).slice.rep h xs [v]
  mono := fun hl ⟨v, h1, h2⟩ => ⟨v, h1, (kd i).slice.mono hl h2⟩
  far := fun _ e => e
def den (kd : ∀ i, Kd (τ i)) (φ : Ph) (n : Nat) : SA τ → Asrt
  | .box T l => boxV kd φ (φ n) T l
  | .row T i xs => rowV kd (φ n) T i xs
  | .fz i xs => fzV kd (φ n) i xs
def denO (kd : ∀ i, Kd (τ i)) (φ : Ph) (n : Nat) : Option (SA τ) → Asrt
  | none => emp
  | some a => den kd φ n a
abbrev HF (τ : Nat → Type) := Nat → Option (SA τ)
def LN (kd : ∀ i, Kd (τ i)) (φ : Ph) (g : HF τ) (N : Nat) : List Asrt := (List.range N).map fun n => denO kd φ n (g n)
def gup (g : HF τ) (c : Nat) (o : Option (SA τ)) : HF τ := fun b => cond (Nat.beq b c) o (g b)
def pup (φ : Ph) (c : Nat) (v : Value) : Ph := fun b => if b = c then some v else φ b
theorem gup_eq (g : HF τ) (c : Nat) (o : Option (SA τ)) : gup g c o c = o := by simp [gup]
theorem gup_ne (g : HF τ) {c b : Nat} (o : Option (SA τ)) (h : b ≠ c) : gup g c o b = g b := by
  have : Nat.beq b c = false := by
    cases hb : Nat.beq b c with
    | false => rfl
    | true => exact absurd (Nat.eq_of_beq_eq_true hb) h
  simp [gup, this]
theorem pup_eq (φ : Ph) (c : Nat) (v : Value) : pup φ c v c = some v := by simp [pup]
theorem pup_ne (φ : Ph) {c b : Nat} (v : Value) (h : b ≠ c) : pup φ c v b = φ b := by simp [pup, h]
theorem PLe.pup {φ : Ph} {c : Nat} (v : Value) (h : φ c = none) : PLe φ (pup φ c v) := fun n u e => by
  rw [pup_ne]; exact e
  intro e2; subst e2; rw [h] at e; cases e
section
variable {kd : ∀ i, Kd (τ i)} {φ φ' : Ph} {g : HF τ} {N n : Nat} {base : Bgn} {w0 w w' : World} {h h' : Ghost} {L L' : List Asrt}
theorem LN_len : (LN kd φ g N).length = N := by simp [LN]
theorem LN_get (hn : n < N) : (LN kd φ g N)[n]? = some (denO kd φ n (g n)) := by simp [LN, hn]
theorem LN_set {o : Option (SA τ)} (hn : n < N) : LN kd φ (gup g n o) N = (LN kd φ g N).set n (denO kd φ n o) := by
  apply List.ext_getElem?
  intro i
  rw [List.getElem?_set]
  by_cases hi : i < N
  · rw [LN_get hi, LN_len, if_pos hn]
    by_cases e : n = i
    · subst e; rw [if_pos rfl, gup_eq]
    · rw [if_neg e, gup_ne _ _ (fun h => e h.symm), LN_get hi]
  · rw [List.getElem?_eq_none (by rw [LN_len]; omega), if_neg (by omega), List.getElem?_eq_none (by rw [LN_len]; omega)]
theorem St.get (S : St base w0 h w L) {j : Nat} {A : Asrt} (hj : L[j]? = some A) : ∃ F, A.holds h w F ∧ ∀ b, F b → Uw base w0 h w b := by
  obtain ⟨Fs, hF, _⟩ := S.sep
  exact ⟨_, hF j A hj⟩
theorem St.all (S : St base w0 h w L) {L' : List Asrt} (hl : L'.length = L.length) (hm : ∀ (i : Nat) (A A' : Asrt), L[i]? = some A → L'[i]? = some A' → ∀ F, A.holds h w F → A'.holds h w F) : St base w0 h w L' := by
  obtain ⟨Fs, hF, hD⟩ := S.sep
  refine ⟨S.below, S.bsz, S.ghost, S.dom, Fs, fun i A' hi => ?_, fun i j hi hj => hD i j (by omega) (by omega)⟩
  have hi' : i < L.length := by have := (List.getElem?_eq_some_iff.1 hi).1; omega
  obtain ⟨hA, hU⟩ := hF i _ (List.getElem?_eq_getElem hi')
  exact ⟨hm i _ _ (List.getElem?_eq_getElem hi') hi _ hA, hU⟩
theorem St.swap (S : St base w0 h w L) {j : Nat} {A A' : Asrt} (hj : L[j]? = some A) (hm : ∀ F, A.holds h w F → A'.holds h w F) : St base w0 h w (L.set j A') :=
  S.all (by simp) fun i B B' hB hB' F hF => by
    rw [List.getElem?_set] at hB'
    split at hB'
    · rename_i e; subst e
      rw [hj] at hB; injection hB with hB; subst hB
      split at hB'
      · injection hB' with hB'; subst hB'; exact hm F hF
      · cases hB'
    · rw [hB] at hB'; injection hB' with hB'; subst hB'; exact hF
theorem St.pad (S : St base w0 h w L) : ∀ k, St base w0 h w (L ++ List.replicate k emp)
  | 0 => by simpa using S
  | k + 1 => by
    have := (St.pad S k).fresh (A0 := emp) (Chg.refl w _) trivial
    rw [List.replicate_succ', ← List.append_assoc]; exact this
theorem St.place {A : Asrt} (S : St base w0 h w (L ++ [A])) {c : Nat} (hc : L[c]? = some emp) : St base w0 h w (L.set c A) := by
  obtain ⟨Fs, hF, hD⟩ := S.sep
  have hcl : c < L.length := (List.getElem?_eq_some_iff.1 hc).1
  have hA := hF L.length A (by simp)
  refine ⟨S.below, S.bsz, S.ghost, S.dom, fun i => if i = c then Fs L.length else Fs i, fun i B hi => ?_, fun i j hi hj hij b h1 h2 => ?_⟩
  · rw [List.getElem?_set] at hi
    split at hi
    · rename_i e; subst e
      first
        | rw [if_pos hcl] at hi
        | skip
      injection hi with hi; subst hi
      simp only [if_true]; exact hA
    · rename_i e
      simp only [if_neg (show ¬ i = c from fun h => e h.symm)]
      have hil : i < L.length := (List.getElem?_eq_some_iff.1 hi).1
      exact hF i B (by rw [List.getElem?_append_left hil]; exact hi)
  · rw [List.length_set] at hi hj
    simp only [List.length_append, List.length_cons, List.length_nil] at hD
    by_cases e1 : i = c <;> by_cases e2 : j = c
    · omega
    · subst e1
      rw [if_pos rfl] at h1; rw [if_neg e2] at h2
      exact hD L.length j (by omega) (by omega) (by omega) b h1 h2
    · subst e2
      rw [if_neg e1] at h1; rw [if_pos rfl] at h2
      exact hD i L.length (by omega) (by omega) (by omega) b h1 h2
    · rw [if_neg e1] at h1; rw [if_neg e2] at h2
      exact hD i j (by omega) (by omega) hij b h1 h2
theorem den_mono (hp : PLe φ φ') (a : SA τ) : ∀ F, (den kd φ n a).holds h w F → (den kd φ' n a).holds h w F := by
  intro F hF
  cases a with
  | box T l => obtain ⟨x, cs, h1, h2, h3⟩ := hF; exact ⟨x, cs, hp _ _ h1, CR.mono hp (Le.refl h) l cs h2, h3⟩
  | row T i xs => obtain ⟨v, h1, h2⟩ := hF; exact ⟨v, hp _ _ h1, h2⟩
  | fz i xs => obtain ⟨v, h1, h2⟩ := hF; exact ⟨v, hp _ _ h1, h2⟩
theorem LN_mono (hp : PLe φ φ') (S : St base w0 h w (LN kd φ g N)) : St base w0 h w (LN kd φ' g N) :=
  S.all (by simp [LN_len]) fun i A A' hA hA' F hF => by
    have hi : i < N := by have := (List.getElem?_eq_some_iff.1 hA).1; simpa [LN_len] using this
    rw [LN_get hi] at hA hA'
    injection hA with hA; injection hA' with hA'; subst hA; subst hA'
    cases hg : g i with
    | none => trivial
    | some a => rw [hg] at hF; exact den_mono hp a F hF
structure VRel (kd : ∀ i, Kd (τ i)) (base : Bgn) (w0 : World) (φ : Ph) (h : Ghost) (g : HF τ) (w : World) : Prop where
  st : ∃ N, (∀ n, N ≤ n → g n = none) ∧ St base w0 h w (LN kd φ g N)
theorem VRel.at (R : VRel kd base w0 φ h g w) (n : Nat) : ∃ N, n < N ∧ (∀ n, N ≤ n → g n = none) ∧ St base w0 h w (LN kd φ g N) := by
  obtain ⟨N, h1, S⟩ := R.st
  refine ⟨N + (n + 1), by omega, fun m hm => h1 m (by omega), ?_⟩
  have e : LN kd φ g (N + (n + 1)) = LN kd φ g N ++ List.replicate (n + 1) emp := by
    apply List.ext_getElem?
    intro i
    by_cases hi : i < N
    · rw [LN_get (by omega), List.getElem?_append_left (by rw [LN_len]; exact hi), LN_get hi]
    · by_cases hi2 : i < N + (n + 1)
      · rw [LN_get hi2, List.getElem?_append_right (by rw [LN_len]; omega), LN_len, List.getElem?_replicate, if_pos (by omega), h1 i (by omega)]; rfl
      · rw [List.getElem?_eq_none (by rw [LN_len]; omega), List.getElem?_eq_none (by rw [List.length_append, LN_len, List.length_replicate]; omega)]
  rw [e]; exact S.pad _
theorem VRel.ghost (R : VRel kd base w0 φ h g w) : Le h (hp w) := let ⟨_, _, S⟩ := R.st; S.ghost
theorem VRel.of_set {a : Option (SA τ)} (hN : ∀ m, N ≤ m → g m = none) (hn : n < N) (S : St base w0 h' w' ((LN kd φ g N).set n (denO kd φ n a))) : VRel kd base w0 φ h' (gup g n a) w' :=
  ⟨N, fun m hm => by rw [gup_ne _ _ (by omega)]; exact hN m hm, by rw [LN_set hn]; exact S⟩
theorem VRel.of_new {A : Asrt} {a : SA τ} {c : Nat} {V : Value} (hN : ∀ m, N ≤ m → g m = none) (hc : c < N) (hg : g c = none) (hφ : φ c = none) (S : St base w0 h w' (LN kd φ g N ++ [A])) (hA : ∀ F, A.holds h w' F → (den kd (pup φ c V) c a).holds h w' F) :
    VRel kd base w0 (pup φ c V) h (gup g c (some a)) w' := by
  have hcl : (LN kd φ g N)[c]? = some emp := by rw [LN_get hc, hg]; rfl
  have S1 := S.place hcl
  refine ⟨N, fun m hm => by rw [gup_ne _ _ (by omega)]; exact hN m hm, ?_⟩
  refine S1.all (by simp [LN_len]) fun i B B' hB hB' F hF => ?_
  have hi : i < N := by have := (List.getElem?_eq_some_iff.1 hB').1; simpa [LN_len] using this
  rw [LN_get hi] at hB'
  injection hB' with hB'; subst hB'
  rw [List.getElem?_set] at hB
  by_cases e : c = i
  · subst e
    rw [if_pos rfl, LN_len, if_pos hi] at hB; injection hB with hB; subst hB
    rw [gup_eq]; exact hA F hF
  · rw [if_neg e, LN_get hi] at hB; injection hB with hB; subst hB
    rw [gup_ne _ _ (fun h => e h.symm)]
    cases hgi : g i with
    | none => trivial
    | some b => rw [hgi] at hF; exact den_mono (PLe.pup V hφ) b F hF
theorem VRel.mono (R : VRel kd base w0 φ h g w) (hp : PLe φ φ') : VRel kd base w0 φ' h g w := let ⟨N, h1, S⟩ := R.st; ⟨N, h1, LN_mono hp S⟩
theorem VRel.drop (R : VRel kd base w0 φ h g w) (g' : HF τ) (hg : ∀ n, g' n = g n ∨ g' n = none) : VRel kd base w0 φ h g' w := by
  obtain ⟨N, h1, S⟩ := R.st
  refine ⟨N, fun n hn => (hg n).elim (fun e => e.trans (h1 n hn)) id, S.all (by simp [LN_len]) fun i A A' hA hA' F hF => ?_⟩
  have hi : i < N := by have := (List.getElem?_eq_some_iff.1 hA).1; simpa [LN_len] using this
  rw [LN_get hi] at hA hA'
  injection hA with hA; injection hA' with hA'; subst hA; subst hA'
  rcases hg i with e | e
  · rw [e]; exact hF
  · rw [e]; trivial
theorem VRel.box (R : VRel kd base w0 φ h g w) {T : Nat} {l : List (SV τ)} (hg : g n = some (.box T l)) : ∃ x cs, φ n = some (.pointer (some ⟨x, 0, none⟩)) ∧ CR kd φ h l cs ∧ w.heap[x]? = some (.cells cs.toArray T (0, 0)) := by
  obtain ⟨N, hn, _, S⟩ := R.at n
  obtain ⟨F, a, b⟩ := S.get (LN_get hn)
  rw [hg] at a
  obtain ⟨x, cs, h1, h2, h3⟩ := a
  exact ⟨x, cs, h1, h2, h3.1⟩
theorem VRel.row (R : VRel kd base w0 φ h g w) {T i : Nat} {xs : List (τ i)} (hg : g n = some (.row T i xs)) : ∃ v N, φ n = some v ∧ n < N ∧ (∀ m, N ≤ m → g m = none) ∧ ∃ L, L = (LN kd φ g N).set n (Gx.row T (kd i) v xs) ∧ St base w0 h w L ∧ L[n]? = some (Gx.row T (kd i) v xs) := by
  obtain ⟨N, hn, hN, S⟩ := R.at n
  obtain ⟨F, a, b⟩ := S.get (LN_get hn)
  rw [hg] at a
  obtain ⟨v, h1, h2⟩ := a
  refine ⟨v, N, h1, hn, hN, _, rfl, S.swap (LN_get hn) (fun F hF => ?_), by rw [List.getElem?_set_self (by rw [LN_len]; exact hn)]⟩
  rw [hg] at hF
  obtain ⟨v', e1, e2⟩ := hF
  rw [h1] at e1; injection e1 with e1; subst e1; exact e2
theorem VRel.fz (R : VRel kd base w0 φ h g w) {i : Nat} {xs : List (τ i)} (hg : g n = some (.fz i xs)) : ∃ v, φ n = some v ∧ (kd i).slice.rep h xs [v] := by
  obtain ⟨N, hn, hN, S⟩ := R.at n
  obtain ⟨F, a, b⟩ := S.get (LN_get hn)
  rw [hg] at a
  exact a
theorem VRel.of_set2 {A : Asrt} {a : Option (SA τ)} (hN : ∀ m, N ≤ m → g m = none) (hn : n < N) {B : Asrt} (S : St base w0 h' w' (((LN kd φ g N).set n B).set n A)) (hA : ∀ F, A.holds h' w' F → (denO kd φ n a).holds h' w' F) : VRel kd base w0 φ h' (gup g n a) w' := by
  rw [List.set_set] at S
  refine VRel.of_set hN hn ?_
  have := S.swap (j := n) (A := A) (A' := denO kd φ n a) (by rw [List.getElem?_set_self (by rw [LN_len]; exact hn)]) hA
  rwa [List.set_set] at this
theorem VRel.freeze (R : VRel kd base w0 φ h g w) {T i : Nat} {xs : List (τ i)} (hg : g n = some (.row T i xs)) : ∃ h', Le h h' ∧ VRel kd base w0 φ h' (gup g n (some (.fz i xs))) w := by
  obtain ⟨v, N, h1, hn, hN, L, rfl, S, hL⟩ := R.row hg
  obtain ⟨h', hl, S', hr⟩ := S.freeze hL
  refine ⟨h', hl, VRel.of_set2 hN hn S' (fun F _ => ⟨v, h1, hr⟩)⟩
end
end Gx
namespace Gx
open Go Go.RowKit
set_option linter.unusedSimpArgs false
set_option linter.unusedVariables false
variable {τ : Nat → Type}
def ixor (a b : Int) : Int := ((a.toNat ^^^ b.toNat : Nat) : Int)
def iandn (a b : Int) : Int := ((a.toNat ^^^ (a.toNat &&& b.toNat) : Nat) : Int)
def posBits (k : IntKind) : Nat := match k with
  | .i8 => 7 | .i16 => 15 | .i32 => 31 | .i64 => 63 | .u8 => 8 | .u16 => 16 | .u32 => 32 | .u64 => 64
theorem posBits_le (k : IntKind) : posBits k ≤ k.bits := by cases k <;> decide
theorem inK_pos {k : IntKind} {a : Int} (h : inK k a) (h0 : 0 ≤ a) : a.toNat < 2 ^ posBits k := by
  have h1 := h.2
  cases k <;> simp [IntKind.max, IntKind.signed, IntKind.bits, posBits] at h1 ⊢ <;> omega
theorem inK_of {k : IntKind} {n : Nat} (h : n < 2 ^ posBits k) : inK k (n : Int) := by
  unfold inK
  cases k <;> simp [IntKind.min, IntKind.max, IntKind.signed, IntKind.bits, posBits] at h ⊢ <;> omega
theorem ofInt_pos {k : IntKind} {a : Int} (h : inK k a) (h0 : 0 ≤ a) : (BitVec.ofInt k.bits a).toNat = a.toNat := by
  have h1 := inK_pos h h0
  have h2 : a.toNat < 2 ^ k.bits := Nat.lt_of_lt_of_le h1 (Nat.pow_le_pow_right (by omega) (posBits_le k))
  rw [BitVec.toNat_ofInt]
  rw [Int.emod_eq_of_lt h0 (by have : ((2 ^ k.bits : Nat) : Int) > a := by omega
                               simpa using this)]
theorem iand_in' {k : IntKind} {a b : Int} (ha : inK k a) (h0 : 0 ≤ a) : inK k (iand a b) :=
  inK_of (Nat.lt_of_le_of_lt Nat.and_le_left (inK_pos ha h0))
theorem ior_in' {k : IntKind} {a b : Int} (ha : inK k a) (h0 : 0 ≤ a) (hb : inK k b) (h1 : 0 ≤ b) : inK k (ior a b) :=
  inK_of (Nat.or_lt_two_pow (inK_pos ha h0) (inK_pos hb h1))
theorem ixor_in' {k : IntKind} {a b : Int} (ha : inK k a) (h0 : 0 ≤ a) (hb : inK k b) (h1 : 0 ≤ b) : inK k (ixor a b) :=
  inK_of (Nat.xor_lt_two_pow (inK_pos ha h0) (inK_pos hb h1))
theorem iandn_in' {k : IntKind} {a b : Int} (ha : inK k a) (h0 : 0 ≤ a) : inK k (iandn a b) :=
  inK_of (Nat.xor_lt_two_pow (inK_pos ha h0) (Nat.lt_of_le_of_lt Nat.and_le_left (inK_pos ha h0)))
theorem iandn_bits {n a b : Nat} (x y : BitVec n) (hx : x.toNat = a) (hy : y.toNat = b) : (x &&& ~~~ y).toNat = a ^^^ (a &&& b) := by
  subst hx; subst hy
  apply Nat.eq_of_testBit_eq
  intro i
  rw [← BitVec.getLsbD, BitVec.getLsbD_and, BitVec.getLsbD_not, Nat.testBit_xor, Nat.testBit_and]
  show _ = Bool.xor (x.getLsbD i) (x.getLsbD i && y.getLsbD i)
  by_cases hi : i < n
  · cases x.getLsbD i <;> cases y.getLsbD i <;> simp [hi]
  · rw [BitVec.getLsbD_of_ge x i (by omega)]; simp
section
variable {P : Program} {ρ : Env} {w : World} {d : Option Tmp} {ty : TypeId} {pos : String} {af : Array Edge} {g : Option (Nat × Bool)} {x y : Operand}
theorem x_bits {k : IntKind} {a b r : Int} {t t2 : TypeId} {op : BinOp} (ho : op = .and ∨ op = .or ∨ op = .xor ∨ op = .andNot) (hx : ev ρ x = .int k a) (hy : ev ρ y = .int k b) (ha : inK k a) (h0 : 0 ≤ a) (hb : inK k b) (h1 : 0 ≤ b)
    (hr : r = match op with | .and => iand a b | .or => ior a b | .xor => ixor a b | _ => iandn a b) : (execOp (ev ρ) ⟨d, .binOp op t x y t2, ty, pos, af, g⟩).run P w = .ok (.value (.int k r)) w ∧ inK k r := by
  have e1 := ofInt_pos ha h0
  have e2 := ofInt_pos hb h1
  subst hr
  rcases ho with rfl | rfl | rfl | rfl
  · have h3 : k.wrap ((BitVec.ofInt k.bits a &&& BitVec.ofInt k.bits b).toNat : Int) = iand a b := by rw [BitVec.toNat_and, e1, e2]; exact wrap_in (iand_in' ha h0)
    refine ⟨?_, iand_in' ha h0⟩
    simp only [execOp, hx, hy, Sem.run_bind, guard_int, Result.andThen_ok]
    show ((binOp .and t (.int k a) (.int k b)).run P w).andThen _ = _
    have : (binOp .and t (.int k a) (.int k b)).run P w = .ok (.int k (iand a b)) w := by
      simp only [binOp, ne_eq, not_true_eq_false, if_false, Op.intBits]
      show (Sem.pure (Value.int k (k.wrap ((BitVec.ofInt k.bits a &&& BitVec.ofInt k.bits b).toNat : Int)))).run P w = _
      rw [h3]; rfl
    rw [this]; rfl
  · have h3 : k.wrap ((BitVec.ofInt k.bits a ||| BitVec.ofInt k.bits b).toNat : Int) = ior a b := by rw [BitVec.toNat_or, e1, e2]; exact wrap_in (ior_in' ha h0 hb h1)
    refine ⟨?_, ior_in' ha h0 hb h1⟩
    simp only [execOp, hx, hy, Sem.run_bind, guard_int, Result.andThen_ok]
    show ((binOp .or t (.int k a) (.int k b)).run P w).andThen _ = _
    have : (binOp .or t (.int k a) (.int k b)).run P w = .ok (.int k (ior a b)) w := by
      simp only [binOp, ne_eq, not_true_eq_false, if_false, Op.intBits]
      show (Sem.pure (Value.int k (k.wrap ((BitVec.ofInt k.bits a ||| BitVec.ofInt k.bits b).toNat : Int)))).run P w = _
      rw [h3]; rfl
    rw [this]; rfl
  · have h3 : k.wrap ((BitVec.ofInt k.bits a ^^^ BitVec.ofInt k.bits b).toNat : Int) = ixor a b := by rw [BitVec.toNat_xor, e1, e2]; exact wrap_in (ixor_in' ha h0 hb h1)
    refine ⟨?_, ixor_in' ha h0 hb h1⟩
    simp only [execOp, hx, hy, Sem.run_bind, guard_int, Result.andThen_ok]
    show ((binOp .xor t (.int k a) (.int k b)).run P w).andThen _ = _
    have : (binOp .xor t (.int k a) (.int k b)).run P w = .ok (.int k (ixor a b)) w := by
      simp only [binOp, ne_eq, not_true_eq_false, if_false, Op.intBits]
      show (Sem.pure (Value.int k (k.wrap ((BitVec.ofInt k.bits a ^^^ BitVec.ofInt k.bits b).toNat : Int)))).run P w = _
      rw [h3]; rfl
    rw [this]; rfl
  · have h3 : k.wrap ((BitVec.ofInt k.bits a &&& ~~~ BitVec.ofInt k.bits b).toNat : Int) = iandn a b := by rw [iandn_bits _ _ e1 e2]; exact wrap_in (iandn_in' ha h0)
    refine ⟨?_, iandn_in' ha h0⟩
    simp only [execOp, hx, hy, Sem.run_bind, guard_int, Result.andThen_ok]
    show ((binOp .andNot t (.int k a) (.int k b)).run P w).andThen _ = _
    have : (binOp .andNot t (.int k a) (.int k b)).run P w = .ok (.int k (iandn a b)) w := by
      simp only [binOp, ne_eq, not_true_eq_false, if_false, Op.intBits]
      show (Sem.pure (Value.int k (k.wrap ((BitVec.ofInt k.bits a &&& ~~~ BitVec.ofInt k.bits b).toNat : Int)))).run P w = _
      rw [h3]; rfl
    rw [this]; rfl
theorem wrap_k (k : IntKind) (x : Int) : inK k (k.wrap x) := by
  unfold inK IntKind.wrap
  cases k <;> simp [IntKind.min, IntKind.max, IntKind.bits, IntKind.signed] <;> (try split) <;> omega
theorem x_subw {k : IntKind} {a b : Int} {t t2 : TypeId} (hx : ev ρ x = .int k a) (hy : ev ρ y = .int k b) : (execOp (ev ρ) ⟨d, .binOp .sub t x y t2, ty, pos, af, g⟩).run P w = .ok (.value (.int k (k.wrap (a - b)))) w := by
  simp [execOp, hx, hy, eqGuard, binOp, Op.intArith, go_sem]
theorem wrap_shl (k : IntKind) (a : Int) (n : Nat) : k.wrap (a * 2 ^ min n k.bits) = k.wrap (a * 2 ^ n) := by
  rcases Nat.le_total n k.bits with h | h
  · rw [Nat.min_eq_left h]
  · rw [Nat.min_eq_right h]
    have e : ∀ m, k.bits ≤ m → (a * 2 ^ m) % (2 ^ k.bits : Int) = 0 := fun m hm => by
      apply Int.emod_eq_zero_of_dvd
      rw [show m = k.bits + (m - k.bits) by omega, Int.pow_add, ← Int.mul_assoc, Int.mul_comm a, Int.mul_assoc]
      exact Int.dvd_mul_right _ _
    unfold IntKind.wrap
    simp only [e _ (Nat.le_refl _), e _ h]
theorem x_shlw {k yk : IntKind} {a b : Int} {t t2 : TypeId} (hx : ev ρ x = .int k a) (hy : ev ρ y = .int yk b) (h0 : 0 ≤ b) : (execOp (ev ρ) ⟨d, .binOp .shl t x y t2, ty, pos, af, g⟩).run P w = .ok (.value (.int k (k.wrap (a * 2 ^ b.toNat)))) w := by
  simp only [execOp, hx, hy, Sem.run_bind, guard_int, Result.andThen_ok]
  show ((binOp .shl t (.int k a) (.int yk b)).run P w).andThen _ = _
  have : (binOp .shl t (.int k a) (.int yk b)).run P w = .ok (.int k (k.wrap (a * 2 ^ b.toNat))) w := by
    simp only [binOp, Op.shift]
    rw [if_neg (by omega), wrap_shl]; rfl
  rw [this]; rfl
end
end Gx
namespace Gx
open Go Go.RowKit
set_option linter.unusedSimpArgs false
set_option linter.unusedVariables false
@[reducible] def Ty (σ : Nat → Type) : Nat → Type
  | 0 => Int
  | 1 => Int
  | 2 => Int
  | 3 => Bool
  | 4 => ByteArray
  | n + 5 => σ n
variable {σ : Nat → Type}
structure Cx (P : Program) (D : Df (Ty σ)) where
  k0 : D.kd 0 = Kd.int .i64
  k1 : D.kd 1 = Kd.int .u8
  k2 : D.kd 2 = Kd.int .u64
  k3 : D.kd 3 = Kd.bool
  k4 : D.kd 4 = Kd.string
  mixed : P.follows .mixedOrders = true
  /-- the kind of a type's values -/
  kt : Nat → Option Nat
  /-- zero values -/
  zs : Nat → Option (List (SV (Ty σ)))
  zs_ok : ∀ T l, zs T = some l → ∃ n b g z cs, tyInfo P T = some (n, b, g, some z) ∧ z.cells = List.toArray cs ∧ (g = false → n = 1 ∧ cs = [z]) ∧ ∀ φ h, CR D.kd φ h l cs
  zk : Nat → Option (Σ i, Ty σ i)
  zk_ok : ∀ T i x, zk T = some ⟨i, x⟩ → ∃ n b g z cs, tyInfo P T = some (n, b, g, some z) ∧ z.cells = List.toArray cs ∧ ∀ h, (D.kd i).rep h x cs
  /-- structs and arrays that are held against each other -/
  deq : ∀ i, DecidableEq (Ty σ i)
  eqf : Nat → Nat → Bool
  eqf_ok : ∀ T i, eqf T i = true → ∀ h x y sx sy, (D.kd i).rep h x sx → (D.kd i).rep h y sy → ∀ (e : Env) (w : World) d ty pos af g (a b : Operand) t2, ev e a = .agg (List.toArray sx) → ev e b = .agg (List.toArray sy) →
    (execOp (ev e) ⟨d, .binOp .eql T a b t2, ty, pos, af, g⟩).run P w = .ok (.value (.bool (@decide (x = y) (deq i x y)))) w ∧ (execOp (ev e) ⟨d, .binOp .neq T a b t2, ty, pos, af, g⟩).run P w = .ok (.value (.bool (!(@decide (x = y) (deq i x y))))) w
abbrev SVs (σ : Nat → Type) := SV (Ty σ)
abbrev HFs (σ : Nat → Type) := HF (Ty σ)
def en (a : Act) : Env := fun t => a.tmps.getD t undef
theorem act_eval (a : Act) : a.eval = ev (en a) := by funext x; cases x <;> rfl
def opS (S : Nat → Prop) : Operand → Prop
  | .tmp t => S t
  | _ => True
abbrev Slots (σ : Nat → Type) := Nat → Option (SVs σ)
def ERel (kd : ∀ i, Kd (Ty σ i)) (φ : Ph) (h : Ghost) (ρ : Slots σ) (e : Env) (S : Nat → Prop) : Prop := ∀ t v, S t → ρ t = some v → VR kd φ h v (e t)
def inKb (k : IntKind) (n : Int) : Bool := decide (k.min ≤ n) && decide (n ≤ k.max)
def ofC1 : Value → SVs σ
  | .int k n => cond (inKb k n) (.int k n) (.raw (.int k n))
  | .bool b => .bool b
  | .string s => cond (Nat.ble s.size maxLen) (.str s) (.raw (.string s))
  | v => .raw v
def ofC : Value → SVs σ
  | .agg cs => cond (cs.toList.all Value.oneCell') (.agg (cs.toList.map ofC1)) (.raw (.agg cs))
  | v => ofC1 v
section
variable {kd : ∀ i, Kd (Ty σ i)} {φ : Ph} {h : Ghost}
theorem ofC1_ok (v : Value) : VR kd φ h (ofC1 (σ := σ) v) v := by
  cases v with
  | int k n =>
    show VR kd φ h (cond (inKb k n) (.int k n) (.raw (.int k n))) _
    cases hb : inKb k n with
    | false => show VR kd φ h (.raw _) _; rw [VR]
    | true =>
      show VR kd φ h (.int _ _) _; rw [VR]
      unfold inKb at hb; rw [Bool.and_eq_true] at hb
      exact ⟨rfl, of_decide_eq_true hb.1, of_decide_eq_true hb.2⟩
  | string s =>
    show VR kd φ h (cond (Nat.ble s.size maxLen) (.str s) (.raw (.string s))) _
    cases hb : Nat.ble s.size maxLen with
    | false => show VR kd φ h (.raw _) _; rw [VR]
    | true => show VR kd φ h (.str _) _; rw [VR]; exact ⟨rfl, Nat.le_of_ble_eq_true hb⟩
  | bool b => show VR kd φ h (.bool _) _; rw [VR]
  | _ => show VR kd φ h (.raw _) _; rw [VR]
theorem ofC1_C1 {v : Value} (h1 : v.oneCell' = true) : C1 kd φ h (ofC1 (σ := σ) v) [v] := by
  have := ofC1_ok (kd := kd) (φ := φ) (h := h) v
  unfold C1
  split
  · rename_i i x e
    unfold ofC1 at e
    split at e
    · rename_i k n; cases hb : inKb k n <;> rw [hb] at e <;> cases e
    · cases e
    · rename_i s; cases hb : Nat.ble s.size maxLen <;> rw [hb] at e <;> cases e
    · cases e
  · exact ⟨v, rfl, this, h1⟩
theorem ofC1_L : ∀ {l : List Value}, l.all Value.oneCell' = true → CR kd φ h (l.map (ofC1 (σ := σ))) l
  | [], _ => CR_nil.2 rfl
  | v :: l, e => by
    rw [List.all_cons, Bool.and_eq_true] at e
    exact CR_cons.2 ⟨[v], l, rfl, ofC1_C1 e.1, ofC1_L e.2⟩
theorem ofC_ok (v : Value) : VR kd φ h (ofC (σ := σ) v) v := by
  unfold ofC
  split
  · rename_i cs
    cases hb : cs.toList.all Value.oneCell' with
    | false => simp only [cond_false]; rw [VR]
    | true => simp only [cond_true]; rw [VR]; exact ⟨cs.toList, by simp, ofC1_L hb⟩
  · exact ofC1_ok _
def evS (ρ : Slots σ) : Operand → Option (SVs σ)
  | .tmp t => ρ t
  | .const v => some (ofC v)
  | .func f => some (.fn f [])
  | .global _ => none
theorem evS_ok {ρ : Slots σ} {e : Env} {S : Nat → Prop} (hρ : ERel kd φ h ρ e S) {x : Operand} {v : SVs σ} (hS : opS S x) (he : evS ρ x = some v) : VR kd φ h v (ev e x) := by
  cases x with
  | tmp t => exact hρ t v hS he
  | const y => unfold evS at he; injection he with he; subst he; exact ofC_ok y
  | func f => unfold evS at he; injection he with he; subst he; rw [VR]; exact ⟨[], rfl, LR_nil.2 rfl⟩
  | global _ => cases he
def evL (ρ : Slots σ) : List Operand → Option (List (SVs σ))
  | [] => some []
  | x :: l => match evS ρ x, evL ρ l with
    | some a, some r => some (a :: r)
    | _, _ => none
theorem evL_ok {ρ : Slots σ} {e : Env} {S : Nat → Prop} (hρ : ERel kd φ h ρ e S) : ∀ {l : List Operand} {vs : List (SVs σ)}, (∀ x ∈ l, opS S x) → evL ρ l = some vs → LR kd φ h vs (l.map (ev e))
  | [], vs, _, he => by unfold evL at he; injection he with he; subst he; exact LR_nil.2 rfl
  | x :: l, vs, hS, he => by
    unfold evL at he
    split at he
    · rename_i a r h1 h2
      injection he with he; subst he
      exact LR_cons.2 ⟨_, _, rfl, evS_ok hρ (hS x (by simp)) h1, evL_ok hρ (fun y hy => hS y (by simp [hy])) h2⟩
    · cases he
end
structure OR (σ : Nat → Type) where
  pre : List Prop
  fact : List Prop
  v : SVs σ
  ups : List (Nat × Option (SA (Ty σ)))
  c' : Nat
  F : List Nat
def appU : List (Nat × Option (SA (Ty σ))) → HFs σ → HFs σ
  | [], g => g
  | (n, o) :: r, g => appU r (gup g n o)
def Fre (φ : Ph) (c c' : Nat) : Prop := ∀ n, c ≤ n → n < c' → φ n = none
structure Step (kd : ∀ i, Kd (Ty σ i)) (base : Bgn) (w0 : World) (φ : Ph) (h : Ghost) (c : Nat) (φ' : Ph) (h' : Ghost) (g' : HFs σ) (w' : World) (c' : Nat) : Prop where
  ple : PLe φ φ'
  same : ∀ n, ¬ (c ≤ n ∧ n < c') → φ' n = φ n
  le : Le h h'
  rel : VRel kd base w0 φ' h' g' w'
def Holds (l : List Prop) : Prop := ∀ p ∈ l, p
def undS : SVs σ := .tup []
theorem undS_ok {kd : ∀ i, Kd (Ty σ i)} {φ : Ph} {h : Ghost} : VR kd φ h (undS (σ := σ)) undef := by unfold undS; rw [VR]; exact ⟨[], rfl, LR_nil.2 rfl⟩
section
variable {P : Program} {D : Df (Ty σ)} {base : Bgn} {w0 : World}
def OpOK (P : Program) (D : Df (Ty σ)) (base : Bgn) (w0 : World) (o : Oper) (ρ : Slots σ) (H : HFs σ) (c : Nat) (r : OR σ) : Prop :=
  c ≤ r.c' ∧ (Holds r.pre → ∀ (φ : Ph) (h : Ghost) (g : HFs σ) (w : World) (a : Act) (S : Nat → Prop), (∀ x ∈ o.op.operands, opS S x) → ERel D.kd φ h ρ (en a) S → VRel D.kd base w0 φ h g w → (∀ b ∈ r.F, g b = H b) → Fre φ c r.c' →
    ∀ (next : Act → World → Prop) (Q : Exit → Act → World → Prop), (∀ φ' h' w' V, Step D.kd base w0 φ h c φ' h' (appU r.ups g) w' r.c' → VR D.kd φ' h' r.v V → next (a.put o.dst V) w') → o.wp P a w next Q)
theorem Step.refl {kd : ∀ i, Kd (Ty σ i)} {φ : Ph} {h : Ghost} {g : HFs σ} {w : World} (R : VRel kd base w0 φ h g w) (c : Nat) : Step kd base w0 φ h c φ h g w c := ⟨PLe.refl φ, fun _ _ => rfl, Le.refl h, R⟩
theorem ok_val {o : Oper} {ρ : Slots σ} {H : HFs σ} {c : Nat} {pre fact : List Prop} {v : SVs σ} {F : List Nat}
    (hk : Holds pre → ∀ (φ : Ph) (h : Ghost) (g : HFs σ) (w : World) (e : Env) (S : Nat → Prop), (∀ x ∈ o.op.operands, opS S x) → ERel D.kd φ h ρ e S → VRel D.kd base w0 φ h g w → (∀ b ∈ F, g b = H b) → ∃ V, (execOp (ev e) o).run P w = .ok (.value V) w ∧ VR D.kd φ h v V) :
    OpOK P D base w0 o ρ H c ⟨pre, fact, v, [], c, F⟩ := by
  refine ⟨Nat.le_refl c, fun hp φ h g w a S hS hρ R hF hf next Q hn => ?_⟩
  obtain ⟨V, h1, h2⟩ := hk hp φ h g w (en a) S hS hρ R hF
  unfold Oper.wp; rw [act_eval, h1]
  exact hn φ h w V (Step.refl R c) h2
theorem ok_mem {o : Oper} {ρ : Slots σ} {H : HFs σ} {c : Nat} {r : OR σ} (hc : c ≤ r.c')
    (hk : Holds r.pre → ∀ (φ : Ph) (h : Ghost) (g : HFs σ) (w : World) (e : Env) (S : Nat → Prop), (∀ x ∈ o.op.operands, opS S x) → ERel D.kd φ h ρ e S → VRel D.kd base w0 φ h g w → (∀ b ∈ r.F, g b = H b) → Fre φ c r.c' →
      ∃ φ' h' w' V, ((execOp (ev e) o).run P w = .ok (.value V) w' ∨ ((execOp (ev e) o).run P w = .ok .skip w' ∧ V = undef)) ∧ Step D.kd base w0 φ h c φ' h' (appU r.ups g) w' r.c' ∧ VR D.kd φ' h' r.v V) :
    OpOK P D base w0 o ρ H c r := by
  refine ⟨hc, fun hp φ h g w a S hS hρ R hF hf next Q hn => ?_⟩
  obtain ⟨φ', h', w', V, h1, h2, h3⟩ := hk hp φ h g w (en a) S hS hρ R hF hf
  unfold Oper.wp
  rcases h1 with h1 | ⟨h1, rfl⟩
  · rw [act_eval, h1]; exact hn φ' h' w' V h2 h3
  · rw [act_eval, h1]; exact hn φ' h' w' undef h2 h3
end
end Gx
namespace Gx
open Go Go.RowKit
set_option linter.unusedSimpArgs false
set_option linter.unusedVariables false
variable {σ : Nat → Type} [∀ i, Inhabited (Ty σ i)] {P : Program} {D : Df (Ty σ)} {base : Bgn} {w0 : World}
section
variable (X : Cx P D)
def rv (c : Nat) (v : SVs σ) : OR σ := ⟨[], [], v, [], c, []⟩
def rvp (c : Nat) (p : List Prop) (v : SVs σ) : OR σ := ⟨p, [], v, [], c, []⟩
def slS (H : HFs σ) : SVs σ → Option ((Σ i, List (Ty σ i)) × List Nat)
  | .rs i xs => some (⟨i, xs⟩, [])
  | .nm n => match H n with
    | some (.row _ i xs) => some (⟨i, xs⟩, [n])
    | some (.fz i xs) => some (⟨i, xs⟩, [n])
    | _ => none
  | _ => none
theorem slS_ok {H g : HFs σ} {v : SVs σ} {i : Nat} {xs : List (Ty σ i)} {F : List Nat} {φ : Ph} {h : Ghost} {w : World} {V : Value} (e : slS H v = some (⟨i, xs⟩, F)) (hF : ∀ b ∈ F, g b = H b) (hv : VR D.kd φ h v V) (R : VRel D.kd base w0 φ h g w) :
    ∃ A c, V = .slice A xs.length c ∧ xs.length ≤ c ∧ c ≤ maxLen ∧ Leads (D.kd i) (hp w) A xs := by
  unfold slS at e
  split at e
  · rename_i j ys
    injection e with e; injection e with e1 e2
    injection e1 with e1 e3; subst e1
    have e3 := eq_of_heq e3; subst e3
    rw [VR] at hv
    obtain ⟨A, c, h1, h2, h3, h4⟩ := hv
    injection h1 with h1
    exact ⟨A, c, h1, h2, h3, h4.mono R.ghost⟩
  · rename_i n
    split at e
    · rename_i T j ys hn
      injection e with e; injection e with e1 e2
      injection e1 with e1 e3; subst e1
      have e3 := eq_of_heq e3; subst e3; subst e2
      have hg := (hF n (by simp)).trans hn
      obtain ⟨v, N, h1, h2, h3, L, h4, S, h5⟩ := R.row hg
      rw [VR] at hv
      rw [h1] at hv; have hv := hv.1; injection hv with hv; subst hv
      obtain ⟨A, c, e, h6, h7⟩ := S.row_val h5
      subst e
      exact ⟨A, c, rfl, h6, h7, S.row_leads h5⟩
    · rename_i j ys hn
      injection e with e; injection e with e1 e2
      injection e1 with e1 e3; subst e1
      have e3 := eq_of_heq e3; subst e3; subst e2
      have hg := (hF n (by simp)).trans hn
      obtain ⟨v, h1, A, c, h2, h3, h4, h5⟩ := R.fz hg
      rw [VR] at hv
      rw [h1] at hv; have hv := hv.1; injection hv with hv; subst hv
      injection h2 with h2
      exact ⟨A, c, h2, h3, h4, h5.mono R.ghost⟩
    · cases e
  · cases e
def lenS (H : HFs σ) (c : Nat) : SVs σ → Option (OR σ)
  | .str s => some (rv c (.int .i64 (s.size : Int)))
  | .raw (.slice none 0 0) => some (rv c (.int .i64 0))
  | v => match slS H v with
    | some (⟨_, xs⟩, F) => some ⟨[], [], .int .i64 (xs.length : Int), [], c, F⟩
    | none => none
theorem maxLen_i64 {n : Nat} (h : n ≤ maxLen) : inK .i64 (n : Int) := by simp only [maxLen] at h; exact in_i64 (by omega) (by omega)
def arS (wr : Bool) (op : BinOp) (k : IntKind) (a b : Int) : Option (List Prop × SVs σ) := match op with
  | .add => cond wr (some ([], .int k (k.wrap (a + b)))) (some ([inK k (a + b)], .int k (a + b)))
  | .sub => cond wr (some ([], .int k (k.wrap (a - b)))) (some ([inK k (a - b)], .int k (a - b)))
  | .mul => cond wr (some ([], .int k (k.wrap (a * b)))) (some ([inK k (a * b)], .int k (a * b)))
  | .quo => some ([0 ≤ a, 0 < b], .int k (a / b))
  | .rem => some ([0 ≤ a, 0 < b], .int k (a % b))
  | .lss => some ([], .bool (decide (a < b)))
  | .leq => some ([], .bool (decide (a ≤ b)))
  | .gtr => some ([], .bool (decide (b < a)))
  | .geq => some ([], .bool (decide (b ≤ a)))
  | .eql => some ([], .bool (decide (a = b)))
  | .neq => some ([], .bool (!(decide (a = b))))
  | .and => some (posP k a b, .int k (iand a b))
  | .or => some (posP k a b, .int k (ior a b))
  | .xor => some (posP k a b, .int k (ixor a b))
  | .andNot => some (posP k a b, .int k (iandn a b))
  | _ => none
where
  /-- numbers with a sign must not be below 0 -/
  posP (k : IntKind) (a b : Int) : List Prop := match k with
    | .u8 | .u16 | .u32 | .u64 => []
    | _ => [0 ≤ a, 0 ≤ b]
def shS (wr : Bool) (op : BinOp) (k : IntKind) (a b : Int) : Option (List Prop × SVs σ) := match op with
  | .shl => cond wr (some ([0 ≤ b], .int k (k.wrap (a * 2 ^ b.toNat)))) (some ([0 ≤ b, inK k (a * 2 ^ b.toNat)], .int k (a * 2 ^ b.toNat)))
  | .shr => some ([0 ≤ a, 0 ≤ b, b ≤ k.bits], .int k (a / 2 ^ b.toNat))
  | _ => none
def isNilP : SVs σ → Option Bool
  | .raw (.pointer none) => some true
  | .ptr _ _ => some false
  | .pa _ _ _ _ => some false
  | .el _ _ _ _ => some false
  | .ea _ _ _ => some false
  | _ => none
def binS (wr : Bool) (op : BinOp) (T : Nat) (x y : SVs σ) : Option (List Prop × SVs σ) := match x, y with
  | .int k a, .int k' b => match op with
    | .shl => shS wr .shl k a b
    | .shr => shS wr .shr k a b
    | op => if k = k' then arS wr op k a b else none
  | .bool a, .bool b => match P.underlying T with
    | some .bool => match op with
      | .eql => some ([], .bool (decide (a = b)))
      | .neq => some ([], .bool (!(decide (a = b))))
      | _ => none
    | _ => none
  | .str a, .str b => match op with
    | .add => some ([a.size + b.size ≤ maxLen], .str (a ++ b))
    | .eql => some ([], .bool (decide (a = b)))
    | .neq => some ([], .bool (!(decide (a = b))))
    | .lss => some ([], .bool (strLt a b))
    | _ => none
  | .fl i a, .fl j b => if e : j = i then if X.eqf T i then match op with
      | .eql => some ([], .bool (@decide (a = e ▸ b) (X.deq i a (e ▸ b))))
      | .neq => some ([], .bool (!(@decide (a = e ▸ b) (X.deq i a (e ▸ b)))))
      | _ => none else none else none
  | x, .raw (.pointer none) => match isNilP x, P.underlying T with
    | some b, some (.pointer _) => match op with
      | .eql => some ([], .bool b)
      | .neq => some ([], .bool (!b))
      | _ => none
    | _, _ => none
  | _, _ => none
end
section
variable {X : Cx P D} {φ : Ph} {h : Ghost} {w : World} {e : Env} {d : Option Tmp} {ty : TypeId} {pos : String} {af : Array Edge} {gd : Option (Nat × Bool)} {x y : Operand} {t2 : TypeId}
theorem holds_cons {p : Prop} {l : List Prop} (h : Holds (p :: l)) : p ∧ Holds l := ⟨h p (by simp), fun q hq => h q (List.mem_cons_of_mem _ hq)⟩
theorem inK_unsigned {k : IntKind} {a b : Int} (ha : inK k a) (hb : inK k b) (hp : Holds (arS.posP k a b)) : 0 ≤ a ∧ 0 ≤ b := by
  have h1 := ha.1; have h2 := hb.1
  cases k <;> simp only [arS.posP] at hp <;> first
    | exact ⟨(holds_cons hp).1, (holds_cons (holds_cons hp).2).1⟩
    | (simp [IntKind.min, IntKind.signed] at h1 h2; exact ⟨h1, h2⟩)
theorem inK_quo {k : IntKind} {a b : Int} (ha : inK k a) (h0 : 0 ≤ a) (hb : 0 < b) : inK k (a / b) := by
  refine ⟨Int.le_trans ?_ (Int.ediv_nonneg h0 (Int.le_of_lt hb)), Int.le_trans (Int.ediv_le_self b h0) ha.2⟩
  cases k <;> simp [IntKind.min, IntKind.signed, IntKind.bits]
theorem inK_rem {k : IntKind} {a b : Int} (ha : inK k a) (h0 : 0 ≤ a) (hb : 0 < b) : inK k (a % b) := by
  refine ⟨Int.le_trans ?_ (Int.emod_nonneg a (by omega)), ?_⟩
  · cases k <;> simp [IntKind.min, IntKind.signed, IntKind.bits]
  · refine Int.le_trans ?_ ha.2
    have := Int.emod_add_mul_ediv a b
    have h2 : 0 ≤ b * (a / b) := Int.mul_nonneg (Int.le_of_lt hb) (Int.ediv_nonneg h0 (Int.le_of_lt hb))
    omega
theorem VR_int {k : IntKind} {a : Int} {V : Value} (h : VR D.kd φ h (.int k a) V) : V = .int k a ∧ inK k a := by rw [VR] at h; exact h
theorem neq_eq {a b : Int} : decide (a ≠ b) = !decide (a = b) := by by_cases h : a = b <;> simp [h]
theorem x_neq' {k : IntKind} {a b : Int} {t : TypeId} (hx : ev e x = .int k a) (hy : ev e y = .int k b) : (execOp (ev e) ⟨d, .binOp .neq t x y t2, ty, pos, af, gd⟩).run P w = .ok (.value (.bool (!decide (a = b)))) w := by
  rw [← neq_eq]; exact x_neq hx hy
theorem ar_ok {wr : Bool} {op : BinOp} {k : IntKind} {a b : Int} {p : List Prop} {v : SVs σ} {T : TypeId} (he : arS wr op k a b = some (p, v)) (hp : Holds p) (hx : ev e x = .int k a) (hy : ev e y = .int k b) (ha : inK k a) (hb : inK k b) :
    ∃ V, (execOp (ev e) ⟨d, .binOp op T x y t2, ty, pos, af, gd⟩).run P w = .ok (.value V) w ∧ VR D.kd φ h v V := by
  unfold arS at he
  split at he
  · cases wr <;> simp only [cond_true, cond_false, Option.some.injEq, Prod.mk.injEq] at he <;> obtain ⟨rfl, rfl⟩ := he
    · exact ⟨_, x_add hx hy (holds_cons hp).1, by rw [VR]; exact ⟨rfl, (holds_cons hp).1⟩⟩
    · exact ⟨_, x_addw hx hy, by rw [VR]; exact ⟨rfl, wrap_k _ _⟩⟩
  · cases wr <;> simp only [cond_true, cond_false, Option.some.injEq, Prod.mk.injEq] at he <;> obtain ⟨rfl, rfl⟩ := he
    · exact ⟨_, x_sub hx hy (holds_cons hp).1, by rw [VR]; exact ⟨rfl, (holds_cons hp).1⟩⟩
    · exact ⟨_, x_subw hx hy, by rw [VR]; exact ⟨rfl, wrap_k _ _⟩⟩
  · cases wr <;> simp only [cond_true, cond_false, Option.some.injEq, Prod.mk.injEq] at he <;> obtain ⟨rfl, rfl⟩ := he
    · exact ⟨_, x_mul hx hy (holds_cons hp).1, by rw [VR]; exact ⟨rfl, (holds_cons hp).1⟩⟩
    · exact ⟨_, x_mul_wrap hx hy, by rw [VR]; exact ⟨rfl, wrap_k _ _⟩⟩
  · injection he with he; injection he with h1 h2; subst h1; subst h2
    have h0 := (holds_cons hp).1; have h3 := (holds_cons (holds_cons hp).2).1
    exact ⟨_, x_quo hx hy h0 h3 (inK_quo ha h0 h3), by rw [VR]; exact ⟨rfl, inK_quo ha h0 h3⟩⟩
  · injection he with he; injection he with h1 h2; subst h1; subst h2
    have h0 := (holds_cons hp).1; have h3 := (holds_cons (holds_cons hp).2).1
    exact ⟨_, x_rem hx hy h0 h3, by rw [VR]; exact ⟨rfl, inK_rem ha h0 h3⟩⟩
  · injection he with he; injection he with h1 h2; subst h2; exact ⟨_, x_lss hx hy, by rw [VR]⟩
  · injection he with he; injection he with h1 h2; subst h2; exact ⟨_, x_leq hx hy, by rw [VR]⟩
  · injection he with he; injection he with h1 h2; subst h2; exact ⟨_, x_gtr hx hy, by rw [VR]⟩
  · injection he with he; injection he with h1 h2; subst h2; exact ⟨_, x_geq hx hy, by rw [VR]⟩
  · injection he with he; injection he with h1 h2; subst h2; exact ⟨_, x_eql hx hy, by rw [VR]⟩
  · injection he with he; injection he with h1 h2; subst h2; exact ⟨_, x_neq' hx hy, by rw [VR]⟩
  · injection he with he; injection he with h1 h2; subst h1; subst h2
    obtain ⟨h0, h1⟩ := inK_unsigned ha hb hp
    obtain ⟨h2, h3⟩ := x_bits (P := P) (w := w) (d := d) (ty := ty) (pos := pos) (af := af) (g := gd) (t := T) (t2 := t2) (op := .and) (.inl rfl) hx hy ha h0 hb h1 rfl
    exact ⟨_, h2, by rw [VR]; exact ⟨rfl, h3⟩⟩
  · injection he with he; injection he with h1 h2; subst h1; subst h2
    obtain ⟨h0, h1⟩ := inK_unsigned ha hb hp
    obtain ⟨h2, h3⟩ := x_bits (P := P) (w := w) (d := d) (ty := ty) (pos := pos) (af := af) (g := gd) (t := T) (t2 := t2) (op := .or) (.inr (.inl rfl)) hx hy ha h0 hb h1 rfl
    exact ⟨_, h2, by rw [VR]; exact ⟨rfl, h3⟩⟩
  · injection he with he; injection he with h1 h2; subst h1; subst h2
    obtain ⟨h0, h1⟩ := inK_unsigned ha hb hp
    obtain ⟨h2, h3⟩ := x_bits (P := P) (w := w) (d := d) (ty := ty) (pos := pos) (af := af) (g := gd) (t := T) (t2 := t2) (op := .xor) (.inr (.inr (.inl rfl))) hx hy ha h0 hb h1 rfl
    exact ⟨_, h2, by rw [VR]; exact ⟨rfl, h3⟩⟩
  · injection he with he; injection he with h1 h2; subst h1; subst h2
    obtain ⟨h0, h1⟩ := inK_unsigned ha hb hp
    obtain ⟨h2, h3⟩ := x_bits (P := P) (w := w) (d := d) (ty := ty) (pos := pos) (af := af) (g := gd) (t := T) (t2 := t2) (op := .andNot) (.inr (.inr (.inr rfl))) hx hy ha h0 hb h1 rfl
    exact ⟨_, h2, by rw [VR]; exact ⟨rfl, h3⟩⟩
  · cases he
theorem sh_ok {wr : Bool} {op : BinOp} {k k' : IntKind} {a b : Int} {p : List Prop} {v : SVs σ} {T : TypeId} (he : shS wr op k a b = some (p, v)) (hp : Holds p) (hx : ev e x = .int k a) (hy : ev e y = .int k' b) (ha : inK k a) :
    ∃ V, (execOp (ev e) ⟨d, .binOp op T x y t2, ty, pos, af, gd⟩).run P w = .ok (.value V) w ∧ VR D.kd φ h v V := by
  unfold shS at he
  split at he
  · cases wr <;> simp only [cond_true, cond_false, Option.some.injEq, Prod.mk.injEq] at he <;> obtain ⟨rfl, rfl⟩ := he
    · obtain ⟨h0, hp⟩ := holds_cons hp; obtain ⟨h2, _⟩ := holds_cons hp
      refine ⟨.int k (a * 2 ^ b.toNat), ?_, by rw [VR]; exact ⟨rfl, h2⟩⟩
      have := x_shlw (P := P) (w := w) (d := d) (ty := ty) (pos := pos) (af := af) (g := gd) (t := T) (t2 := t2) hx hy h0
      rwa [wrap_in h2] at this
    · obtain ⟨h0, hp⟩ := holds_cons hp
      exact ⟨_, x_shlw hx hy h0, by rw [VR]; exact ⟨rfl, wrap_k _ _⟩⟩
  · injection he with he; injection he with h1 h2; subst h1; subst h2
    obtain ⟨h0, hp⟩ := holds_cons hp; obtain ⟨h1, hp⟩ := holds_cons hp; obtain ⟨h2, _⟩ := holds_cons hp
    exact ⟨_, x_shr hx hy h1 (by omega), by rw [VR]; exact ⟨rfl, inK_quo ha h0 (Int.pow_pos (by omega))⟩⟩
  · cases he
theorem nilP_ok {v : SVs σ} {b : Bool} {V : Value} (he : isNilP v = some b) (hv : VR D.kd φ h v V) : ∃ p, V = .pointer p ∧ p.isNone = b := by
  unfold isNilP at he
  split at he
  · injection he with he; rw [VR] at hv; subst hv; exact ⟨none, rfl, he⟩
  · injection he with he; rw [VR] at hv; obtain ⟨_, _, rfl⟩ := hv; exact ⟨_, rfl, he⟩
  · injection he with he; rw [VR] at hv; obtain ⟨_, _, _, _, rfl⟩ := hv; exact ⟨_, rfl, he⟩
  · injection he with he; rw [VR] at hv; obtain ⟨_, _, _, _, _, _, rfl⟩ := hv; exact ⟨_, rfl, he⟩
  · injection he with he; rw [VR] at hv; obtain ⟨_, _, _, _, rfl⟩ := hv; exact ⟨_, rfl, he⟩
  · cases he
theorem bin_ok {wr : Bool} {op : BinOp} {a b v : SVs σ} {p : List Prop} {T : TypeId} (he : binS X wr op T a b = some (p, v)) (hp : Holds p) (ha : VR D.kd φ h a (ev e x)) (hb : VR D.kd φ h b (ev e y)) :
    ∃ V, (execOp (ev e) ⟨d, .binOp op T x y t2, ty, pos, af, gd⟩).run P w = .ok (.value V) w ∧ VR D.kd φ h v V := by
  unfold binS at he
  split at he
  · rename_i k m k' n
    obtain ⟨hx, ha⟩ := VR_int ha
    obtain ⟨hy, hb⟩ := VR_int hb
    split at he
    · exact sh_ok he hp hx hy ha
    · exact sh_ok he hp hx hy ha
    · split at he
      · rename_i hk; subst hk; exact ar_ok he hp hx hy ha hb
      · cases he
  · rename_i m n
    rw [VR] at ha hb
    split at he
    · rename_i hT
      split at he
      · injection he with he; injection he with h1 h2; subst h2; exact ⟨_, x_eql_bool hT ha hb, by rw [VR]⟩
      · injection he with he; injection he with h1 h2; subst h2
        have : decide (m ≠ n) = !decide (m = n) := by cases m <;> cases n <;> rfl
        exact ⟨_, x_neq_bool hT ha hb, by rw [VR, this]⟩
      · cases he
    · cases he
  · rename_i s t
    rw [VR] at ha hb
    have hneq : ∀ a b : ByteArray, decide (a ≠ b) = !decide (a = b) := fun a b => by by_cases h : a = b <;> simp [h]
    split at he
    · injection he with he; injection he with h1 h2; subst h1; subst h2
      have hs := (holds_cons hp).1
      refine ⟨_, x_add_str ha.1 hb.1 (by simp only [maxLen] at hs; omega), ?_⟩
      rw [VR]; exact ⟨rfl, by simpa using hs⟩
    · injection he with he; injection he with h1 h2; subst h2; exact ⟨_, x_eql_string ha.1 hb.1, by rw [VR]⟩
    · injection he with he; injection he with h1 h2; subst h2
      exact ⟨_, x_neq_string ha.1 hb.1, by rw [VR, hneq]⟩
    · injection he with he; injection he with h1 h2; subst h2; exact ⟨_, x_lss_string ha.1 hb.1, by rw [VR]⟩
    · cases he
  · rename_i i m j n
    split at he
    · rename_i hj
      subst hj
      split at he
      · rename_i hq
        rw [VR] at ha hb
        obtain ⟨sx, hx, rx⟩ := ha
        obtain ⟨sy, hy, ry⟩ := hb
        have hh := X.eqf_ok T _ hq h m n sx sy rx ry e w d ty pos af gd x y t2 hx hy
        split at he
        · injection he with he; injection he with h1 h2; subst h2; exact ⟨_, hh.1, by rw [VR]⟩
        · injection he with he; injection he with h1 h2; subst h2; exact ⟨_, hh.2, by rw [VR]⟩
        · cases he
      · cases he
    · cases he
  · split at he
    · rename_i b2 ee h1 h2
      obtain ⟨q, hx, hq⟩ := nilP_ok h1 ha
      rw [VR] at hb
      split at he
      · injection he with he; injection he with h3 h4; subst h4
        exact ⟨_, x_eql_ptr h2 hx hb, by rw [VR, hq]⟩
      · injection he with he; injection he with h3 h4; subst h4
        exact ⟨_, x_neq_ptr h2 hx hb, by rw [VR, hq]⟩
      · cases he
    · cases he
  · cases he
end
end Gx
namespace Gx
open Go Go.RowKit
set_option linter.unusedSimpArgs false
set_option linter.unusedVariables false
variable {σ : Nat → Type} [∀ i, Inhabited (Ty σ i)] {P : Program} {D : Df (Ty σ)} {base : Bgn} {w0 : World}
def rsS (H : HFs σ) : SVs σ → Option ((Σ i, List (Ty σ i)) × List Nat)
  | .rs i xs => some (⟨i, xs⟩, [])
  | .nm n => match H n with
    | some (.fz i xs) => some (⟨i, xs⟩, [n])
    | _ => none
  | _ => none
theorem rsS_ok {H g : HFs σ} {v : SVs σ} {i : Nat} {xs : List (Ty σ i)} {F : List Nat} {φ : Ph} {h : Ghost} {w : World} {V : Value} (e : rsS H v = some (⟨i, xs⟩, F)) (hF : ∀ b ∈ F, g b = H b) (hv : VR D.kd φ h v V) (R : VRel D.kd base w0 φ h g w) : (D.kd i).slice.rep h xs [V] := by
  unfold rsS at e
  split at e
  · rename_i j ys
    injection e with e; injection e with e1 e2
    injection e1 with e1 e3; subst e1
    have e3 := eq_of_heq e3; subst e3
    rw [VR] at hv; exact hv
  · rename_i n
    split at e
    · rename_i j ys hn
      injection e with e; injection e with e1 e2
      injection e1 with e1 e3; subst e1
      have e3 := eq_of_heq e3; subst e3; subst e2
      have hg := (hF n (by simp)).trans hn
      obtain ⟨v, h1, h2⟩ := R.fz hg
      rw [VR] at hv
      rw [h1] at hv; have hv := hv.1; injection hv with hv; subst hv
      exact h2
    · cases e
  · cases e
theorem run_cut {T E : Nat} {n b' : Nat} {gg : Bool} {z : Option Value} {A : Option Addr} {len cap l h : Nat} {lo hi : Option Value} {w : World} (hT : P.underlying T = some (.slice E)) (ht : tyInfo P E = some (n, b', gg, z))
    (hl : (lo = none ∧ l = 0) ∨ ∃ k, lo = some (.int k (l : Int))) (hh : (hi = none ∧ h = len) ∨ ∃ k, hi = some (.int k (h : Int))) (h1 : l ≤ h) (h2 : h ≤ cap) :
    (Instr.sliceAt T (.slice A len cap) lo hi none).run P w = .ok (.slice (if cap = l then A else A.map (·.add (l * n))) (h - l) (cap - l)) w := by
  obtain ⟨ii, d2, hii, hd2, hsz, _, _, _⟩ := tyInfo_parts ht
  have i1 : (0 : Int) ≤ (l : Int) := by omega
  have i2 : (0 : Int) ≤ (h : Int) := by omega
  have i3 : (l : Int) ≤ (h : Int) := by omega
  have i4 : (h : Int) ≤ (cap : Int) := by omega
  have n1 : ¬ h < l := by omega
  have n2 : ¬ cap < h := by omega
  rcases hl with ⟨rfl, rfl⟩ | ⟨k, rfl⟩ <;> rcases hh with ⟨rfl, rfl⟩ | ⟨k', rfl⟩ <;>
    simp [Instr.sliceAt, run_underlying hT, Instr.slice, Instr.sliceBounds, Instr.sliceBound, asIntOf, i1, i2, i3, i4, n1, n2, h1, h2, rn_sizeOf hii, hsz, go_sem]
theorem leads_cut {α : Type} {k : Kd α} {h : Ghost} {A : Option Addr} {xs : List α} {l m cap : Nat} (hl : Leads k h A xs) (hlm : l ≤ m) (hm : m ≤ xs.length) (hc : xs.length ≤ cap) : Leads k h (if cap = l then A else A.map (·.add (l * k.sz))) ((xs.take m).drop l) := fun hne => by
  have hlt : l < m := by
    rcases Nat.lt_or_ge l m with h | h
    · exact h
    · exfalso; apply hne; apply List.drop_eq_nil_of_le; rw [List.length_take]; omega
  obtain ⟨ad, rfl, hx⟩ := hl (fun e => by subst e; simp at hm; omega)
  refine ⟨ad.add (l * k.sz), by rw [if_neg (by omega)]; rfl, fun i x hi => ?_⟩
  have hi' : xs[l + i]? = some x := by
    rw [List.getElem?_drop, List.getElem?_take] at hi
    split at hi
    · exact hi
    · cases hi
  obtain ⟨seg, h1, h2⟩ := hx _ _ hi'
  refine ⟨seg, h1, fun j v hj => ?_⟩
  have := h2 j v hj
  rwa [add_add, show l * k.sz + (i * k.sz + j) = (l + i) * k.sz + j by rw [Nat.add_mul]; omega]
def bdS (ρ : Slots σ) : Option Operand → Option (Option Int)
  | none => some none
  | some x => match evS ρ x with
    | some (.int _ q) => some (some q)
    | _ => none
theorem bdS_ok {kd : ∀ i, Kd (Ty σ i)} {φ : Ph} {h : Ghost} {ρ : Slots σ} {e : Env} {S : Nat → Prop} (hρ : ERel kd φ h ρ e S) {x : Option Operand} {r : Option Int} (hS : ∀ y, x = some y → opS S y) (he : bdS ρ x = some r) : (r = none ∧ x = none) ∨ ∃ k q, r = some q ∧ x.map (ev e) = some (.int k q) := by
  unfold bdS at he
  split at he
  · injection he with he; exact .inl ⟨he.symm, rfl⟩
  · rename_i y
    split at he
    · rename_i k q hq
      injection he with he
      have := evS_ok hρ (hS y rfl) hq
      rw [VR] at this
      exact .inr ⟨k, q, he.symm, by simp [this.1]⟩
    · cases he
def cutP (lo hi : Option Int) (n : Nat) : List Prop := match lo, hi with
  | none, none => []
  | some l, none => [0 ≤ l, l ≤ (n : Int)]
  | none, some m => [0 ≤ m, m ≤ (n : Int)]
  | some l, some m => [0 ≤ l, l ≤ m, m ≤ (n : Int)]
def cutL_ {α : Type} (lo hi : Option Int) (xs : List α) : List α := match lo, hi with
  | none, none => xs
  | some l, none => xs.drop l.toNat
  | none, some m => xs.take m.toNat
  | some l, some m => (xs.take m.toNat).drop l.toNat
def cutB (lo hi : Option Int) (s : ByteArray) : ByteArray := match lo, hi with
  | none, none => s
  | some l, none => subB s l s.size
  | none, some m => subB s 0 m
  | some l, some m => subB s l m
def sliceS (P : Program) (D : Df (Ty σ)) (ρ : Slots σ) (H : HFs σ) (c : Nat) (T : Nat) (x : Operand) (lo hi mx : Option Operand) : Option (OR σ) := match mx with
  | some _ => none
  | none => match evS ρ x, bdS ρ lo, bdS ρ hi with
    | some (.str s), some l, some m => match P.underlying T, l, m with
      | some .string, none, none => none
      | some .string, l, m => some (rvp c (cutP l m s.size) (.str (cutB l m s)))
      | _, _, _ => none
    | some v, some l, some m => match rsS H v, P.underlying T with
      | some (⟨i, xs⟩, F), some (.slice E) => match tyInfo P E with
        | some (n, _, _, _) => if Nat.beq n (D.kd i).sz then some ⟨cutP l m xs.length, [], .rs i (cutL_ l m xs), [], c, F⟩ else none
        | none => none
      | _, _ => none
    | _, _, _ => none
theorem sliceS_ok {ρ : Slots σ} {H : HFs σ} {c T : Nat} {x : Operand} {lo hi mx : Option Operand} {r : OR σ} {d : Option Tmp} {ty : TypeId} {pos : String} {af : Array Edge} {gd : Option (Nat × Bool)} (he : sliceS P D ρ H c T x lo hi mx = some r) :
    OpOK P D base w0 ⟨d, .slice T x lo hi mx, ty, pos, af, gd⟩ ρ H c r := by
  unfold sliceS at he
  split at he
  · cases he
  · split at he
    · rename_i s l m hx hl hm
      split at he
      · cases he
      · rename_i l m hT hne
        injection he with he; subst he
        refine ok_val fun hp φ h g w e S hS hρ R hF => ?_
        have hxv := evS_ok hρ (hS x (by simp [Op.operands])) hx
        rw [VR] at hxv
        have k1 := bdS_ok hρ (x := lo) (fun y hy => hS y (by subst hy; simp [Op.operands])) hl
        have k2 := bdS_ok hρ (x := hi) (fun y hy => hS y (by subst hy; simp [Op.operands])) hm
        have h9 := hxv.2
        rcases k1 with ⟨rfl, rfl⟩ | ⟨k, q, rfl, hq⟩ <;> rcases k2 with ⟨rfl, rfl⟩ | ⟨k', q', rfl, hq'⟩
        · exact (hne rfl rfl).elim
        · have h0 := (holds_cons hp).1; have h1 := (holds_cons (holds_cons hp).2).1
          refine ⟨.string (subB s 0 q'), x_slice hxv.1 rfl hq' (r_sub_to hT h0 h1), ?_⟩
          have := sub_size s (i := 0) (by omega) h0 h1
          show VR D.kd φ h (.str (subB s 0 q')) _
          rw [VR]; exact ⟨rfl, by omega⟩
        · have h0 := (holds_cons hp).1; have h1 := (holds_cons (holds_cons hp).2).1
          refine ⟨.string (subB s q s.size), x_slice hxv.1 hq rfl (r_sub_from hT h0 h1), ?_⟩
          have := sub_size s h0 h1 (Int.le_refl _)
          show VR D.kd φ h (.str (subB s q s.size)) _
          rw [VR]; exact ⟨rfl, by omega⟩
        · obtain ⟨h0, hp⟩ := holds_cons hp; obtain ⟨h1, hp⟩ := holds_cons hp; have h2 := (holds_cons hp).1
          refine ⟨.string (subB s q q'), x_slice hxv.1 hq hq' (r_sub_both hT h0 h1 h2), ?_⟩
          have := sub_size s h0 h1 h2
          show VR D.kd φ h (.str (subB s q q')) _
          rw [VR]; exact ⟨rfl, by omega⟩
      · cases he
    · rename_i v l m hne hx hl hm
      split at he
      · rename_i i xs F E hrs hT
        split at he
        · rename_i n b' gg z ht
          split at he
          · rename_i hn
            have hn := Nat.eq_of_beq_eq_true hn; subst hn
            injection he with he; subst he
            refine ok_val fun hp φ h g w e S hS hρ R hF => ?_
            have hxv := evS_ok hρ (hS x (by simp [Op.operands])) hx
            obtain ⟨A, cp, hA, hc1, hc2, hld⟩ := rsS_ok hrs hF hxv R
            injection hA with hA
            have k1 := bdS_ok hρ (x := lo) (fun y hy => hS y (by subst hy; simp [Op.operands])) hl
            have k2 := bdS_ok hρ (x := hi) (fun y hy => hS y (by subst hy; simp [Op.operands])) hm
            have fin : ∀ a b : Nat, ((lo.map (ev e) = none ∧ a = 0) ∨ ∃ k, lo.map (ev e) = some (.int k (a : Int))) → ((hi.map (ev e) = none ∧ b = xs.length) ∨ ∃ k, hi.map (ev e) = some (.int k (b : Int))) → a ≤ b → b ≤ xs.length → cutL_ l m xs = (xs.take b).drop a →
                ∃ V, (execOp (ev e) ⟨d, .slice T x lo hi none, ty, pos, af, gd⟩).run P w = .ok (.value V) w ∧ VR D.kd φ h (.rs i (cutL_ l m xs)) V := fun a b h1 h2 h3 h4 h5 => by
              refine ⟨_, x_slice hA rfl rfl (run_cut hT ht h1 h2 h3 (by omega)), ?_⟩
              rw [VR, h5]
              have hlen : ((xs.take b).drop a).length = b - a := by rw [List.length_drop, List.length_take]; omega
              exact ⟨_, _, by rw [hlen], by rw [hlen]; omega, by omega, leads_cut hld h3 h4 hc1⟩
            rcases k1 with ⟨rfl, rfl⟩ | ⟨k, q, rfl, hq⟩ <;> rcases k2 with ⟨rfl, rfl⟩ | ⟨k', q', rfl, hq'⟩
            · exact fin 0 xs.length (.inl ⟨rfl, rfl⟩) (.inl ⟨rfl, rfl⟩) (by omega) (Nat.le_refl _) (by simp [cutL_])
            · have h0 := (holds_cons hp).1; have h1 := (holds_cons (holds_cons hp).2).1
              exact fin 0 q'.toNat (.inl ⟨rfl, rfl⟩) (.inr ⟨k', by rw [hq', Int.toNat_of_nonneg h0]⟩) (by omega) (by omega) (by simp [cutL_])
            · have h0 := (holds_cons hp).1; have h1 := (holds_cons (holds_cons hp).2).1
              exact fin q.toNat xs.length (.inr ⟨k, by rw [hq, Int.toNat_of_nonneg h0]⟩) (.inl ⟨rfl, rfl⟩) (by omega) (Nat.le_refl _) (by simp [cutL_])
            · obtain ⟨h0, hp⟩ := holds_cons hp; obtain ⟨h1, hp⟩ := holds_cons hp; have h2 := (holds_cons hp).1
              exact fin q.toNat q'.toNat (.inr ⟨k, by rw [hq, Int.toNat_of_nonneg h0]⟩) (.inr ⟨k', by rw [hq', Int.toNat_of_nonneg (by omega)]⟩) (by omega) (by omega) rfl
          · cases he
        · cases he
      · cases he
    · cases he
def nilCkS (c : Nat) (v : SVs σ) : Option (OR σ) := match isNilP v with
  | some false => some (rv c v)
  | _ => none
def fadS (P : Program) (c T q : Nat) (v : SVs σ) : Option (OR σ) := match fieldInfo P T q with
  | some (o, ft) => match tyInfo P ft with
    | some (m, _, _, _) => if Nat.blt 0 m then match v with
      | .ptr n k => some (rv c (.ptr n (k + o)))
      | .el n i sz k => some (rv c (.el n i sz (k + o)))
      | .ea i x k => some (rv c (.ea i x (k + o)))
      | _ => none
      else none
    | none => none
  | none => none
def iadS (P : Program) (D : Df (Ty σ)) (H : HFs σ) (c T : Nat) (v : SVs σ) (q : Int) : Option (OR σ) := match P.underlying T with
  | some (.array len E) => match tyInfo P E with
    | some (m, _, _, _) => match v with
      | .ptr n k => if Nat.beq m 1 then some (rvp c [0 ≤ q, q < (len : Int)] (.pa n k len q)) else none
      | _ => none
    | none => none
  | some (.slice E) => match tyInfo P E with
    | some (m, _, _, _) => match v with
      | .nm n => match H n with
        | some (.row _ i xs) => if Nat.beq m (D.kd i).sz then some ⟨[0 ≤ q, q < (xs.length : Int)], [], .el n q m 0, [], c, [n]⟩ else none
        | some (.fz i xs) => if Nat.beq m (D.kd i).sz then some ⟨[0 ≤ q, q < (xs.length : Int)], [], .ea i (at_ xs q) 0, [], c, [n]⟩ else none
        | _ => none
      | .rs i xs => if Nat.beq m (D.kd i).sz then some (rvp c [0 ≤ q, q < (xs.length : Int)] (.ea i (at_ xs q) 0)) else none
      | _ => none
    | none => none
  | _ => none
theorem add_zero_ (a : Addr) : a.add 0 = a := by unfold Addr.add; simp
theorem addr_add (b o n : Nat) : (⟨b, o, none⟩ : Addr).add n = ⟨b, o + n, none⟩ := by unfold Addr.add; split <;> simp_all
section
variable {ρ : Slots σ} {H : HFs σ} {c T q : Nat} {x y : Operand} {r : OR σ} {d : Option Tmp} {ty : TypeId} {pos : String} {af : Array Edge} {gd : Option (Nat × Bool)} {v u : SVs σ}
theorem nilCkS_ok (hx : evS ρ x = some v) (he : nilCkS c v = some r) : OpOK P D base w0 ⟨d, .nilCheck x, ty, pos, af, gd⟩ ρ H c r := by
  unfold nilCkS at he
  split at he
  · rename_i hb
    injection he with he; subst he
    refine ok_val fun hp φ h g w e S hS hρ R hF => ?_
    have hxv := evS_ok hρ (hS x (by simp [Op.operands])) hx
    obtain ⟨p, hp1, hp2⟩ := nilP_ok hb hxv
    cases p with
    | none => cases hp2
    | some ad => exact ⟨_, x_nilCheck hp1, by rw [← hp1]; exact hxv⟩
  · cases he
theorem fadS_ok (hx : evS ρ x = some v) (he : fadS P c T q v = some r) : OpOK P D base w0 ⟨d, .fieldAddr T x q, ty, pos, af, gd⟩ ρ H c r := by
  unfold fadS at he
  split at he
  · rename_i o ft hf
    split at he
    · rename_i m b' gg z ht
      split at he
      · rename_i hm
        split at he
        · rename_i n k
          injection he with he; subst he
          refine ok_val fun hp φ h g w e S hS hρ R hF => ?_
          have hxv := evS_ok hρ (hS x (by simp [Op.operands])) hx
          rw [VR] at hxv
          obtain ⟨b, h1, h2⟩ := hxv
          exact ⟨_, x_fieldAd hf ht hm h2, by rw [VR]; exact ⟨b, h1, by rw [addr_add]⟩⟩
        · rename_i n i sz k
          injection he with he; subst he
          refine ok_val fun hp φ h g w e S hS hρ R hF => ?_
          have hxv := evS_ok hρ (hS x (by simp [Op.operands])) hx
          rw [VR] at hxv
          obtain ⟨A, len, cp, h1, h2, h3, h4⟩ := hxv
          exact ⟨_, x_fieldAd hf ht hm h4, by rw [VR]; exact ⟨A, len, cp, h1, h2, h3, by rw [add_add, Nat.add_assoc]⟩⟩
        · rename_i i x' k
          injection he with he; subst he
          refine ok_val fun hp φ h g w e S hS hρ R hF => ?_
          have hxv := evS_ok hρ (hS x (by simp [Op.operands])) hx
          rw [VR] at hxv
          obtain ⟨seg, ad, h1, h2, h3⟩ := hxv
          exact ⟨_, x_fieldAd hf ht hm h3, by rw [VR]; exact ⟨seg, ad, h1, h2, by rw [add_add]⟩⟩
        · cases he
      · cases he
    · cases he
  · cases he
theorem iadS_ok {k : IntKind} {q : Int} (hx : evS ρ x = some v) (hy : evS ρ y = some (.int k q)) (he : iadS P D H c T v q = some r) : OpOK P D base w0 ⟨d, .indexAddr T x y, ty, pos, af, gd⟩ ρ H c r := by
  unfold iadS at he
  split at he
  · rename_i len E hT
    split at he
    · rename_i m b' gg z ht
      split at he
      · rename_i n o
        split at he
        · rename_i hm
          have hm := Nat.eq_of_beq_eq_true hm; subst hm
          injection he with he; subst he
          refine ok_val fun hp φ h g w e S hS hρ R hF => ?_
          have hxv := evS_ok hρ (hS x (by simp [Op.operands])) hx
          have hyv := (VR_int (evS_ok hρ (hS y (by simp [Op.operands])) hy)).1
          rw [VR] at hxv
          obtain ⟨b, h1, h2⟩ := hxv
          have h0 := (holds_cons hp).1; have h3 := (holds_cons (holds_cons hp).2).1
          exact ⟨_, x_indexAddr_arr hT ht h2 hyv h0 h3, by rw [VR]; exact ⟨b, h1, h0, h3, by rw [Nat.mul_one]⟩⟩
        · cases he
      · cases he
    · cases he
  · rename_i E hT
    split at he
    · rename_i m b' gg z ht
      split at he
      · rename_i n
        split at he
        · rename_i T' i xs hn
          split at he
          · rename_i hm
            have hm := Nat.eq_of_beq_eq_true hm; subst hm
            injection he with he; subst he
            refine ok_val fun hp φ h g w e S hS hρ R hF => ?_
            have hxv := evS_ok hρ (hS x (by simp [Op.operands])) hx
            have hyv := (VR_int (evS_ok hρ (hS y (by simp [Op.operands])) hy)).1
            have h0 := (holds_cons hp).1; have h3 := (holds_cons (holds_cons hp).2).1
            obtain ⟨v, N, h1, _, _, L, _, S1, hL⟩ := R.row ((hF n (by simp)).trans hn)
            rw [VR] at hxv
            have e1 := hxv.1; rw [h1] at e1; injection e1 with e1
            obtain ⟨ad, ⟨b, cp, hv, had⟩, _⟩ := e_index_own S1 hL rfl h0 h3
            refine ⟨_, x_index_own hT ht e1.symm hyv ⟨b, cp, hv, had⟩ h0 h3, ?_⟩
            rw [VR]
            exact ⟨⟨b, 0, none⟩, xs.length, cp, by rw [h1, hv], h0, h3, by rw [had, addr_add, Nat.zero_add, Nat.add_zero]⟩
          · cases he
        · rename_i i xs hn
          split at he
          · rename_i hm
            have hm := Nat.eq_of_beq_eq_true hm; subst hm
            injection he with he; subst he
            refine ok_val fun hp φ h g w e S hS hρ R hF => ?_
            have hxv := evS_ok hρ (hS x (by simp [Op.operands])) hx
            have hyv := (VR_int (evS_ok hρ (hS y (by simp [Op.operands])) hy)).1
            have h0 := (holds_cons hp).1; have h3 := (holds_cons (holds_cons hp).2).1
            obtain ⟨v, h1, A, cp, h4, h5, h6, h7⟩ := R.fz ((hF n (by simp)).trans hn)
            rw [VR] at hxv
            have e1 := hxv.1; rw [h1] at e1; injection e1 with e1
            injection h4 with h4
            obtain ⟨ad, seg, hA, h8, h9⟩ := e_index_ro h7 rfl h0 h3
            refine ⟨_, x_index_ro hT ht (e1.symm.trans h4) hyv hA h0 h3, ?_⟩
            rw [VR]; exact ⟨seg, ad, h8, h9, by rw [add_zero_]⟩
          · cases he
        · cases he
      · rename_i i xs
        split at he
        · rename_i hm
          have hm := Nat.eq_of_beq_eq_true hm; subst hm
          injection he with he; subst he
          refine ok_val fun hp φ h g w e S hS hρ R hF => ?_
          have hxv := evS_ok hρ (hS x (by simp [Op.operands])) hx
          have hyv := (VR_int (evS_ok hρ (hS y (by simp [Op.operands])) hy)).1
          have h0 := (holds_cons hp).1; have h3 := (holds_cons (holds_cons hp).2).1
          rw [VR] at hxv
          obtain ⟨A, cp, h4, h5, h6, h7⟩ := hxv
          injection h4 with h4
          obtain ⟨ad, seg, hA, h8, h9⟩ := e_index_ro h7 rfl h0 h3
          refine ⟨_, x_index_ro hT ht h4 hyv hA h0 h3, ?_⟩
          rw [VR]; exact ⟨seg, ad, h8, h9, by rw [add_zero_]⟩
        · cases he
      · cases he
    · cases he
  · cases he
def iadA (P : Program) (D : Df (Ty σ)) (c T : Nat) (v : SVs σ) (q : Int) : Option (OR σ) := match P.underlying T with
  | some (.array len E) => match tyInfo P E with
    | some (m, _, _, _) => match v with
      | .ea i x k => if Nat.beq m 1 then match splitC D 1000 [SV.fl i x] k with
        | some (_, .fl id y :: _) => match D.arr id with
          | some (len', get, _) => if Nat.beq len len' then match get y q with
            | .int .u64 t => some (rvp c [0 ≤ q, q < (len : Int)] (.ea 2 t 0))
            | .int .u8 t => some (rvp c [0 ≤ q, q < (len : Int)] (.ea 1 t 0))
            | .bool t => some (rvp c [0 ≤ q, q < (len : Int)] (.ea 3 t 0))
            | _ => none
            else none
          | none => none
        | _ => none
        else none
      | _ => none
    | none => none
  | _ => none
theorem gc_spot {h : Ghost} {a : Addr} {u : Value} (e : gcell h a = some u) : a.spot = none := by
  unfold gcell at e
  split at e
  · split at e
    · cases e
    · rename_i hs; simpa using hs
  · cases e
theorem iadA_ok (k1 : D.kd 1 = Kd.int .u8) (k2 : D.kd 2 = Kd.int .u64) (k3 : D.kd 3 = Kd.bool) {k : IntKind} {q : Int} (hx : evS ρ x = some v) (hy : evS ρ y = some (.int k q)) (he : iadA P D c T v q = some r) : OpOK P D base w0 ⟨d, .indexAddr T x y, ty, pos, af, gd⟩ ρ H c r := by
  unfold iadA at he
  split at he
  · rename_i len E hT
    split at he
    · rename_i m b' gg z ht
      split at he
      · rename_i i xv o
        split at he
        · rename_i hm
          have hm := Nat.eq_of_beq_eq_true hm; subst hm
          split at he
          · rename_i pa id yv pb hsp
            split at he
            · rename_i len' get put harr
              split at he
              · rename_i hl
                have hl := Nat.eq_of_beq_eq_true hl; subst hl
                have key : ∀ (j : Nat) (t : Ty σ j), (∀ φ h V', VR D.kd φ h (get yv q) V' → (D.kd j).rep h t [V']) → r = rvp c [0 ≤ q, q < (len : Int)] (.ea j t 0) → OpOK P D base w0 ⟨d, .indexAddr T x y, ty, pos, af, gd⟩ ρ H c r := by
                  intro j t hj hr
                  subst hr
                  refine ok_val fun hp φ h g w e S hS hρ R hF => ?_
                  have hxv := evS_ok hρ (hS x (by simp [Op.operands])) hx
                  have hyv := (VR_int (evS_ok hρ (hS y (by simp [Op.operands])) hy)).1
                  have h0 := (holds_cons hp).1; have h3 := (holds_cons (holds_cons hp).2).1
                  rw [VR] at hxv
                  obtain ⟨seg, ad, q1, q2, q3⟩ := hxv
                  obtain ⟨xs, ys, e1, e2, _, e4⟩ := splitC_ok hsp (CR_single.2 q1 : CR D.kd φ h [SV.fl i xv] seg)
                  obtain ⟨c1, c2, e5, e6, _⟩ := CR_cons.1 e4
                  have e6 : (D.kd id).rep h yv c1 := e6
                  obtain ⟨V', f1, _, f3⟩ := D.arr_get id len get put harr h yv c1 q e6 h0 h3
                  have hlt := (List.getElem?_eq_some_iff.1 f1).1
                  have f4 : seg[o + q.toNat]? = some V' := by
                    rw [e1, List.getElem?_append_right (by omega), e2, e5, List.getElem?_append_left (by omega), show o + q.toNat - o = q.toNat by omega]; exact f1
                  have f5 := q2 _ _ f4
                  have hs : ad.spot = none := by
                    have hl0 : 0 < seg.length := by have := (List.getElem?_eq_some_iff.1 f4).1; omega
                    have := gc_spot (q2 0 _ (List.getElem?_eq_getElem hl0)); rwa [add_zero_] at this
                  obtain ⟨b, off, sp⟩ := ad
                  have hs : sp = none := hs
                  subst hs
                  rw [addr_add] at q3 f5
                  refine ⟨_, x_indexAddr_arr hT ht q3 hyv h0 h3, ?_⟩
                  rw [VR]
                  refine ⟨[V'], ⟨b, off + o + q.toNat * 1, none⟩, hj φ h V' (f3 φ), fun jj u hu => ?_, by rw [add_zero_]⟩
                  cases jj with
                  | zero =>
                    simp only [List.getElem?_cons_zero, Option.some.injEq] at hu; subst hu
                    rw [add_zero_, Nat.mul_one]
                    have : off + o + q.toNat = off + (o + q.toNat) := by omega
                    rw [this]; exact f5
                  | succ jj => simp at hu
                split at he
                · rename_i t hg
                  injection he with he
                  exact key 2 t (fun φ h V' hv => by
                    rw [hg, VR] at hv; rw [k2]; exact ⟨by rw [hv.1], hv.2⟩) he.symm
                · rename_i t hg
                  injection he with he
                  exact key 1 t (fun φ h V' hv => by
                    rw [hg, VR] at hv; rw [k1]; exact ⟨by rw [hv.1], hv.2⟩) he.symm
                · rename_i t hg
                  injection he with he
                  exact key 3 t (fun φ h V' hv => by
                    rw [hg, VR] at hv; rw [k3]; exact ⟨by rw [hv], trivial⟩) he.symm
                · cases he
              · cases he
            · cases he
          · cases he
        · cases he
      · cases he
    · cases he
  · cases he
end
end Gx
