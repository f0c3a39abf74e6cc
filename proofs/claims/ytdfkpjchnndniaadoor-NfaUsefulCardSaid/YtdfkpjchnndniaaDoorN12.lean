/- My own library for walks through the translated code, part N12: laws of the model alone, no word of the program. -/
import Derived.Test.YtdfkpjchnndniaaDoorN11
import Derived.Laws.Concat
namespace Gx
open Go Go.RowKit
set_option linter.unusedSimpArgs false
set_option linter.unusedSectionVars false
set_option linter.unusedVariables false
section
variable {P : Program} {w : World} {ρ : Env} {d : Option Nat} {x y : Operand} {ty : TypeId} {pos : String} {af : Array Edge} {g : Option (Nat × Bool)}
theorem x_add_str {a b : ByteArray} {t t2 : TypeId} (hx : ev ρ x = .string a) (hy : ev ρ y = .string b) (h : a.size + b.size ≤ 9223372036854775807) : (execOp (ev ρ) ⟨d, .binOp .add t x y t2, ty, pos, af, g⟩).run P w = .ok (.value (.string (a ++ b))) w := by
  simp [execOp, hx, hy, eqGuard, binOp, run_string_add_sum (P := P) w a b h, go_sem]
theorem add_str_small {a b : ByteArray} {n k : Nat} (h1 : a.size ≤ n) (h2 : b.size ≤ k) (h : n + k ≤ 9223372036854775807) : (a ++ b).size ≤ maxLen := by
  rw [size_add]; unfold maxLen; omega
end
structure WayI (m : Mach) (src : List Int) (to' : Int) (texts : List ByteArray) (seen : List Bool) (todo : List Int) (i : Int) : Prop where
  way : Way m src texts seen todo
  done : ∀ k : Int, 0 ≤ k → k < i → k < (todo.length : Int) → (∀ x ∈ at_ m.follow (at_ todo k), x ∈ todo) ∧ at_ todo k ≠ to'
structure WayK (m : Mach) (src : List Int) (to' a : Int) (texts : List ByteArray) (seen : List Bool) (todo : List Int) (i k : Int) : Prop where
  base : WayI m src to' texts seen todo i
  lo : 0 ≤ i
  hi : i < (todo.length : Int)
  cur : at_ todo i = a
  row : ∀ q : Int, 0 ≤ q → q < k → q < ((at_ m.follow a).length : Int) → at_ (at_ m.follow a) q ∈ todo
theorem app_at {α : Type} [Inhabited α] {l r : List α} {q : Int} (h0 : 0 ≤ q) (h : q < (l.length : Int)) : at_ (l ++ r) q = at_ l q := by
  unfold at_
  rw [List.getD_eq_getElem?_getD, List.getD_eq_getElem?_getD, List.getElem?_append_left (by omega)]
theorem wayI_0 {m : Mach} {src : List Int} {to' : Int} {texts : List ByteArray} {seen : List Bool} {i : Int} (hs : ∀ x ∈ src, 0 ≤ x ∧ x < (m.spots.length : Int)) (hn : src.Nodup) (W : Way0 m src texts seen i) (h1 : (src.length : Int) ≤ i) : WayI m src to' texts seen src 0 :=
  ⟨way_of0 hs hn W h1, fun k h0 h1 => by omega⟩
theorem wayK_0 {m : Mach} {src : List Int} {to' : Int} {texts : List ByteArray} {seen : List Bool} {todo : List Int} {i : Int} (W : WayI m src to' texts seen todo i) (h0 : 0 ≤ i) (h1 : i < (todo.length : Int)) : WayK m src to' (at_ todo i) texts seen todo i 0 :=
  ⟨W, h0, h1, rfl, fun q h0 h1 => by omega⟩
theorem WayK.inn {m : Mach} {src : List Int} {to' a : Int} {texts : List ByteArray} {seen : List Bool} {todo : List Int} {i k : Int} (W : WayK m src to' a texts seen todo i k) : 0 ≤ a ∧ a < (m.spots.length : Int) := by
  rw [← W.cur]; exact W.base.way.inn _ (at_mem W.lo W.hi)
theorem WayK.size {m : Mach} {src : List Int} {to' a : Int} {texts : List ByteArray} {seen : List Bool} {todo : List Int} {i k : Int} (W : WayK m src to' a texts seen todo i k) : ((at_ texts a).size : Int) ≤ m.spots.length := by
  rw [← W.cur]; exact way_size W.base.way W.lo W.hi
theorem wayK_old {m : Mach} (hR : Right m) {src : List Int} {to' a : Int} {texts : List ByteArray} {seen : List Bool} {todo : List Int} {i k : Int} (W : WayK m src to' a texts seen todo i k) (k0 : 0 ≤ k) (k1 : k < ((at_ m.follow a).length : Int)) (h : at_ seen (at_ (at_ m.follow a) k) = true) : WayK m src to' a texts seen todo i (k + 1) := by
  refine ⟨W.base, W.lo, W.hi, W.cur, fun q q0 q1 q2 => ?_⟩
  rcases Int.lt_or_eq_of_le (show q ≤ k by omega) with e | e
  · exact W.row q q0 e q2
  · have hat := W.inn
    have hin := hR.rows hat.1 hat.2 _ (at_mem k0 k1)
    rw [e]; exact (W.base.way.mem _ hin.1 hin.2).1 h
theorem wayK_new {m : Mach} (hR : Right m) (hF : Full m) {src : List Int} {to' a : Int} {texts : List ByteArray} {seen : List Bool} {todo : List Int} {i k : Int} (W : WayK m src to' a texts seen todo i k) (k0 : 0 ≤ k) (k1 : k < ((at_ m.follow a).length : Int)) (h : at_ seen (at_ (at_ m.follow a) k) = false) :
    WayK m src to' a (texts.set (at_ (at_ m.follow a) k).toNat (at_ texts a ++ strOfNums [first (at_ m.spots (at_ (at_ m.follow a) k)).set])) (seen.set (at_ (at_ m.follow a) k).toNat true) (todo ++ [at_ (at_ m.follow a) k]) i (k + 1) := by
  have h0 := W.lo
  have h1 := W.hi
  have hA := way_add hR hF W.base.way h0 h1 (k := k) k0 (by rw [W.cur]; exact k1) (by rw [W.cur]; exact h)
  rw [W.cur] at hA
  refine ⟨⟨hA, fun q q0 q1 q2 => ?_⟩, h0, by rw [List.length_append]; omega, by rw [app_at h0 h1]; exact W.cur, fun q q0 q1 q2 => ?_⟩
  · have hq : q < (todo.length : Int) := by omega
    have hd := W.base.done q q0 q1 hq
    rw [app_at q0 hq]
    exact ⟨fun x hx => List.mem_append_left _ (hd.1 x hx), hd.2⟩
  · rcases Int.lt_or_eq_of_le (show q ≤ k by omega) with e | e
    · exact List.mem_append_left _ (W.row q q0 e q2)
    · rw [e]; simp
theorem wayK_end {m : Mach} {src : List Int} {to' a : Int} {texts : List ByteArray} {seen : List Bool} {todo : List Int} {i k : Int} (W : WayK m src to' a texts seen todo i k) (hk : ((at_ m.follow a).length : Int) ≤ k) (hne : a ≠ to') : WayI m src to' texts seen todo (i + 1) := by
  refine ⟨W.base.way, fun q q0 q1 q2 => ?_⟩
  rcases Int.lt_or_eq_of_le (show q ≤ i by omega) with e | e
  · exact W.base.done q q0 e q2
  · rw [e, W.cur]
    refine ⟨fun x hx => ?_, hne⟩
    obtain ⟨j, hj, ej⟩ := List.getElem_of_mem hx
    have e2 : at_ (at_ m.follow a) ((j : Nat) : Int) = x := by
      have := at_some (xs := at_ m.follow a) (i := ((j : Nat) : Int)) (by omega) (by omega)
      rw [Int.toNat_natCast, List.getElem?_eq_getElem hj] at this
      injection this with this
      rw [← this, ej]
    rw [← e2]; exact W.row _ (by omega) (by omega) (by omega)
/-- What a search for a text hands back. -/
def Got (m : Mach) (src : List Int) (to' : Int) (ok : Bool) (s : ByteArray) : Prop := (s.size : Int) ≤ m.spots.length ∧ (ok = true → Path m src (bytesL s) to')
theorem way_found {m : Mach} {src : List Int} {to' : Int} {texts : List ByteArray} {seen : List Bool} {todo : List Int} {i : Int} (W : WayI m src to' texts seen todo i) (h0 : 0 ≤ i) (h1 : i < (todo.length : Int)) (he : at_ todo i = to') : true = at_ (reachM m src) to' ∧ at_ (reachM m src) to' = true ∧ Got m src to' (at_ (reachM m src) to') (at_ texts (at_ todo i)) := by
  have ht := W.way.text i h0 h1
  have hr := W.way.sound _ (at_mem h0 h1)
  have := way_size W.way h0 h1
  subst he
  exact ⟨hr.symm, hr, this, fun _ => ht.1⟩
theorem way_lost {m : Mach} {src : List Int} {to' : Int} {texts : List ByteArray} {seen : List Bool} {todo : List Int} {i : Int} (W : WayI m src to' texts seen todo i) (hR : Right m) (h0 : 0 ≤ to') (h1 : to' < (m.spots.length : Int)) (hi : (todo.length : Int) ≤ i) : at_ (reachM m src) to' = false ∧ Got m src to' (at_ (reachM m src) to') ⟨#[]⟩ := by
  have := way_none W.way hR h0 h1 W.done hi
  rw [this]
  exact ⟨rfl, by show ((0 : Nat) : Int) ≤ _; omega, fun h => by cases h⟩
theorem rises_nodup {b last : Int} {l : List Int} (h : rises b last l = true) : l.Nodup :=
  (rises_iff.1 h).1.imp fun hab e => by omega
theorem rises_in {b : Int} {l : List Int} (h : rises b (-1) l = true) : ∀ x ∈ l, 0 ≤ x ∧ x < b := fun x hx => by have := rises_lt h x hx; omega
theorem fullS_set {m : Mach} {i : Nat} (h : fullS m i = true) : (at_ m.spots ((i : Nat) : Int)).set ≠ 0 := by
  unfold fullS at h
  first | exact of_decide_eq_true h | simpa using h
theorem trim_Full {m : Mach} (hR : Right m) : Full (trimM m) := fun i h0 h1 => by
  have := fullS_set (trim_fullS hR (j := i.toNat) (by omega))
  rwa [Int.toNat_of_nonneg h0] at this
/-- What a search for the rest of a text hands back. -/
def goesTo (m : Mach) (i t : Int) : Bool := anyTo (fun j => at_ m.last ((j : Nat) : Int) && at_ (reachM m (at_ m.follow i)) ((j : Nat) : Int)) t
def goesB (m : Mach) (i : Int) : Bool := at_ m.last i || goesTo m i m.spots.length
def GotR (m : Mach) (i : Int) (ok : Bool) (s : ByteArray) : Prop := (s.size : Int) ≤ m.spots.length ∧ (ok = true → (at_ m.last i = true ∧ s = ⟨#[]⟩) ∨ ∃ j : Int, at_ m.last j = true ∧ Path m (at_ m.follow i) (bytesL s) j)
theorem goesTo_0 (m : Mach) (i : Int) : goesTo m i 0 = false := rfl
theorem goesTo_step (m : Mach) (i : Int) {t : Int} (h0 : 0 ≤ t) (h : goesTo m i t = false) (hb : (at_ m.last t && at_ (reachM m (at_ m.follow i)) t) = false) : goesTo m i (t + 1) = false := by
  unfold goesTo at h ⊢
  rw [anyTo_step _ h0, h, Int.toNat_of_nonneg h0, hb]; rfl
theorem goesB_last {m : Mach} {i : Int} (h : at_ m.last i = true) : goesB m i = true ∧ GotR m i (goesB m i) ⟨#[]⟩ := by
  have e : goesB m i = true := by unfold goesB; rw [h]; rfl
  exact ⟨e, by show ((0 : Nat) : Int) ≤ _; omega, fun _ => .inl ⟨h, rfl⟩⟩
theorem goesB_way {m : Mach} {i j : Int} {s : ByteArray} (j0 : 0 ≤ j) (j1 : j < (m.spots.length : Int)) (hl : at_ m.last j = true) (hr : at_ (reachM m (at_ m.follow i)) j = true) (hg : Got m (at_ m.follow i) j (at_ (reachM m (at_ m.follow i)) j) s) : goesB m i = true ∧ GotR m i (goesB m i) s := by
  have e : goesB m i = true := by
    unfold goesB
    rw [Bool.or_eq_true]; right
    exact (anyTo_iff _ _).2 ⟨j.toNat, by omega, by rw [Int.toNat_of_nonneg j0, hl, hr]; rfl⟩
  exact ⟨e, hg.1, fun _ => .inr ⟨j, hl, hg.2 hr⟩⟩
theorem goesB_no {m : Mach} {i t : Int} (h1 : at_ m.last i = false) (h : goesTo m i t = false) (ht : t = m.spots.length) : goesB m i = false ∧ GotR m i (goesB m i) ⟨#[]⟩ := by
  have e : goesB m i = false := by unfold goesB; rw [h1, ← ht, h]; rfl
  rw [e]
  exact ⟨rfl, by show ((0 : Nat) : Int) ≤ _; omega, fun h => by cases h⟩
/-! ### A trimmed machine: each spot has a text before it and one behind it -/
theorem trim_ahead {m : Mach} (hR : Right m) {i : Int} (h0 : 0 ≤ i) (h1 : i < ((trimM m).spots.length : Int)) : at_ (reachM (trimM m) (trimM m).first) i = true := by
  have := come_reach (m := trimM m) (i := i.toNat) (by omega) (trim_come hR (by omega))
  rwa [Int.toNat_of_nonneg h0] at this
theorem trim_behind {m : Mach} (hR : Right m) {i : Int} (h0 : 0 ≤ i) (h1 : i < ((trimM m).spots.length : Int)) : goesB (trimM m) i = true := by
  have := goes_reach (trim_Right hR) (i := i.toNat) (by omega) (trim_goes hR (by omega))
  rw [Int.toNat_of_nonneg h0] at this
  unfold goesB
  rw [Bool.or_eq_true]
  refine this.imp id fun ⟨j, j0, j1, hl, hr⟩ => (anyTo_iff _ _).2 ⟨j.toNat, by omega, by rw [Int.toNat_of_nonneg j0, hl, hr]; rfl⟩
theorem trim_text {m : Mach} (hR : Right m) {i : Int} (h0 : 0 ≤ i) (h1 : i < ((trimM m).spots.length : Int)) {a b : ByteArray} (ha : Got (trimM m) (trimM m).first i (at_ (reachM (trimM m) (trimM m).first) i) a) (hb : GotR (trimM m) i (goesB (trimM m) i) b) : runM (trimM m) (a ++ b) = true := by
  have hp := ha.2 (trim_ahead hR h0 h1)
  rcases hb.2 (trim_behind hR h0 h1) with ⟨hl, rfl⟩ | ⟨j, hl, hj⟩
  · refine path_takes (trim_Right hR) (i := i) ?_ hl
    rw [bytesL_app]
    have : bytesL (⟨#[]⟩ : ByteArray) = [] := rfl
    rw [this, List.append_nil]; exact hp
  · refine path_takes (trim_Right hR) (i := j) ?_ hl
    rw [bytesL_app]
    exact hp.join hj
theorem trim_text2 {m : Mach} (hR : Right m) {i : Int} (h0 : 0 ≤ i) (h1 : i < ((trimM m).spots.length : Int)) {a b : ByteArray} (ha : Got (trimM m) (trimM m).first i (at_ (reachM (trimM m) (trimM m).first) i) a) (hb : GotR (trimM m) i (goesB (trimM m) i) b) : runM m (a ++ b) = true := by
  rw [← trim_run hR]; exact trim_text hR h0 h1 ha hb
end Gx
