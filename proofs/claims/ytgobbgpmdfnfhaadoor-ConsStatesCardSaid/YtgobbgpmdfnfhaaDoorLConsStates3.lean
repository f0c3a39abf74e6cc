/- My own library for walks through the translated code, and the walks of the functions that the law ConsStates comes to, part 4; no conditions but those that each contract tells. -/
import Derived.WalkKit
import Derived.Below
import Derived.Maps.AppendAt
import Derived.Laws.MakeOwn
import Derived.OrdersHeld
import Derived.Laws.Strings
import Derived.Laws.StructEq
import Derived.Laws.Cover3
import Derived.Lib.TrailingZeros
import Derived.Laws.BytesArg
import Derived.Laws.Pointers
import Derived.Test.YtgobbgpmdfnfhaaDoorLConsStates2
set_option linter.unusedSectionVars false
set_option linter.unusedVariables false
set_option linter.unusedSimpArgs false
namespace Go.Proofs.YtgobbgpmdfnfhaaDoor
open Go Go.RowKit Gx
set_option linter.unusedVariables false
set_option linter.unusedSimpArgs false
set_option maxRecDepth 8000
noncomputable def con_below : Con σF where
  args := [.fl 8]
  items := []
  res := .row 3 0
  pre := fun ads ids => match ads, ids with
    | [.fl 8 n], [] => []
    | _, _ => []
  fact := fun ads ids => match ads, ids with
    | [.fl 8 n], [] => []
    | _, _ => []
  spec := fun ads ids => match ads, ids with
    | [.fl 8 n], [] => some (.rs 0 (belowN n), [])
    | _, _ => none
noncomputable def hn_below (ads ids : List SF) : Hn σF := ⟨fun t => memB t [], fun t => memB t [], fun i => none, fun i => none⟩
noncomputable def cs_below (ads ids : List SF) : List (Nat × Con σF) := []
noncomputable def vt_below : VT := vcF XC (fun ads ids g => lookC g (cs_below ads ids)) hn_below 200 Tryd.f48 con_below
theorem vc_below : ∀ (v0 : NodeM), True ∧ (wt8 v0 → bif decide (NodeM.kd v0 = (3 : Int)) then bif decide (NodeM.kd v0 = (3 : Int)) then [NodeM.na v0, NodeM.nb v0] = belowN v0 ∧ True else bif decide (NodeM.kd v0 = (5 : Int)) then [NodeM.na v0] = belowN v0 ∧ True else [] = belowN v0 ∧ True else bif decide (NodeM.kd v0 = (4 : Int)) then [NodeM.na v0, NodeM.nb v0] = belowN v0 ∧ True else bif decide (NodeM.kd v0 = (5 : Int)) then [NodeM.na v0] = belowN v0 ∧ True else [] = belowN v0 ∧ True) :=
 fun v0 => ⟨trivial,
 fun h0 => condD (fun h1 => condD (fun h2 => ⟨(by simp_all [belowN]),
 trivial⟩) (fun h2 => condD (fun h3 => ⟨(by simp_all [belowN]),
 trivial⟩) (fun h3 => ⟨(by simp_all [belowN]),
 trivial⟩))) (fun h1 => condD (fun h4 => ⟨(by simp_all [belowN]),
 trivial⟩) (fun h4 => condD (fun h5 => ⟨(by simp_all [belowN]),
 trivial⟩) (fun h5 => ⟨(by simp_all [belowN]),
 trivial⟩)))⟩
theorem ok_below : ConOK PX DF_ TabG 48 con_below := con_ok XC.mixed tab_mono (fn := Tryd.f48) (by kernel_rfl) (lookC_ok (l := cs_below [] []) (alls_nil)) (vc_eq (show VT.H vt_below = _ by kernel_rfl) vc_below)
noncomputable def con_bare : Con σF where
  args := [.fl 8]
  items := []
  res := .fl 8
  pre := fun ads ids => match ads, ids with
    | [.fl 8 n], [] => []
    | _, _ => []
  fact := fun ads ids => match ads, ids with
    | [.fl 8 n], [] => []
    | _, _ => []
  spec := fun ads ids => match ads, ids with
    | [.fl 8 n], [] => some (.fl 8 (bareN n), [])
    | _, _ => none
noncomputable def hn_bare (ads ids : List SF) : Hn σF := ⟨fun t => memB t [], fun t => memB t [], fun i => none, fun i => none⟩
noncomputable def cs_bare (ads ids : List SF) : List (Nat × Con σF) := []
noncomputable def vt_bare : VT := vcF XC (fun ads ids g => lookC g (cs_bare ads ids)) hn_bare 200 Tryd.f63 con_bare
theorem vc_bare : ∀ (v0 : NodeM), True ∧ (wt8 v0 → bif decide (NodeM.kd v0 = (2 : Int)) then { kd := (0 : Int), set := (0 : BSet), na := NodeM.na v0, nb := NodeM.nb v0, mn := NodeM.mn v0, mx := NodeM.mx v0 : NodeM } = bareN v0 ∧ True else bif decide (NodeM.kd v0 = (3 : Int)) then bif decide (NodeM.kd v0 = (3 : Int)) then { kd := (0 : Int), set := NodeM.set v0, na := (0 : Int), nb := (0 : Int), mn := NodeM.mn v0, mx := NodeM.mx v0 : NodeM } = bareN v0 ∧ True else bif decide (NodeM.kd v0 = (5 : Int)) then { kd := (0 : Int), set := NodeM.set v0, na := (0 : Int), nb := NodeM.nb v0, mn := (0 : Int), mx := (0 : Int) : NodeM } = bareN v0 ∧ True else { kd := (0 : Int), set := NodeM.set v0, na := NodeM.na v0, nb := NodeM.nb v0, mn := NodeM.mn v0, mx := NodeM.mx v0 : NodeM } = bareN v0 ∧ True else bif decide (NodeM.kd v0 = (4 : Int)) then { kd := (0 : Int), set := NodeM.set v0, na := (0 : Int), nb := (0 : Int), mn := NodeM.mn v0, mx := NodeM.mx v0 : NodeM } = bareN v0 ∧ True else bif decide (NodeM.kd v0 = (5 : Int)) then { kd := (0 : Int), set := NodeM.set v0, na := (0 : Int), nb := NodeM.nb v0, mn := (0 : Int), mx := (0 : Int) : NodeM } = bareN v0 ∧ True else { kd := (0 : Int), set := NodeM.set v0, na := NodeM.na v0, nb := NodeM.nb v0, mn := NodeM.mn v0, mx := NodeM.mx v0 : NodeM } = bareN v0 ∧ True) :=
 fun v0 => ⟨trivial,
 fun h0 => condD (fun h1 => ⟨(by simp_all [bareN]),
 trivial⟩) (fun h1 => condD (fun h2 => condD (fun h3 => ⟨(by simp_all [bareN]),
 trivial⟩) (fun h3 => condD (fun h4 => ⟨(by simp_all [bareN]),
 trivial⟩) (fun h4 => ⟨(by simp_all [bareN]),
 trivial⟩))) (fun h2 => condD (fun h5 => ⟨(by simp_all [bareN]),
 trivial⟩) (fun h5 => condD (fun h6 => ⟨(by simp_all [bareN]),
 trivial⟩) (fun h6 => ⟨(by simp_all [bareN]),
 trivial⟩))))⟩
theorem ok_bare : ConOK PX DF_ TabG 63 con_bare := con_ok XC.mixed tab_mono (fn := Tryd.f63) (by kernel_rfl) (lookC_ok (l := cs_bare [] []) (alls_nil)) (vc_eq (show VT.H vt_bare = _ by kernel_rfl) vc_bare)
noncomputable def con_may : Con σF where
  args := [.fl 8]
  items := []
  res := .bool
  pre := fun ads ids => match ads, ids with
    | [.fl 8 n], [] => []
    | _, _ => []
  fact := fun ads ids => match ads, ids with
    | [.fl 8 n], [] => []
    | _, _ => []
  spec := fun ads ids => match ads, ids with
    | [.fl 8 n], [] => some (.bool (mayB n), [])
    | _, _ => none
noncomputable def hn_may (ads ids : List SF) : Hn σF := ⟨fun t => memB t [], fun t => memB t [], fun i => none, fun i => none⟩
noncomputable def cs_may (ads ids : List SF) : List (Nat × Con σF) := [(63, con_bare)]
noncomputable def vt_may : VT := vcF XC (fun ads ids g => lookC g (cs_may ads ids)) hn_may 200 Tryd.f53 con_may
theorem vc_may : ∀ (v0 : NodeM), True ∧ (wt8 v0 → bif decide (NodeM.kd v0 < (1 : Int)) then false = mayB v0 ∧ True else bif decide ((5 : Int) < NodeM.kd v0) then false = mayB v0 ∧ True else bif !decide (bareN v0 = { kd := (0 : Int), set := (0 : BSet), na := (0 : Int), nb := (0 : Int), mn := (0 : Int), mx := (0 : Int) : NodeM }) then false = mayB v0 ∧ True else bif decide (NodeM.mx v0 = (-1 : Int)) then bif decide (NodeM.mn v0 = (0 : Int)) then true = mayB v0 ∧ True else decide (NodeM.mn v0 = (1 : Int)) = mayB v0 ∧ True else bif decide ((0 : Int) ≤ NodeM.mn v0) then bif decide (NodeM.mn v0 ≤ NodeM.mx v0) then decide (NodeM.mx v0 ≤ (9 : Int)) = mayB v0 ∧ True else false = mayB v0 ∧ True else false = mayB v0 ∧ True) :=
 fun v0 => ⟨trivial,
 fun h0 => condD (fun h1 => ⟨(by simp_all [mayB, zNode] <;> (intros; omega)),
 trivial⟩) (fun h1 => condD (fun h2 => ⟨(by simp_all [mayB, zNode] <;> (intros; omega)),
 trivial⟩) (fun h2 => condN (fun h3 => ⟨(by simp_all [mayB, zNode] <;> (intros; omega)),
 trivial⟩) (fun h3 => condD (fun h4 => condD (fun h5 => ⟨(by simp_all [mayB, zNode] <;> (intros; omega)),
 trivial⟩) (fun h5 => ⟨(by simp_all [mayB, zNode] <;> (intros; omega)),
 trivial⟩)) (fun h4 => condD (fun h6 => condD (fun h7 => ⟨(by simp_all [mayB, zNode] <;> (intros; omega)),
 trivial⟩) (fun h7 => ⟨(by simp_all [mayB, zNode] <;> (intros; omega)),
 trivial⟩)) (fun h6 => ⟨(by simp_all [mayB, zNode] <;> (intros; omega)),
 trivial⟩)))))⟩
theorem ok_may : ConOK PX DF_ TabG 53 con_may := con_ok XC.mixed tab_mono (fn := Tryd.f53) (by kernel_rfl) (lookC_ok (l := cs_may [] []) (alls_cons ok_bare (alls_nil))) (vc_eq (show VT.H vt_may = _ by kernel_rfl) vc_may)
noncomputable def con_notOne : Con σF where
  args := [.int .i64]
  items := []
  res := .bool
  pre := fun ads ids => match ads, ids with
    | [.int _ n], [] => []
    | _, _ => []
  fact := fun ads ids => match ads, ids with
    | [.int _ n], [] => []
    | _, _ => []
  spec := fun ads ids => match ads, ids with
    | [.int _ n], [] => some (.bool (!(decide (n = 1))), [])
    | _, _ => none
noncomputable def hn_notOne (ads ids : List SF) : Hn σF := ⟨fun t => memB t [], fun t => memB t [], fun i => none, fun i => none⟩
noncomputable def cs_notOne (ads ids : List SF) : List (Nat × Con σF) := []
noncomputable def vt_notOne : VT := vcF XC (fun ads ids g => lookC g (cs_notOne ads ids)) hn_notOne 200 Tryd.f50 con_notOne
theorem vc_notOne : ∀ (n0 : Int), True ∧ (inK .i64 n0 → (!decide (n0 = (1 : Int))) = !decide (n0 = (1 : Int)) ∧ True) :=
 fun n0 => ⟨trivial,
 fun h0 => have k0 := b_i64 h0; ⟨(by rfl),
 trivial⟩⟩
theorem ok_notOne : ConOK PX DF_ TabG 50 con_notOne := con_ok XC.mixed tab_mono (fn := Tryd.f50) (by kernel_rfl) (lookC_ok (l := cs_notOne [] []) (alls_nil)) (vc_eq (show VT.H vt_notOne = _ by kernel_rfl) vc_notOne)
noncomputable def con_notMay : Con σF where
  args := [.fl 8]
  items := []
  res := .bool
  pre := fun ads ids => match ads, ids with
    | [.fl 8 n], [] => []
    | _, _ => []
  fact := fun ads ids => match ads, ids with
    | [.fl 8 n], [] => []
    | _, _ => []
  spec := fun ads ids => match ads, ids with
    | [.fl 8 n], [] => some (.bool (!(mayB n)), [])
    | _, _ => none
noncomputable def hn_notMay (ads ids : List SF) : Hn σF := ⟨fun t => memB t [], fun t => memB t [], fun i => none, fun i => none⟩
noncomputable def cs_notMay (ads ids : List SF) : List (Nat × Con σF) := [(53, con_may)]
noncomputable def vt_notMay : VT := vcF XC (fun ads ids g => lookC g (cs_notMay ads ids)) hn_notMay 200 Tryd.f52 con_notMay
theorem vc_notMay : ∀ (v0 : NodeM), True ∧ (wt8 v0 → (!mayB v0) = !mayB v0 ∧ True) :=
 fun v0 => ⟨trivial,
 fun h0 => ⟨(by rfl),
 trivial⟩⟩
theorem ok_notMay : ConOK PX DF_ TabG 52 con_notMay := con_ok XC.mixed tab_mono (fn := Tryd.f52) (by kernel_rfl) (lookC_ok (l := cs_notMay [] []) (alls_cons ok_may (alls_nil))) (vc_eq (show VT.H vt_notMay = _ by kernel_rfl) vc_notMay)
noncomputable def con_ixMay : Con σF where
  args := [.rs 8, .fn 52 []]
  items := []
  res := .int .i64
  pre := fun ads ids => match ads, ids with
    | [.rs 8 xs, _], [] => []
    | _, _ => []
  fact := fun ads ids => match ads, ids with
    | [.rs 8 xs, _], [] => []
    | _, _ => []
  spec := fun ads ids => match ads, ids with
    | [.rs 8 xs, _], [] => some (.int .i64 (idxF (fun n => !(mayB n)) xs), [])
    | _, _ => none
noncomputable def lh_ixMay_2 (ads ids : List SF) : LoopH σF where
  slots := [8]
  shs := [.int .i64]
  drop := [4, 5, 9, 10, 11, 12, 13, 14, 15, 16, 17, 18]
  ns := []
  its := []
  see := []
  inv := fun see c0 cs => match ads, ids, see, c0, cs with
    | [.rs 8 xs, _], [], _, _, [.int _ i] => [(xs.take i.toNat).any (fun n => !(mayB n)) = false, 0 ≤ i, i ≤ xs.length]
    | _, _, _, _, _ => []
  meas := fun see c0 cs => match ads, ids, see, c0, cs with
    | [.rs 8 xs, _], [], _, _, [.int _ i] => xs.length - i.toNat
    | _, _, _, _, _ => 0
  nsl := []
noncomputable def hn_ixMay (ads ids : List SF) : Hn σF := ⟨fun t => memB t [], fun t => memB t [], fun i => cond (Nat.beq i 2) (some (lh_ixMay_2 ads ids)) (none), fun i => none⟩
noncomputable def cs_ixMay (ads ids : List SF) : List (Nat × Con σF) := [(52, con_notMay)]
noncomputable def vt_ixMay : VT := vcF XC (fun ads ids g => lookC g (cs_ixMay ads ids)) hn_ixMay 200 Tryd.f62 con_ixMay
theorem vc_ixMay : ∀ (xs0 : List NodeM), True ∧ (wtLs wt8 xs0 → (List.any (List.take (Int.toNat (0 : Int)) xs0) fun (n : NodeM) => !mayB n) = false ∧ (0 : Int) ≤ (0 : Int) ∧ (0 : Int) ≤ (↑(List.length xs0) : Int) ∧ ∀ (n1 : Int), (List.any (List.take (Int.toNat n1) xs0) fun (n : NodeM) => !mayB n) = false → (0 : Int) ≤ n1 → n1 ≤ (↑(List.length xs0) : Int) → inK .i64 n1 → bif decide (n1 < (↑(List.length xs0) : Int)) then (0 : Int) ≤ n1 ∧ n1 < (↑(List.length xs0) : Int) ∧ bif !mayB (at_ xs0 n1) then n1 = idxF (fun (n : NodeM) => !mayB n) xs0 ∧ True else inK .i64 (n1 + (1 : Int)) ∧ (List.any (List.take (Int.toNat (n1 + (1 : Int))) xs0) fun (n : NodeM) => !mayB n) = false ∧ (0 : Int) ≤ n1 + (1 : Int) ∧ n1 + (1 : Int) ≤ (↑(List.length xs0) : Int) ∧ List.length xs0 - Int.toNat (n1 + (1 : Int)) < List.length xs0 - Int.toNat n1 ∧ True else (-1 : Int) = idxF (fun (n : NodeM) => !mayB n) xs0 ∧ True) :=
 fun xs0 => ⟨trivial,
 fun h0 => have k0 := b_len h0; ⟨(by rfl), ⟨(by omega), ⟨(by omega),
 fun n1 => fun h1 => fun h2 => fun h3 => fun h4 => have k4 := b_i64 h4; condD (fun h5 => ⟨(by assumption), ⟨(by assumption),
 condNb (fun h6 => ⟨(by exact (idxF_at h2 h5 h1 (by simp_all)).symm),
 trivial⟩) (fun h6 => ⟨(by exact in_i64 (by omega) (by omega)), ⟨(by exact any_next h2 h5 h1 (by simp_all)), ⟨(by omega), ⟨(by assumption), ⟨(by omega),
 trivial⟩⟩⟩⟩⟩)⟩⟩) (fun h5 => ⟨(by rw [List.take_of_length_le (by omega)] at h1; exact (idxF_none h1).symm),
 trivial⟩)⟩⟩⟩⟩
theorem ok_ixMay : ConOK PX DF_ TabG 62 con_ixMay := con_ok XC.mixed tab_mono (fn := Tryd.f62) (by kernel_rfl) (lookC_ok (l := cs_ixMay [] []) (alls_cons ok_notMay (alls_nil))) (vc_eq (show VT.H vt_ixMay = _ by kernel_rfl) vc_ixMay)
noncomputable def con_hasMay : Con σF where
  args := [.rs 8, .fn 52 []]
  items := []
  res := .bool
  pre := fun ads ids => match ads, ids with
    | [.rs 8 xs, _], [] => []
    | _, _ => []
  fact := fun ads ids => match ads, ids with
    | [.rs 8 xs, _], [] => []
    | _, _ => []
  spec := fun ads ids => match ads, ids with
    | [.rs 8 xs, _], [] => some (.bool (xs.any (fun n => !(mayB n))), [])
    | _, _ => none
noncomputable def hn_hasMay (ads ids : List SF) : Hn σF := ⟨fun t => memB t [], fun t => memB t [], fun i => none, fun i => none⟩
noncomputable def cs_hasMay (ads ids : List SF) : List (Nat × Con σF) := [(62, con_ixMay)]
noncomputable def vt_hasMay : VT := vcF XC (fun ads ids g => lookC g (cs_hasMay ads ids)) hn_hasMay 200 Tryd.f51 con_hasMay
theorem vc_hasMay : ∀ (xs0 : List NodeM), True ∧ (wtLs wt8 xs0 → (decide ((0 : Int) ≤ idxF (fun (n : NodeM) => !mayB n) xs0) = List.any xs0 fun (n : NodeM) => !mayB n) ∧ True) :=
 fun xs0 => ⟨trivial,
 fun h0 => have k0 := b_len h0; ⟨(by exact idxF_ge _ _),
 trivial⟩⟩
theorem ok_hasMay : ConOK PX DF_ TabG 51 con_hasMay := con_ok XC.mixed tab_mono (fn := Tryd.f51) (by kernel_rfl) (lookC_ok (l := cs_hasMay [] []) (alls_cons ok_ixMay (alls_nil))) (vc_eq (show VT.H vt_hasMay = _ by kernel_rfl) vc_hasMay)
noncomputable def con_ixOne : Con σF where
  args := [.rs 0, .fn 50 []]
  items := []
  res := .int .i64
  pre := fun ads ids => match ads, ids with
    | [.rs 0 xs, _], [] => []
    | _, _ => []
  fact := fun ads ids => match ads, ids with
    | [.rs 0 xs, _], [] => []
    | _, _ => []
  spec := fun ads ids => match ads, ids with
    | [.rs 0 xs, _], [] => some (.int .i64 (idxF (fun (n : Int) => !(decide (n = 1))) xs), [])
    | _, _ => none
noncomputable def lh_ixOne_2 (ads ids : List SF) : LoopH σF where
  slots := [8]
  shs := [.int .i64]
  drop := [4, 5, 9, 10, 11, 12, 13, 14, 15, 16, 17, 18]
  ns := []
  its := []
  see := []
  inv := fun see c0 cs => match ads, ids, see, c0, cs with
    | [.rs 0 xs, _], [], _, _, [.int _ i] => [(xs.take i.toNat).any (fun (n : Int) => !(decide (n = 1))) = false, 0 ≤ i, i ≤ xs.length]
    | _, _, _, _, _ => []
  meas := fun see c0 cs => match ads, ids, see, c0, cs with
    | [.rs 0 xs, _], [], _, _, [.int _ i] => xs.length - i.toNat
    | _, _, _, _, _ => 0
  nsl := []
noncomputable def hn_ixOne (ads ids : List SF) : Hn σF := ⟨fun t => memB t [], fun t => memB t [], fun i => cond (Nat.beq i 2) (some (lh_ixOne_2 ads ids)) (none), fun i => none⟩
noncomputable def cs_ixOne (ads ids : List SF) : List (Nat × Con σF) := [(50, con_notOne)]
noncomputable def vt_ixOne : VT := vcF XC (fun ads ids g => lookC g (cs_ixOne ads ids)) hn_ixOne 200 Tryd.f61 con_ixOne
theorem vc_ixOne : ∀ (xs0 : List Int), True ∧ (wtLs (fun (x : Int) => inK .i64 x) xs0 → (List.any (List.take (Int.toNat (0 : Int)) xs0) fun (n : Int) => !decide (n = (1 : Int))) = false ∧ (0 : Int) ≤ (0 : Int) ∧ (0 : Int) ≤ (↑(List.length xs0) : Int) ∧ ∀ (n1 : Int), (List.any (List.take (Int.toNat n1) xs0) fun (n : Int) => !decide (n = (1 : Int))) = false → (0 : Int) ≤ n1 → n1 ≤ (↑(List.length xs0) : Int) → inK .i64 n1 → bif decide (n1 < (↑(List.length xs0) : Int)) then (0 : Int) ≤ n1 ∧ n1 < (↑(List.length xs0) : Int) ∧ bif !decide (at_ xs0 n1 = (1 : Int)) then n1 = idxF (fun (n : Int) => !decide (n = (1 : Int))) xs0 ∧ True else inK .i64 (n1 + (1 : Int)) ∧ (List.any (List.take (Int.toNat (n1 + (1 : Int))) xs0) fun (n : Int) => !decide (n = (1 : Int))) = false ∧ (0 : Int) ≤ n1 + (1 : Int) ∧ n1 + (1 : Int) ≤ (↑(List.length xs0) : Int) ∧ List.length xs0 - Int.toNat (n1 + (1 : Int)) < List.length xs0 - Int.toNat n1 ∧ True else (-1 : Int) = idxF (fun (n : Int) => !decide (n = (1 : Int))) xs0 ∧ True) :=
 fun xs0 => ⟨trivial,
 fun h0 => have k0 := b_len h0; ⟨(by rfl), ⟨(by omega), ⟨(by omega),
 fun n1 => fun h1 => fun h2 => fun h3 => fun h4 => have k4 := b_i64 h4; condD (fun h5 => ⟨(by assumption), ⟨(by assumption),
 condN (fun h6 => ⟨(by exact (idxF_at h2 h5 h1 (by simp_all)).symm),
 trivial⟩) (fun h6 => ⟨(by exact in_i64 (by omega) (by omega)), ⟨(by exact any_next h2 h5 h1 (by simp_all)), ⟨(by omega), ⟨(by assumption), ⟨(by omega),
 trivial⟩⟩⟩⟩⟩)⟩⟩) (fun h5 => ⟨(by rw [List.take_of_length_le (by omega)] at h1; exact (idxF_none h1).symm),
 trivial⟩)⟩⟩⟩⟩
theorem ok_ixOne : ConOK PX DF_ TabG 61 con_ixOne := con_ok XC.mixed tab_mono (fn := Tryd.f61) (by kernel_rfl) (lookC_ok (l := cs_ixOne [] []) (alls_cons ok_notOne (alls_nil))) (vc_eq (show VT.H vt_ixOne = _ by kernel_rfl) vc_ixOne)
noncomputable def con_hasOne : Con σF where
  args := [.rs 0, .fn 50 []]
  items := []
  res := .bool
  pre := fun ads ids => match ads, ids with
    | [.rs 0 xs, _], [] => []
    | _, _ => []
  fact := fun ads ids => match ads, ids with
    | [.rs 0 xs, _], [] => []
    | _, _ => []
  spec := fun ads ids => match ads, ids with
    | [.rs 0 xs, _], [] => some (.bool (xs.any (fun (n : Int) => !(decide (n = 1)))), [])
    | _, _ => none
noncomputable def hn_hasOne (ads ids : List SF) : Hn σF := ⟨fun t => memB t [], fun t => memB t [], fun i => none, fun i => none⟩
noncomputable def cs_hasOne (ads ids : List SF) : List (Nat × Con σF) := [(61, con_ixOne)]
noncomputable def vt_hasOne : VT := vcF XC (fun ads ids g => lookC g (cs_hasOne ads ids)) hn_hasOne 200 Tryd.f49 con_hasOne
theorem vc_hasOne : ∀ (xs0 : List Int), True ∧ (wtLs (fun (x : Int) => inK .i64 x) xs0 → (decide ((0 : Int) ≤ idxF (fun (n : Int) => !decide (n = (1 : Int))) xs0) = List.any xs0 fun (n : Int) => !decide (n = (1 : Int))) ∧ True) :=
 fun xs0 => ⟨trivial,
 fun h0 => have k0 := b_len h0; ⟨(by exact idxF_ge _ _),
 trivial⟩⟩
theorem ok_hasOne : ConOK PX DF_ TabG 49 con_hasOne := con_ok XC.mixed tab_mono (fn := Tryd.f49) (by kernel_rfl) (lookC_ok (l := cs_hasOne [] []) (alls_cons ok_ixOne (alls_nil))) (vc_eq (show VT.H vt_hasOne = _ by kernel_rfl) vc_hasOne)
end Go.Proofs.YtgobbgpmdfnfhaaDoor
namespace Go.Proofs.YtgobbgpmdfnfhaaDoor
open Go Go.RowKit Gx
set_option linter.unusedVariables false
set_option linter.unusedSimpArgs false
set_option maxRecDepth 8000
noncomputable def con_right : Con σF where
  args := [.fl 10]
  items := []
  res := .bool
  pre := fun ads ids => match ads, ids with
    | [.fl 10 t], [] => []
    | _, _ => []
  fact := fun ads ids => match ads, ids with
    | [.fl 10 t], [] => []
    | _, _ => []
  spec := fun ads ids => match ads, ids with
    | [.fl 10 t], [] => some (.bool (rightB t), [])
    | _, _ => none
noncomputable def lh_right_5 (ads ids : List SF) : LoopH σF where
  slots := [33]
  shs := [.int .i64]
  drop := [2, 4, 5, 7, 34, 35, 36, 37, 38, 39, 40, 41, 42, 43, 44, 45, 46, 47, 48, 49, 50, 51, 52, 53, 54, 55, 56, 57, 58, 59]
  ns := []
  its := [.row 3 0]
  see := []
  inv := fun see c0 cs => match ads, ids, see, c0, cs with
    | [.fl 10 t], [], _, _, [.rs 0 us, .int _ i] => [us = usesN (List.replicate (TreeM.nodes t).length 0) ((TreeM.nodes t).take i.toNat), 0 ≤ i, i ≤ (TreeM.nodes t).length, backB_ (TreeM.nodes t) i.toNat, topped us (2 * i)]
    | _, _, _, _, _ => []
  meas := fun see c0 cs => match ads, ids, see, c0, cs with
    | [.fl 10 t], [], _, _, [.rs 0 us, .int _ i] => (TreeM.nodes t).length - i.toNat
    | _, _, _, _, _ => 0
  nsl := [3]
noncomputable def lh_right_8 (ads ids : List SF) : LoopH σF where
  slots := [41]
  shs := [.int .i64]
  drop := [2, 7, 42, 43, 44, 45, 46, 47, 48, 49, 50, 51, 52, 53, 54, 55, 56, 57, 58]
  ns := []
  its := [.row 3 0]
  see := [33, 39]
  inv := fun see c0 cs => match ads, ids, see, c0, cs with
    | [.fl 10 t], [], [.int _ i, .rs 0 bl], [.rs 0 vs, _], [.rs 0 us, .int _ j] => [us = bumps vs (bl.take j.toNat), 0 ≤ j, j ≤ bl.length, ∀ k ∈ bl.take j.toNat, 0 ≤ k ∧ k < i, topped us (2 * i + j)]
    | _, _, _, _, _ => []
  meas := fun see c0 cs => match ads, ids, see, c0, cs with
    | [.fl 10 t], [], [.int _ i, .rs 0 bl], [.rs 0 vs, _], [.rs 0 us, .int _ j] => bl.length - j.toNat
    | _, _, _, _, _ => 0
  nsl := [3]
noncomputable def lh_right_16 (ads ids : List SF) : LoopH σF where
  slots := [63]
  shs := [.int .i64]
  drop := [2, 9, 64, 65, 66, 67, 68, 69, 70, 71, 72, 73, 74, 75, 76, 77, 78, 79, 80, 81, 82, 83, 84, 85]
  ns := []
  its := [.row 3 0]
  see := []
  inv := fun see c0 cs => match ads, ids, see, c0, cs with
    | [.fl 10 t], [], _, [.rs 0 vs, _], [.rs 0 us, .int _ i] => [us = bumps vs (((TreeM.parts t).map PrtM.root).take i.toNat), 0 ≤ i, i ≤ (TreeM.parts t).length, rootsIn ((TreeM.parts t).take i.toNat) (TreeM.nodes t).length, topped us (1200 + i)]
    | _, _, _, _, _ => []
  meas := fun see c0 cs => match ads, ids, see, c0, cs with
    | [.fl 10 t], [], _, [.rs 0 vs, _], [.rs 0 us, .int _ i] => (TreeM.parts t).length - i.toNat
    | _, _, _, _, _ => 0
  nsl := [3]
noncomputable def hn_right (ads ids : List SF) : Hn σF := ⟨fun t => memB t [], fun t => memB t [], fun i => cond (Nat.beq i 5) (some (lh_right_5 ads ids)) (cond (Nat.beq i 8) (some (lh_right_8 ads ids)) (cond (Nat.beq i 16) (some (lh_right_16 ads ids)) (none))), fun i => none⟩
noncomputable def cs_right (ads ids : List SF) : List (Nat × Con σF) := [(48, con_below), (49, con_hasOne), (51, con_hasMay)]
noncomputable def vt_right : VT := vcF XC (fun ads ids g => lookC g (cs_right ads ids)) hn_right 200 Tryd.f34 con_right
theorem vc_right : ∀ (v0 : TreeM), True ∧ (wt10 v0 → bif decide ((↑(List.length (TreeM.parts v0)) : Int) < (1 : Int)) then false = rightB v0 ∧ True else bif decide ((20 : Int) < (↑(List.length (TreeM.parts v0)) : Int)) then false = rightB v0 ∧ True else bif decide ((600 : Int) < (↑(List.length (TreeM.nodes v0)) : Int)) then false = rightB v0 ∧ True else (↑(List.length (TreeM.nodes v0)) : Int) = (↑(List.length (TreeM.nodes v0)) : Int) ∧ (0 : Int) ≤ (↑(List.length (TreeM.nodes v0)) : Int) ∧ (8 : Int) * (↑(List.length (TreeM.nodes v0)) : Int) ≤ (281474976710656 : Int) ∧ (↑(List.length (TreeM.nodes v0)) : Int) ≤ (9223372036854775807 : Int) ∧ List.replicate (Int.toNat (↑(List.length (TreeM.nodes v0)) : Int)) (0 : Int) = usesN (List.replicate (List.length (TreeM.nodes v0)) (0 : Int)) (List.take (Int.toNat (0 : Int)) (TreeM.nodes v0)) ∧ (0 : Int) ≤ (0 : Int) ∧ (0 : Int) ≤ (↑(List.length (TreeM.nodes v0)) : Int) ∧ backB_ (TreeM.nodes v0) (Int.toNat (0 : Int)) ∧ topped (List.replicate (Int.toNat (↑(List.length (TreeM.nodes v0)) : Int)) (0 : Int)) ((2 : Int) * (0 : Int)) ∧ ∀ (xs1 : List Int) (n2 : Int), xs1 = usesN (List.replicate (List.length (TreeM.nodes v0)) (0 : Int)) (List.take (Int.toNat n2) (TreeM.nodes v0)) → (0 : Int) ≤ n2 → n2 ≤ (↑(List.length (TreeM.nodes v0)) : Int) → backB_ (TreeM.nodes v0) (Int.toNat n2) → topped xs1 ((2 : Int) * n2) → wtLs (fun (x : Int) => inK .i64 x) xs1 → inK .i64 n2 → bif decide (n2 < (↑(List.length (TreeM.nodes v0)) : Int)) then (0 : Int) ≤ n2 ∧ n2 < (↑(List.length (TreeM.nodes v0)) : Int) ∧ xs1 = bumps xs1 (List.take (Int.toNat (0 : Int)) (belowN (at_ (TreeM.nodes v0) n2))) ∧ (0 : Int) ≤ (0 : Int) ∧ (0 : Int) ≤ (↑(List.length (belowN (at_ (TreeM.nodes v0) n2))) : Int) ∧ (∀ (k : Int), k ∈ List.take (Int.toNat (0 : Int)) (belowN (at_ (TreeM.nodes v0) n2)) → (0 : Int) ≤ k ∧ k < n2) ∧ topped xs1 ((2 : Int) * n2 + (0 : Int)) ∧ ∀ (xs3 : List Int) (n4 : Int), xs3 = bumps xs1 (List.take (Int.toNat n4) (belowN (at_ (TreeM.nodes v0) n2))) → (0 : Int) ≤ n4 → n4 ≤ (↑(List.length (belowN (at_ (TreeM.nodes v0) n2))) : Int) → (∀ (k : Int), k ∈ List.take (Int.toNat n4) (belowN (at_ (TreeM.nodes v0) n2)) → (0 : Int) ≤ k ∧ k < n2) → topped xs3 ((2 : Int) * n2 + n4) → wtLs (fun (x : Int) => inK .i64 x) xs3 → inK .i64 n4 → bif decide (n4 < (↑(List.length (belowN (at_ (TreeM.nodes v0) n2))) : Int)) then (0 : Int) ≤ n4 ∧ n4 < (↑(List.length (belowN (at_ (TreeM.nodes v0) n2))) : Int) ∧ bif decide (at_ (belowN (at_ (TreeM.nodes v0) n2)) n4 < (0 : Int)) then false = rightB v0 ∧ True else bif decide (n2 ≤ at_ (belowN (at_ (TreeM.nodes v0) n2)) n4) then false = rightB v0 ∧ True else (0 : Int) ≤ at_ (belowN (at_ (TreeM.nodes v0) n2)) n4 ∧ at_ (belowN (at_ (TreeM.nodes v0) n2)) n4 < (↑(List.length xs3) : Int) ∧ inK .i64 (at_ xs3 (at_ (belowN (at_ (TreeM.nodes v0) n2)) n4) + (1 : Int)) ∧ (0 : Int) ≤ at_ (belowN (at_ (TreeM.nodes v0) n2)) n4 ∧ at_ (belowN (at_ (TreeM.nodes v0) n2)) n4 < (↑(List.length xs3) : Int) ∧ inK .i64 (n4 + (1 : Int)) ∧ List.set xs3 (Int.toNat (at_ (belowN (at_ (TreeM.nodes v0) n2)) n4)) (at_ xs3 (at_ (belowN (at_ (TreeM.nodes v0) n2)) n4) + (1 : Int)) = bumps xs1 (List.take (Int.toNat (n4 + (1 : Int))) (belowN (at_ (TreeM.nodes v0) n2))) ∧ (0 : Int) ≤ n4 + (1 : Int) ∧ n4 + (1 : Int) ≤ (↑(List.length (belowN (at_ (TreeM.nodes v0) n2))) : Int) ∧ (∀ (k : Int), k ∈ List.take (Int.toNat (n4 + (1 : Int))) (belowN (at_ (TreeM.nodes v0) n2)) → (0 : Int) ≤ k ∧ k < n2) ∧ topped (List.set xs3 (Int.toNat (at_ (belowN (at_ (TreeM.nodes v0) n2)) n4)) (at_ xs3 (at_ (belowN (at_ (TreeM.nodes v0) n2)) n4) + (1 : Int))) ((2 : Int) * n2 + (n4 + (1 : Int))) ∧ List.length (belowN (at_ (TreeM.nodes v0) n2)) - Int.toNat (n4 + (1 : Int)) < List.length (belowN (at_ (TreeM.nodes v0) n2)) - Int.toNat n4 ∧ True else inK .i64 (n2 + (1 : Int)) ∧ xs3 = usesN (List.replicate (List.length (TreeM.nodes v0)) (0 : Int)) (List.take (Int.toNat (n2 + (1 : Int))) (TreeM.nodes v0)) ∧ (0 : Int) ≤ n2 + (1 : Int) ∧ n2 + (1 : Int) ≤ (↑(List.length (TreeM.nodes v0)) : Int) ∧ backB_ (TreeM.nodes v0) (Int.toNat (n2 + (1 : Int))) ∧ topped xs3 ((2 : Int) * (n2 + (1 : Int))) ∧ List.length (TreeM.nodes v0) - Int.toNat (n2 + (1 : Int)) < List.length (TreeM.nodes v0) - Int.toNat n2 ∧ True else xs1 = bumps xs1 (List.take (Int.toNat (0 : Int)) (List.map PrtM.root (TreeM.parts v0))) ∧ (0 : Int) ≤ (0 : Int) ∧ (0 : Int) ≤ (↑(List.length (TreeM.parts v0)) : Int) ∧ rootsIn (List.take (Int.toNat (0 : Int)) (TreeM.parts v0)) (List.length (TreeM.nodes v0)) ∧ topped xs1 ((1200 : Int) + (0 : Int)) ∧ ∀ (xs5 : List Int) (n6 : Int), xs5 = bumps xs1 (List.take (Int.toNat n6) (List.map PrtM.root (TreeM.parts v0))) → (0 : Int) ≤ n6 → n6 ≤ (↑(List.length (TreeM.parts v0)) : Int) → rootsIn (List.take (Int.toNat n6) (TreeM.parts v0)) (List.length (TreeM.nodes v0)) → topped xs5 ((1200 : Int) + n6) → wtLs (fun (x : Int) => inK .i64 x) xs5 → inK .i64 n6 → bif decide (n6 < (↑(List.length (TreeM.parts v0)) : Int)) then (0 : Int) ≤ n6 ∧ n6 < (↑(List.length (TreeM.parts v0)) : Int) ∧ bif decide (PrtM.root (at_ (TreeM.parts v0) n6) < (0 : Int)) then false = rightB v0 ∧ True else bif decide ((↑(List.length (TreeM.nodes v0)) : Int) ≤ PrtM.root (at_ (TreeM.parts v0) n6)) then false = rightB v0 ∧ True else (0 : Int) ≤ PrtM.root (at_ (TreeM.parts v0) n6) ∧ PrtM.root (at_ (TreeM.parts v0) n6) < (↑(List.length xs5) : Int) ∧ inK .i64 (at_ xs5 (PrtM.root (at_ (TreeM.parts v0) n6)) + (1 : Int)) ∧ (0 : Int) ≤ PrtM.root (at_ (TreeM.parts v0) n6) ∧ PrtM.root (at_ (TreeM.parts v0) n6) < (↑(List.length xs5) : Int) ∧ inK .i64 (n6 + (1 : Int)) ∧ List.set xs5 (Int.toNat (PrtM.root (at_ (TreeM.parts v0) n6))) (at_ xs5 (PrtM.root (at_ (TreeM.parts v0) n6)) + (1 : Int)) = bumps xs1 (List.take (Int.toNat (n6 + (1 : Int))) (List.map PrtM.root (TreeM.parts v0))) ∧ (0 : Int) ≤ n6 + (1 : Int) ∧ n6 + (1 : Int) ≤ (↑(List.length (TreeM.parts v0)) : Int) ∧ rootsIn (List.take (Int.toNat (n6 + (1 : Int))) (TreeM.parts v0)) (List.length (TreeM.nodes v0)) ∧ topped (List.set xs5 (Int.toNat (PrtM.root (at_ (TreeM.parts v0) n6))) (at_ xs5 (PrtM.root (at_ (TreeM.parts v0) n6)) + (1 : Int))) ((1200 : Int) + (n6 + (1 : Int))) ∧ List.length (TreeM.parts v0) - Int.toNat (n6 + (1 : Int)) < List.length (TreeM.parts v0) - Int.toNat n6 ∧ True else bif !List.any xs5 fun (n : Int) => !decide (n = (1 : Int)) then (!List.any (TreeM.nodes v0) fun (n : NodeM) => !mayB n) = rightB v0 ∧ True else false = rightB v0 ∧ True) :=
 fun v0 => ⟨trivial,
 fun h0 => condD (fun h1 => ⟨(by exact (rightB_no fun r => by have := r.p1; omega).symm),
 trivial⟩) (fun h1 => condD (fun h2 => ⟨(by exact (rightB_no fun r => by have := r.p20; omega).symm),
 trivial⟩) (fun h2 => condD (fun h3 => ⟨(by exact (rightB_no fun r => by have := r.n600; omega).symm),
 trivial⟩) (fun h3 => ⟨(by rfl), ⟨(by omega), ⟨(by omega), ⟨(by omega), ⟨(by simp [usesN]), ⟨(by omega), ⟨(by omega), ⟨(by intro j hj; simp at hj), ⟨(by exact topped_mono (top_zero _) (by omega)),
 fun xs1 => fun n2 => fun h4 => fun h5 => fun h6 => fun h7 => fun h8 => fun h9 => have k9 := b_len h9; fun h10 => have k10 := b_i64 h10; condD (fun h11 => ⟨(by assumption), ⟨(by assumption), ⟨(by rfl), ⟨(by omega), ⟨(by omega), ⟨(by simp), ⟨(by exact topped_mono h8 (by omega)),
 fun xs3 => fun n4 => fun h12 => fun h13 => fun h14 => fun h15 => fun h16 => fun h17 => have k17 := b_len h17; fun h18 => have k18 := b_i64 h18; condD (fun h19 => ⟨(by assumption), ⟨(by assumption),
 condD (fun h20 => ⟨(by exact (rightB_no fun r => by have := back_at r.back h5 h11 (at_mem_ h13 h19); omega).symm),
 trivial⟩) (fun h20 => condD (fun h21 => ⟨(by exact (rightB_no fun r => by have := back_at r.back h5 h11 (at_mem_ h13 h19); omega).symm),
 trivial⟩) (fun h21 => ⟨(by omega), ⟨(by have e3 : xs3.length = (TreeM.nodes v0).length := (by rw [h12, bumps_len, h4, usesN_len, List.length_replicate]); omega), ⟨(by have e3 : xs3.length = (TreeM.nodes v0).length := (by rw [h12, bumps_len, h4, usesN_len, List.length_replicate]); have q := topped_at h16 (k := at_ (belowN (at_ (TreeM.nodes v0) n2)) n4) (by omega) (by omega); have := below_len (at_ (TreeM.nodes v0) n2); exact in_i64 (by omega) (by omega)), ⟨(by omega), ⟨(by have e3 : xs3.length = (TreeM.nodes v0).length := (by rw [h12, bumps_len, h4, usesN_len, List.length_replicate]); omega), ⟨(by have := below_len (at_ (TreeM.nodes v0) n2); exact in_i64 (by omega) (by omega)), ⟨(by rw [bumps_next _ _ h13 h19, ← h12]; rfl), ⟨(by omega), ⟨(by assumption), ⟨(by intro k hk; rw [take_next _ h13 h19] at hk; rcases List.mem_append.1 hk with q | q; exact h15 k q; simp at q; subst q; omega), ⟨(by have e3 : xs3.length = (TreeM.nodes v0).length := (by rw [h12, bumps_len, h4, usesN_len, List.length_replicate]); exact topped_mono (bump_top h16 (by omega) (by omega)) (by omega)), ⟨(by omega),
 trivial⟩⟩⟩⟩⟩⟩⟩⟩⟩⟩⟩⟩))⟩⟩) (fun h19 => ⟨(by exact in_i64 (by omega) (by omega)), ⟨(by rw [usesN_next _ _ h5 h11, ← h4, h12, List.take_of_length_le (by omega)]), ⟨(by omega), ⟨(by assumption), ⟨(by refine back_next h7 h5 ?_; rw [List.take_of_length_le (by omega)] at h15; exact h15), ⟨(by have := below_len (at_ (TreeM.nodes v0) n2); exact topped_mono h16 (by omega)), ⟨(by omega),
 trivial⟩⟩⟩⟩⟩⟩⟩)⟩⟩⟩⟩⟩⟩⟩) (fun h11 => ⟨(by rfl), ⟨(by omega), ⟨(by omega), ⟨(by intro p hp; simp at hp), ⟨(by exact topped_mono h8 (by omega)),
 fun xs5 => fun n6 => fun h22 => fun h23 => fun h24 => fun h25 => fun h26 => fun h27 => have k27 := b_len h27; fun h28 => have k28 := b_i64 h28; condD (fun h29 => ⟨(by assumption), ⟨(by assumption),
 condD (fun h30 => ⟨(by exact (rightB_no fun r => by have := r.roots _ (at_mem_ h23 h29); omega).symm),
 trivial⟩) (fun h30 => condD (fun h31 => ⟨(by exact (rightB_no fun r => by have := r.roots _ (at_mem_ h23 h29); omega).symm),
 trivial⟩) (fun h31 => ⟨(by omega), ⟨(by have e5 : xs5.length = (TreeM.nodes v0).length := (by rw [h22, bumps_len, h4, usesN_len, List.length_replicate]); omega), ⟨(by have e5 : xs5.length = (TreeM.nodes v0).length := (by rw [h22, bumps_len, h4, usesN_len, List.length_replicate]); have q := topped_at h26 (k := PrtM.root (at_ (TreeM.parts v0) n6)) (by omega) (by omega); exact in_i64 (by omega) (by omega)), ⟨(by omega), ⟨(by have e5 : xs5.length = (TreeM.nodes v0).length := (by rw [h22, bumps_len, h4, usesN_len, List.length_replicate]); omega), ⟨(by exact in_i64 (by omega) (by omega)), ⟨(by have hl : n6 < ((List.map PrtM.root (TreeM.parts v0)).length : Int) := (by rw [List.length_map]; exact h29); rw [bumps_next _ _ h23 hl, ← h22, at_map PrtM.root _ h23 h29]; rfl), ⟨(by omega), ⟨(by assumption), ⟨(by intro p hp; rw [take_next _ h23 h29] at hp; rcases List.mem_append.1 hp with q | q; exact h25 p q; simp at q; subst q; omega), ⟨(by have e5 : xs5.length = (TreeM.nodes v0).length := (by rw [h22, bumps_len, h4, usesN_len, List.length_replicate]); exact topped_mono (bump_top h26 (by omega) (by omega)) (by omega)), ⟨(by omega),
 trivial⟩⟩⟩⟩⟩⟩⟩⟩⟩⟩⟩⟩))⟩⟩) (fun h29 => condNb (fun h32 => ⟨(by rw [right_end h1 h2 h3 h7 (by omega) h25 (by omega) (useT_at h4 h11 h22 h29), h32]; rfl),
 trivial⟩) (fun h32 => ⟨(by rw [right_end h1 h2 h3 h7 (by omega) h25 (by omega) (useT_at h4 h11 h22 h29), h32]; rfl),
 trivial⟩))⟩⟩⟩⟩⟩)⟩⟩⟩⟩⟩⟩⟩⟩⟩)))⟩
theorem ok_right : ConOK PX DF_ TabG 34 con_right := con_ok XC.mixed tab_mono (fn := Tryd.f34) (by kernel_rfl) (lookC_ok (l := cs_right [] []) (alls_cons ok_below (alls_cons ok_hasOne (alls_cons ok_hasMay (alls_nil))))) (vc_eq (show VT.H vt_right = _ by kernel_rfl) vc_right)
end Go.Proofs.YtgobbgpmdfnfhaaDoor
namespace Gx
open Go Go.RowKit
set_option linter.unusedSimpArgs false
set_option linter.unusedVariables false
def capP (x : Int) : Int := min x 1073741824
def addP (l : List Int) (s k : Int) : Int := capP (s + at_ l k)
def sumP (l : List Int) (s : Int) (ks : List Int) : Int := ks.foldl (addP l) s
def oneP (n : NodeM) : Int := if n.kd = 2 then 1 else 0
def mulP (n : NodeM) (s : Int) : Int := if n.kd = 5 ∧ 0 ≤ n.mx then capP (s * n.mx) else s
def plN (l : List Int) (n : NodeM) : Int := mulP n (sumP l (oneP n) (belowN n))
def plL (ns : List NodeM) : List Int := ns.foldl (fun l n => l ++ [plN l n]) []
def placesT (t : TreeM) : Int := sumP (plL t.nodes) 0 (t.parts.map PrtM.root)
noncomputable def placesV (t : TreeM) : Int := cond (rightB t) (placesT t) 0
theorem plL_len (ns : List NodeM) : (plL ns).length = ns.length := by
  unfold plL
  have : ∀ (l : List Int), (ns.foldl (fun l n => l ++ [plN l n]) l).length = l.length + ns.length := by
    induction ns with
    | nil => intro l; simp
    | cons n ns ih => intro l; rw [List.foldl_cons, ih]; simp; omega
  simpa using this []
theorem plL_next (ns : List NodeM) {i : Int} (h0 : 0 ≤ i) (h1 : i < (ns.length : Int)) : plL (ns.take (i + 1).toNat) = plL (ns.take i.toNat) ++ [plN (plL (ns.take i.toNat)) (at_ ns i)] := by
  unfold plL; rw [take_next ns h0 h1, List.foldl_append]; rfl
theorem fill_at {ps : List Int} {n i : Nat} (v : Int) (h : ps.length = i) (hi : i < n) : (ps ++ List.replicate (n - i) 0).set i v = ps ++ [v] ++ List.replicate (n - (i + 1)) 0 := by
  subst h
  rw [List.set_append_right _ _ (Nat.le_refl _), Nat.sub_self, List.append_assoc]
  congr 1
  rw [show n - ps.length = (n - (ps.length + 1)) + 1 by omega, List.replicate_succ]
  rfl
theorem sumP_congr {a b : List Int} {ks : List Int} (h : ∀ k ∈ ks, at_ a k = at_ b k) (s : Int) : sumP a s ks = sumP b s ks := by
  unfold sumP
  induction ks generalizing s with
  | nil => rfl
  | cons k ks ih =>
    rw [List.foldl_cons, List.foldl_cons, show addP a s k = addP b s k by unfold addP; rw [h k (by simp)]]
    exact ih (fun j hj => h j (List.mem_cons_of_mem _ hj)) _
theorem sumP_next (a : List Int) (s : Int) (ks : List Int) {i : Int} (h0 : 0 ≤ i) (h1 : i < (ks.length : Int)) : sumP a s (ks.take (i + 1).toNat) = capP (sumP a s (ks.take i.toNat) + at_ a (at_ ks i)) := by
  unfold sumP; rw [take_next ks h0 h1, List.foldl_append]; rfl
theorem set_same {xs : List Int} {i : Int} (h0 : 0 ≤ i) (h1 : i < (xs.length : Int)) : xs.set i.toNat (at_ xs i) = xs := by
  apply List.ext_getElem?
  intro j
  rw [List.getElem?_set]
  by_cases e : i.toNat = j
  · subst e
    rw [if_pos rfl, if_pos (by omega), at_some h0 h1]
  · rw [if_neg e]
theorem at_set_ne {xs : List Int} {i k v : Int} (h0 : 0 ≤ i) (hk : 0 ≤ k) (hne : k ≠ i) : at_ (xs.set i.toNat v) k = at_ xs k := by
  unfold at_
  rw [List.getD_eq_getElem?_getD, List.getD_eq_getElem?_getD, List.getElem?_set_ne (by omega)]
theorem at_set_eq {xs : List Int} {i v : Int} (h0 : 0 ≤ i) (h1 : i < (xs.length : Int)) : at_ (xs.set i.toNat v) i = v := by
  unfold at_
  rw [List.getD_eq_getElem?_getD, List.getElem?_set_self (by omega)]; rfl
theorem fill_zero {ps : List Int} {n : Nat} {i : Int} (h0 : 0 ≤ i) (h : ps.length = i.toNat) (hi : i < (n : Int)) : at_ (ps ++ List.replicate (n - i.toNat) 0) i = 0 := by
  unfold at_
  rw [List.getD_eq_getElem?_getD, List.getElem?_append_right (by omega), h, Nat.sub_self, List.getElem?_replicate, if_pos (by omega)]; rfl
theorem topped_set {us : List Int} {b v : Int} {i : Nat} (h : topped us b) (h0 : 0 ≤ v) (h1 : v ≤ b) : topped (us.set i v) b := fun x hx => by
  rcases List.mem_or_eq_of_mem_set hx with e | e
  · exact h x e
  · rw [e]; exact ⟨h0, h1⟩
theorem one_b (n : NodeM) : 0 ≤ oneP n ∧ oneP n ≤ 1 := by unfold oneP; split <;> omega
theorem pl_add {xs3 xs4 bl : List Int} {n2 n5 : Int} (h12 : xs4 = xs3.set n2.toNat (sumP xs3 (at_ xs3 n2) (bl.take n5.toNat))) (h0 : 0 ≤ n2) (h1 : n2 < (xs3.length : Int)) (h13 : 0 ≤ n5) (h18 : n5 < (bl.length : Int)) (hk : 0 ≤ at_ bl n5 ∧ at_ bl n5 < n2) :
    xs4.set n2.toNat (min (at_ xs4 n2 + at_ xs4 (at_ bl n5)) 1073741824) = xs3.set n2.toNat (sumP xs3 (at_ xs3 n2) (bl.take (n5 + 1).toNat)) := by
  rw [sumP_next _ _ _ h13 h18, h12, List.set_set, at_set_eq h0 h1, at_set_ne h0 hk.1 (by omega)]; rfl
theorem pl_step {ns : List NodeM} {xs1 xs3 xs4 : List Int} {n2 n5 : Int} {v : Int} (h3 : 0 ≤ n2) (h8 : n2 < (ns.length : Int)) (eP : (plL (ns.take n2.toNat)).length = n2.toNat) (h2 : xs1 = plL (ns.take n2.toNat) ++ List.replicate (ns.length - n2.toNat) 0) (h10 : xs3 = xs1.set n2.toNat (oneP (at_ ns n2)))
    (h12 : xs4 = xs3.set n2.toNat (sumP xs3 (at_ xs3 n2) ((belowN (at_ ns n2)).take n5.toNat))) (h5 : ¬ n5 < ((belowN (at_ ns n2)).length : Int)) (hk : ∀ k ∈ belowN (at_ ns n2), 0 ≤ k ∧ k < n2) (hv : v = mulP (at_ ns n2) (at_ xs4 n2)) :
    xs4.set n2.toNat v = plL (ns.take (n2 + 1).toNat) ++ List.replicate (ns.length - (n2 + 1).toNat) 0 := by
  have eL : xs1.length = ns.length := by rw [h2, List.length_append, eP, List.length_replicate]; omega
  have e3 : xs3.length = ns.length := by rw [h10, List.length_set, eL]
  have a3 : at_ xs3 n2 = oneP (at_ ns n2) := by rw [h10]; exact at_set_eq h3 (by omega)
  have a4 : at_ xs4 n2 = sumP (plL (ns.take n2.toNat)) (oneP (at_ ns n2)) (belowN (at_ ns n2)) := by
    rw [h12, at_set_eq h3 (by omega), a3, List.take_of_length_le (by omega)]
    refine sumP_congr (fun k hk' => ?_) _
    have := hk k hk'
    rw [h10, at_set_ne h3 this.1 (by omega), h2]
    exact at_app1 _ _ this.1 (by omega)
  have e : xs4.set n2.toNat v = xs1.set n2.toNat v := by rw [h12, h10, List.set_set, List.set_set]
  rw [e, plL_next ns h3 h8, h2, fill_at v eP (by omega), hv, a4, show (n2 + 1).toNat = n2.toNat + 1 by omega]
  rfl
end Gx
namespace Gx
open Go Go.RowKit
set_option linter.unusedSimpArgs false
set_option linter.unusedVariables false
@[grind =] theorem g_i64 (x : Int) : inK .i64 x ↔ -9223372036854775808 ≤ x ∧ x ≤ 9223372036854775807 := ⟨fun h => ⟨(b_i64 h).1, (b_i64 h).2⟩, fun h => in_i64 h.1 h.2⟩
@[grind =] theorem g_at {α : Type} [Inhabited α] (xs : List α) (i : Int) : at_ xs i = xs.getD i.toNat default := rfl
attribute [grind =] bump_len bumps_len usesN_len plL_len joins_len
end Gx
namespace Go.Proofs.YtgobbgpmdfnfhaaDoor
open Go Go.RowKit Gx
set_option linter.unusedVariables false
set_option linter.unusedSimpArgs false
set_option maxRecDepth 8000
noncomputable def con_places : Con σF where
  args := [.fl 10]
  items := []
  res := .int .i64
  pre := fun ads ids => match ads, ids with
    | [.fl 10 t], [] => []
    | _, _ => []
  fact := fun ads ids => match ads, ids with
    | [.fl 10 t], [] => []
    | _, _ => []
  spec := fun ads ids => match ads, ids with
    | [.fl 10 t], [] => some (.int .i64 (placesV t), [])
    | _, _ => none
noncomputable def lh_places_5 (ads ids : List SF) : LoopH σF where
  slots := [21]
  shs := [.int .i64]
  drop := [4, 5, 7, 22, 23, 24, 25, 26, 27, 28, 29, 30, 31, 32, 33, 34, 35, 36, 37, 38, 39, 40, 41, 42, 43, 44, 45, 46, 47, 48, 49, 50, 51, 52, 53, 54, 55, 56, 57, 58, 59, 60, 61, 62, 63, 64, 65, 66, 67, 68, 69, 70, 71, 72]
  ns := []
  its := [.row 3 0]
  see := []
  inv := fun see c0 cs => match ads, ids, see, c0, cs with
    | [.fl 10 t], [], _, _, [.rs 0 us, .int _ i] => [us = plL ((TreeM.nodes t).take i.toNat) ++ List.replicate ((TreeM.nodes t).length - i.toNat) 0, 0 ≤ i, i ≤ (TreeM.nodes t).length, topped us 1073741824]
    | _, _, _, _, _ => []
  meas := fun see c0 cs => match ads, ids, see, c0, cs with
    | [.fl 10 t], [], _, _, [.rs 0 us, .int _ i] => (TreeM.nodes t).length - i.toNat
    | _, _, _, _, _ => 0
  nsl := [3]
noncomputable def lh_places_10 (ads ids : List SF) : LoopH σF where
  slots := [35]
  shs := [.int .i64]
  drop := [7, 36, 37, 38, 39, 40, 41, 42, 43, 44, 45, 46, 47, 48, 49, 50, 51, 52]
  ns := []
  its := [.row 3 0]
  see := [21, 33]
  inv := fun see c0 cs => match ads, ids, see, c0, cs with
    | [.fl 10 t], [], [.int _ i, .rs 0 bl], [.rs 0 vs, _], [.rs 0 us, .int _ j] => [us = vs.set i.toNat (sumP vs (at_ vs i) (bl.take j.toNat)), 0 ≤ j, j ≤ bl.length, topped us 1073741824]
    | _, _, _, _, _ => []
  meas := fun see c0 cs => match ads, ids, see, c0, cs with
    | [.fl 10 t], [], [.int _ i, .rs 0 bl], [.rs 0 vs, _], [.rs 0 us, .int _ j] => bl.length - j.toNat
    | _, _, _, _, _ => 0
  nsl := [3]
noncomputable def lh_places_19 (ads ids : List SF) : LoopH σF where
  slots := [8, 76]
  shs := [.int .i64, .int .i64]
  drop := [10, 77, 78, 79, 80, 81, 82, 83, 84, 85, 86, 87, 88]
  ns := []
  its := []
  see := [3]
  inv := fun see c0 cs => match ads, ids, see, c0, cs with
    | [.fl 10 t], [], [.rs 0 pl], _, [.int _ s, .int _ i] => [s = sumP pl 0 (((TreeM.parts t).map PrtM.root).take i.toNat), 0 ≤ i, i ≤ (TreeM.parts t).length, 0 ≤ s, s ≤ 1073741824]
    | _, _, _, _, _ => []
  meas := fun see c0 cs => match ads, ids, see, c0, cs with
    | [.fl 10 t], [], [.rs 0 pl], _, [.int _ s, .int _ i] => (TreeM.parts t).length - i.toNat
    | _, _, _, _, _ => 0
  nsl := []
noncomputable def jh_places_8 (ads ids : List SF) : LoopH σF where
  slots := []
  shs := []
  drop := [29, 30, 31]
  ns := []
  its := [.row 3 0]
  see := [3, 21, 5]
  inv := fun see c0 cs => match ads, ids, see, c0, cs with
    | [.fl 10 t], [], [.rs 0 vs, .int _ i, .agg [.fl 8 n]], _, [.rs 0 us] => [us = vs.set i.toNat (oneP n)]
    | _, _, _, _, _ => []
  meas := fun see c0 cs => match ads, ids, see, c0, cs with
    | [.fl 10 t], [], [.rs 0 vs, .int _ i, .agg [.fl 8 n]], _, [.rs 0 us] => 0
    | _, _, _, _, _ => 0
  nsl := [3]
noncomputable def hn_places (ads ids : List SF) : Hn σF := ⟨fun t => memB t [], fun t => memB t [], fun i => cond (Nat.beq i 5) (some (lh_places_5 ads ids)) (cond (Nat.beq i 10) (some (lh_places_10 ads ids)) (cond (Nat.beq i 19) (some (lh_places_19 ads ids)) (none))), fun i => cond (Nat.beq i 8) (some (jh_places_8 ads ids)) (none)⟩
noncomputable def cs_places (ads ids : List SF) : List (Nat × Con σF) := [(34, con_right), (48, con_below)]
noncomputable def vt_places : VT := vcF XC (fun ads ids g => lookC g (cs_places ads ids)) hn_places 200 Tryd.f35 con_places
theorem vc_places : ∀ (v0 : TreeM), True ∧ (wt10 v0 → bif !rightB v0 then (0 : Int) = placesV v0 ∧ True else (↑(List.length (TreeM.nodes v0)) : Int) = (↑(List.length (TreeM.nodes v0)) : Int) ∧ (0 : Int) ≤ (↑(List.length (TreeM.nodes v0)) : Int) ∧ (8 : Int) * (↑(List.length (TreeM.nodes v0)) : Int) ≤ (281474976710656 : Int) ∧ (↑(List.length (TreeM.nodes v0)) : Int) ≤ (9223372036854775807 : Int) ∧ List.replicate (Int.toNat (↑(List.length (TreeM.nodes v0)) : Int)) (0 : Int) = plL (List.take (Int.toNat (0 : Int)) (TreeM.nodes v0)) ++ List.replicate (List.length (TreeM.nodes v0) - Int.toNat (0 : Int)) (0 : Int) ∧ (0 : Int) ≤ (0 : Int) ∧ (0 : Int) ≤ (↑(List.length (TreeM.nodes v0)) : Int) ∧ topped (List.replicate (Int.toNat (↑(List.length (TreeM.nodes v0)) : Int)) (0 : Int)) (1073741824 : Int) ∧ ∀ (xs1 : List Int) (n2 : Int), xs1 = plL (List.take (Int.toNat n2) (TreeM.nodes v0)) ++ List.replicate (List.length (TreeM.nodes v0) - Int.toNat n2) (0 : Int) → (0 : Int) ≤ n2 → n2 ≤ (↑(List.length (TreeM.nodes v0)) : Int) → topped xs1 (1073741824 : Int) → wtLs (fun (x : Int) => inK .i64 x) xs1 → inK .i64 n2 → bif decide (n2 < (↑(List.length (TreeM.nodes v0)) : Int)) then (0 : Int) ≤ n2 ∧ n2 < (↑(List.length (TreeM.nodes v0)) : Int) ∧ (bif decide (NodeM.kd (at_ (TreeM.nodes v0) n2) = (2 : Int)) then (0 : Int) ≤ n2 ∧ n2 < (↑(List.length xs1) : Int) ∧ List.set xs1 (Int.toNat n2) (1 : Int) = List.set xs1 (Int.toNat n2) (oneP (at_ (TreeM.nodes v0) n2)) ∧ True else xs1 = List.set xs1 (Int.toNat n2) (oneP (at_ (TreeM.nodes v0) n2)) ∧ True) ∧ ∀ (xs3 : List Int), xs3 = List.set xs1 (Int.toNat n2) (oneP (at_ (TreeM.nodes v0) n2)) → wtLs (fun (x : Int) => inK .i64 x) xs3 → xs3 = List.set xs3 (Int.toNat n2) (sumP xs3 (at_ xs3 n2) (List.take (Int.toNat (0 : Int)) (belowN (at_ (TreeM.nodes v0) n2)))) ∧ (0 : Int) ≤ (0 : Int) ∧ (0 : Int) ≤ (↑(List.length (belowN (at_ (TreeM.nodes v0) n2))) : Int) ∧ topped xs3 (1073741824 : Int) ∧ ∀ (xs4 : List Int) (n5 : Int), xs4 = List.set xs3 (Int.toNat n2) (sumP xs3 (at_ xs3 n2) (List.take (Int.toNat n5) (belowN (at_ (TreeM.nodes v0) n2)))) → (0 : Int) ≤ n5 → n5 ≤ (↑(List.length (belowN (at_ (TreeM.nodes v0) n2))) : Int) → topped xs4 (1073741824 : Int) → wtLs (fun (x : Int) => inK .i64 x) xs4 → inK .i64 n5 → bif decide (n5 < (↑(List.length (belowN (at_ (TreeM.nodes v0) n2))) : Int)) then (0 : Int) ≤ n5 ∧ n5 < (↑(List.length (belowN (at_ (TreeM.nodes v0) n2))) : Int) ∧ (0 : Int) ≤ n2 ∧ n2 < (↑(List.length xs4) : Int) ∧ (0 : Int) ≤ at_ (belowN (at_ (TreeM.nodes v0) n2)) n5 ∧ at_ (belowN (at_ (TreeM.nodes v0) n2)) n5 < (↑(List.length xs4) : Int) ∧ inK .i64 (at_ xs4 n2 + at_ xs4 (at_ (belowN (at_ (TreeM.nodes v0) n2)) n5)) ∧ (0 : Int) ≤ n2 ∧ n2 < (↑(List.length xs4) : Int) ∧ inK .i64 (n5 + (1 : Int)) ∧ List.set xs4 (Int.toNat n2) (min (at_ xs4 n2 + at_ xs4 (at_ (belowN (at_ (TreeM.nodes v0) n2)) n5)) (1073741824 : Int)) = List.set xs3 (Int.toNat n2) (sumP xs3 (at_ xs3 n2) (List.take (Int.toNat (n5 + (1 : Int))) (belowN (at_ (TreeM.nodes v0) n2)))) ∧ (0 : Int) ≤ n5 + (1 : Int) ∧ n5 + (1 : Int) ≤ (↑(List.length (belowN (at_ (TreeM.nodes v0) n2))) : Int) ∧ topped (List.set xs4 (Int.toNat n2) (min (at_ xs4 n2 + at_ xs4 (at_ (belowN (at_ (TreeM.nodes v0) n2)) n5)) (1073741824 : Int))) (1073741824 : Int) ∧ List.length (belowN (at_ (TreeM.nodes v0) n2)) - Int.toNat (n5 + (1 : Int)) < List.length (belowN (at_ (TreeM.nodes v0) n2)) - Int.toNat n5 ∧ True else bif decide (NodeM.kd (at_ (TreeM.nodes v0) n2) = (5 : Int)) then bif decide ((0 : Int) ≤ NodeM.mx (at_ (TreeM.nodes v0) n2)) then (0 : Int) ≤ n2 ∧ n2 < (↑(List.length xs4) : Int) ∧ inK .i64 (at_ xs4 n2 * NodeM.mx (at_ (TreeM.nodes v0) n2)) ∧ (0 : Int) ≤ n2 ∧ n2 < (↑(List.length xs4) : Int) ∧ inK .i64 (n2 + (1 : Int)) ∧ List.set xs4 (Int.toNat n2) (min (at_ xs4 n2 * NodeM.mx (at_ (TreeM.nodes v0) n2)) (1073741824 : Int)) = plL (List.take (Int.toNat (n2 + (1 : Int))) (TreeM.nodes v0)) ++ List.replicate (List.length (TreeM.nodes v0) - Int.toNat (n2 + (1 : Int))) (0 : Int) ∧ (0 : Int) ≤ n2 + (1 : Int) ∧ n2 + (1 : Int) ≤ (↑(List.length (TreeM.nodes v0)) : Int) ∧ topped (List.set xs4 (Int.toNat n2) (min (at_ xs4 n2 * NodeM.mx (at_ (TreeM.nodes v0) n2)) (1073741824 : Int))) (1073741824 : Int) ∧ List.length (TreeM.nodes v0) - Int.toNat (n2 + (1 : Int)) < List.length (TreeM.nodes v0) - Int.toNat n2 ∧ True else inK .i64 (n2 + (1 : Int)) ∧ xs4 = plL (List.take (Int.toNat (n2 + (1 : Int))) (TreeM.nodes v0)) ++ List.replicate (List.length (TreeM.nodes v0) - Int.toNat (n2 + (1 : Int))) (0 : Int) ∧ (0 : Int) ≤ n2 + (1 : Int) ∧ n2 + (1 : Int) ≤ (↑(List.length (TreeM.nodes v0)) : Int) ∧ topped xs4 (1073741824 : Int) ∧ List.length (TreeM.nodes v0) - Int.toNat (n2 + (1 : Int)) < List.length (TreeM.nodes v0) - Int.toNat n2 ∧ True else inK .i64 (n2 + (1 : Int)) ∧ xs4 = plL (List.take (Int.toNat (n2 + (1 : Int))) (TreeM.nodes v0)) ++ List.replicate (List.length (TreeM.nodes v0) - Int.toNat (n2 + (1 : Int))) (0 : Int) ∧ (0 : Int) ≤ n2 + (1 : Int) ∧ n2 + (1 : Int) ≤ (↑(List.length (TreeM.nodes v0)) : Int) ∧ topped xs4 (1073741824 : Int) ∧ List.length (TreeM.nodes v0) - Int.toNat (n2 + (1 : Int)) < List.length (TreeM.nodes v0) - Int.toNat n2 ∧ True else (0 : Int) = sumP xs1 (0 : Int) (List.take (Int.toNat (0 : Int)) (List.map PrtM.root (TreeM.parts v0))) ∧ (0 : Int) ≤ (0 : Int) ∧ (0 : Int) ≤ (↑(List.length (TreeM.parts v0)) : Int) ∧ (0 : Int) ≤ (0 : Int) ∧ (0 : Int) ≤ (1073741824 : Int) ∧ ∀ (n6 n7 : Int), n6 = sumP xs1 (0 : Int) (List.take (Int.toNat n7) (List.map PrtM.root (TreeM.parts v0))) → (0 : Int) ≤ n7 → n7 ≤ (↑(List.length (TreeM.parts v0)) : Int) → (0 : Int) ≤ n6 → n6 ≤ (1073741824 : Int) → inK .i64 n6 → inK .i64 n7 → bif decide (n7 < (↑(List.length (TreeM.parts v0)) : Int)) then (0 : Int) ≤ n7 ∧ n7 < (↑(List.length (TreeM.parts v0)) : Int) ∧ (0 : Int) ≤ PrtM.root (at_ (TreeM.parts v0) n7) ∧ PrtM.root (at_ (TreeM.parts v0) n7) < (↑(List.length xs1) : Int) ∧ inK .i64 (n6 + at_ xs1 (PrtM.root (at_ (TreeM.parts v0) n7))) ∧ inK .i64 (n7 + (1 : Int)) ∧ min (n6 + at_ xs1 (PrtM.root (at_ (TreeM.parts v0) n7))) (1073741824 : Int) = sumP xs1 (0 : Int) (List.take (Int.toNat (n7 + (1 : Int))) (List.map PrtM.root (TreeM.parts v0))) ∧ (0 : Int) ≤ n7 + (1 : Int) ∧ n7 + (1 : Int) ≤ (↑(List.length (TreeM.parts v0)) : Int) ∧ (0 : Int) ≤ min (n6 + at_ xs1 (PrtM.root (at_ (TreeM.parts v0) n7))) (1073741824 : Int) ∧ min (n6 + at_ xs1 (PrtM.root (at_ (TreeM.parts v0) n7))) (1073741824 : Int) ≤ (1073741824 : Int) ∧ List.length (TreeM.parts v0) - Int.toNat (n7 + (1 : Int)) < List.length (TreeM.parts v0) - Int.toNat n7 ∧ True else n6 = placesV v0 ∧ True) :=
 fun v0 => ⟨trivial,
 fun h0 => condNb (fun h1 => ⟨(by unfold placesV; rw [h1]; rfl),
 trivial⟩) (fun h1 => ⟨(by rfl), ⟨(by omega), ⟨(by have := (rightT_iff.1 h1).n600; omega), ⟨(by have := (rightT_iff.1 h1).n600; omega), ⟨(by simp [plL]), ⟨(by omega), ⟨(by have := (rightT_iff.1 h1).n600; omega), ⟨(by exact topped_mono (top_zero _) (by omega)),
 fun xs1 => fun n2 => fun h2 => fun h3 => fun h4 => fun h5 => fun h6 => have k6 := b_len h6; fun h7 => have k7 := b_i64 h7; condD (fun h8 => ⟨(by assumption), ⟨(by assumption), ⟨condD (fun h9 => ⟨(by assumption), ⟨(by have R := rightT_iff.1 h1; have eP : (plL ((TreeM.nodes v0).take n2.toNat)).length = n2.toNat := (by rw [plL_len, List.length_take]; omega); have eL : xs1.length = (TreeM.nodes v0).length := (by rw [h2, List.length_append, eP, List.length_replicate]; omega); omega), ⟨(by unfold oneP; rw [if_pos h9]),
 trivial⟩⟩⟩) (fun h9 => ⟨(by have R := rightT_iff.1 h1; have eP : (plL ((TreeM.nodes v0).take n2.toNat)).length = n2.toNat := (by rw [plL_len, List.length_take]; omega); have eL : xs1.length = (TreeM.nodes v0).length := (by rw [h2, List.length_append, eP, List.length_replicate]; omega); have z : at_ xs1 n2 = 0 := (by rw [h2]; exact fill_zero h3 eP h8); unfold oneP; rw [if_neg h9, ← z]; exact (set_same h3 (by omega)).symm),
 trivial⟩),
 fun xs3 => fun h10 => fun h11 => have k11 := b_len h11; ⟨(by have R := rightT_iff.1 h1; have eP : (plL ((TreeM.nodes v0).take n2.toNat)).length = n2.toNat := (by rw [plL_len, List.length_take]; omega); have eL : xs1.length = (TreeM.nodes v0).length := (by rw [h2, List.length_append, eP, List.length_replicate]; omega); have e3 : xs3.length = (TreeM.nodes v0).length := (by rw [h10, List.length_set, eL]); exact (set_same h3 (by omega)).symm), ⟨(by omega), ⟨(by omega), ⟨(by have R := rightT_iff.1 h1; have eP : (plL ((TreeM.nodes v0).take n2.toNat)).length = n2.toNat := (by rw [plL_len, List.length_take]; omega); have eL : xs1.length = (TreeM.nodes v0).length := (by rw [h2, List.length_append, eP, List.length_replicate]; omega); have e3 : xs3.length = (TreeM.nodes v0).length := (by rw [h10, List.length_set, eL]); rw [h10]; have := one_b (at_ (TreeM.nodes v0) n2); exact topped_set h5 this.1 (by omega)),
 fun xs4 => fun n5 => fun h12 => fun h13 => fun h14 => fun h15 => fun h16 => have k16 := b_len h16; fun h17 => have k17 := b_i64 h17; condD (fun h18 => ⟨(by assumption), ⟨(by assumption), ⟨(by assumption), ⟨(by have R := rightT_iff.1 h1; have eP : (plL ((TreeM.nodes v0).take n2.toNat)).length = n2.toNat := (by rw [plL_len, List.length_take]; omega); have eL : xs1.length = (TreeM.nodes v0).length := (by rw [h2, List.length_append, eP, List.length_replicate]; omega); have e3 : xs3.length = (TreeM.nodes v0).length := (by rw [h10, List.length_set, eL]); have e4 : xs4.length = (TreeM.nodes v0).length := (by rw [h12, List.length_set, e3]); omega), ⟨(by have R := rightT_iff.1 h1; have eP : (plL ((TreeM.nodes v0).take n2.toNat)).length = n2.toNat := (by rw [plL_len, List.length_take]; omega); have eL : xs1.length = (TreeM.nodes v0).length := (by rw [h2, List.length_append, eP, List.length_replicate]; omega); have e3 : xs3.length = (TreeM.nodes v0).length := (by rw [h10, List.length_set, eL]); have e4 : xs4.length = (TreeM.nodes v0).length := (by rw [h12, List.length_set, e3]); have hk := back_at R.back h3 h8 (at_mem_ h13 h18); omega), ⟨(by have R := rightT_iff.1 h1; have eP : (plL ((TreeM.nodes v0).take n2.toNat)).length = n2.toNat := (by rw [plL_len, List.length_take]; omega); have eL : xs1.length = (TreeM.nodes v0).length := (by rw [h2, List.length_append, eP, List.length_replicate]; omega); have e3 : xs3.length = (TreeM.nodes v0).length := (by rw [h10, List.length_set, eL]); have e4 : xs4.length = (TreeM.nodes v0).length := (by rw [h12, List.length_set, e3]); have hk := back_at R.back h3 h8 (at_mem_ h13 h18); omega), ⟨(by have R := rightT_iff.1 h1; have eP : (plL ((TreeM.nodes v0).take n2.toNat)).length = n2.toNat := (by rw [plL_len, List.length_take]; omega); have eL : xs1.length = (TreeM.nodes v0).length := (by rw [h2, List.length_append, eP, List.length_replicate]; omega); have e3 : xs3.length = (TreeM.nodes v0).length := (by rw [h10, List.length_set, eL]); have e4 : xs4.length = (TreeM.nodes v0).length := (by rw [h12, List.length_set, e3]); have hk := back_at R.back h3 h8 (at_mem_ h13 h18); have a := topped_at h15 h3 (by omega); have b := topped_at h15 hk.1 (by omega); exact in_i64 (by omega) (by omega)), ⟨(by assumption), ⟨(by have R := rightT_iff.1 h1; have eP : (plL ((TreeM.nodes v0).take n2.toNat)).length = n2.toNat := (by rw [plL_len, List.length_take]; omega); have eL : xs1.length = (TreeM.nodes v0).length := (by rw [h2, List.length_append, eP, List.length_replicate]; omega); have e3 : xs3.length = (TreeM.nodes v0).length := (by rw [h10, List.length_set, eL]); have e4 : xs4.length = (TreeM.nodes v0).length := (by rw [h12, List.length_set, e3]); omega), ⟨(by have bl := below_len (at_ (TreeM.nodes v0) n2); exact in_i64 (by omega) (by omega)), ⟨(by have R := rightT_iff.1 h1; have eP : (plL ((TreeM.nodes v0).take n2.toNat)).length = n2.toNat := (by rw [plL_len, List.length_take]; omega); have eL : xs1.length = (TreeM.nodes v0).length := (by rw [h2, List.length_append, eP, List.length_replicate]; omega); have e3 : xs3.length = (TreeM.nodes v0).length := (by rw [h10, List.length_set, eL]); have e4 : xs4.length = (TreeM.nodes v0).length := (by rw [h12, List.length_set, e3]); have hk := back_at R.back h3 h8 (at_mem_ h13 h18); exact pl_add h12 h3 (by omega) h13 h18 hk), ⟨(by omega), ⟨(by assumption), ⟨(by have R := rightT_iff.1 h1; have eP : (plL ((TreeM.nodes v0).take n2.toNat)).length = n2.toNat := (by rw [plL_len, List.length_take]; omega); have eL : xs1.length = (TreeM.nodes v0).length := (by rw [h2, List.length_append, eP, List.length_replicate]; omega); have e3 : xs3.length = (TreeM.nodes v0).length := (by rw [h10, List.length_set, eL]); have e4 : xs4.length = (TreeM.nodes v0).length := (by rw [h12, List.length_set, e3]); have hk := back_at R.back h3 h8 (at_mem_ h13 h18); have a := topped_at h15 h3 (by omega); have b := topped_at h15 hk.1 (by omega); exact topped_set h15 (by omega) (by omega)), ⟨(by omega),
 trivial⟩⟩⟩⟩⟩⟩⟩⟩⟩⟩⟩⟩⟩⟩⟩) (fun h18 => condD (fun h19 => condD (fun h20 => ⟨(by assumption), ⟨(by have R := rightT_iff.1 h1; have eP : (plL ((TreeM.nodes v0).take n2.toNat)).length = n2.toNat := (by rw [plL_len, List.length_take]; omega); have eL : xs1.length = (TreeM.nodes v0).length := (by rw [h2, List.length_append, eP, List.length_replicate]; omega); have e3 : xs3.length = (TreeM.nodes v0).length := (by rw [h10, List.length_set, eL]); have e4 : xs4.length = (TreeM.nodes v0).length := (by rw [h12, List.length_set, e3]); omega), ⟨(by have R := rightT_iff.1 h1; have eP : (plL ((TreeM.nodes v0).take n2.toNat)).length = n2.toNat := (by rw [plL_len, List.length_take]; omega); have eL : xs1.length = (TreeM.nodes v0).length := (by rw [h2, List.length_append, eP, List.length_replicate]; omega); have e3 : xs3.length = (TreeM.nodes v0).length := (by rw [h10, List.length_set, eL]); have e4 : xs4.length = (TreeM.nodes v0).length := (by rw [h12, List.length_set, e3]); have tp := topped_at h15 h3 (by omega); have mm := ((may_eq _).1 (R.may _ (at_mem_ h3 h8))).2.2.2; rw [if_neg (by omega)] at mm; have q1 := Int.mul_le_mul tp.2 (show NodeM.mx (at_ (TreeM.nodes v0) n2) ≤ 9 by omega) h20 (by omega); have q0 := Int.mul_nonneg tp.1 h20; exact in_i64 (by omega) (by omega)), ⟨(by assumption), ⟨(by have R := rightT_iff.1 h1; have eP : (plL ((TreeM.nodes v0).take n2.toNat)).length = n2.toNat := (by rw [plL_len, List.length_take]; omega); have eL : xs1.length = (TreeM.nodes v0).length := (by rw [h2, List.length_append, eP, List.length_replicate]; omega); have e3 : xs3.length = (TreeM.nodes v0).length := (by rw [h10, List.length_set, eL]); have e4 : xs4.length = (TreeM.nodes v0).length := (by rw [h12, List.length_set, e3]); omega), ⟨(by grind), ⟨(by have R := rightT_iff.1 h1; have eP : (plL ((TreeM.nodes v0).take n2.toNat)).length = n2.toNat := (by rw [plL_len, List.length_take]; omega); have eL : xs1.length = (TreeM.nodes v0).length := (by rw [h2, List.length_append, eP, List.length_replicate]; omega); have e3 : xs3.length = (TreeM.nodes v0).length := (by rw [h10, List.length_set, eL]); have e4 : xs4.length = (TreeM.nodes v0).length := (by rw [h12, List.length_set, e3]); have bk : ∀ k ∈ belowN (at_ (TreeM.nodes v0) n2), 0 ≤ k ∧ k < n2 := fun k hk => back_at R.back h3 h8 hk; exact pl_step h3 h8 eP h2 h10 h12 h18 bk (by unfold mulP; rw [if_pos ⟨h19, h20⟩]; rfl)), ⟨(by omega), ⟨(by assumption), ⟨(by have R := rightT_iff.1 h1; have eP : (plL ((TreeM.nodes v0).take n2.toNat)).length = n2.toNat := (by rw [plL_len, List.length_take]; omega); have eL : xs1.length = (TreeM.nodes v0).length := (by rw [h2, List.length_append, eP, List.length_replicate]; omega); have e3 : xs3.length = (TreeM.nodes v0).length := (by rw [h10, List.length_set, eL]); have e4 : xs4.length = (TreeM.nodes v0).length := (by rw [h12, List.length_set, e3]); have tp := topped_at h15 h3 (by omega); have mm := ((may_eq _).1 (R.may _ (at_mem_ h3 h8))).2.2.2; rw [if_neg (by omega)] at mm; have q1 := Int.mul_le_mul tp.2 (show NodeM.mx (at_ (TreeM.nodes v0) n2) ≤ 9 by omega) h20 (by omega); have q0 := Int.mul_nonneg tp.1 h20; exact topped_set h15 (by omega) (by omega)), ⟨(by omega),
 trivial⟩⟩⟩⟩⟩⟩⟩⟩⟩⟩⟩) (fun h20 => ⟨(by grind), ⟨(by have R := rightT_iff.1 h1; have eP : (plL ((TreeM.nodes v0).take n2.toNat)).length = n2.toNat := (by rw [plL_len, List.length_take]; omega); have eL : xs1.length = (TreeM.nodes v0).length := (by rw [h2, List.length_append, eP, List.length_replicate]; omega); have e3 : xs3.length = (TreeM.nodes v0).length := (by rw [h10, List.length_set, eL]); have e4 : xs4.length = (TreeM.nodes v0).length := (by rw [h12, List.length_set, e3]); have bk : ∀ k ∈ belowN (at_ (TreeM.nodes v0) n2), 0 ≤ k ∧ k < n2 := fun k hk => back_at R.back h3 h8 hk; have e := pl_step h3 h8 eP h2 h10 h12 h18 bk (v := at_ xs4 n2) (by unfold mulP; rw [if_neg (by omega)]); rwa [set_same h3 (by omega)] at e), ⟨(by omega), ⟨(by assumption), ⟨(by assumption), ⟨(by omega),
 trivial⟩⟩⟩⟩⟩⟩)) (fun h19 => ⟨(by grind), ⟨(by have R := rightT_iff.1 h1; have eP : (plL ((TreeM.nodes v0).take n2.toNat)).length = n2.toNat := (by rw [plL_len, List.length_take]; omega); have eL : xs1.length = (TreeM.nodes v0).length := (by rw [h2, List.length_append, eP, List.length_replicate]; omega); have e3 : xs3.length = (TreeM.nodes v0).length := (by rw [h10, List.length_set, eL]); have e4 : xs4.length = (TreeM.nodes v0).length := (by rw [h12, List.length_set, e3]); have bk : ∀ k ∈ belowN (at_ (TreeM.nodes v0) n2), 0 ≤ k ∧ k < n2 := fun k hk => back_at R.back h3 h8 hk; have e := pl_step h3 h8 eP h2 h10 h12 h18 bk (v := at_ xs4 n2) (by unfold mulP; rw [if_neg (by omega)]); rwa [set_same h3 (by omega)] at e), ⟨(by omega), ⟨(by assumption), ⟨(by assumption), ⟨(by omega),
 trivial⟩⟩⟩⟩⟩⟩))⟩⟩⟩⟩⟩⟩⟩) (fun h8 => ⟨(by rfl), ⟨(by omega), ⟨(by omega), ⟨(by omega), ⟨(by omega),
 fun n6 => fun n7 => fun h21 => fun h22 => fun h23 => fun h24 => fun h25 => fun h26 => have k26 := b_i64 h26; fun h27 => have k27 := b_i64 h27; condD (fun h28 => ⟨(by assumption), ⟨(by assumption), ⟨(by have R := rightT_iff.1 h1; have rr := R.roots _ (at_mem_ h22 h28); have L1 : xs1.length = (TreeM.nodes v0).length := (by grind); have tp := topped_at h5 rr.1 (by omega); omega), ⟨(by have R := rightT_iff.1 h1; have rr := R.roots _ (at_mem_ h22 h28); have L1 : xs1.length = (TreeM.nodes v0).length := (by grind); have tp := topped_at h5 rr.1 (by omega); omega), ⟨(by have R := rightT_iff.1 h1; have rr := R.roots _ (at_mem_ h22 h28); have L1 : xs1.length = (TreeM.nodes v0).length := (by grind); have tp := topped_at h5 rr.1 (by omega); exact in_i64 (by omega) (by omega)), ⟨(by have := (rightT_iff.1 h1).p20; exact in_i64 (by omega) (by omega)), ⟨(by have hl : n7 < ((List.map PrtM.root (TreeM.parts v0)).length : Int) := (by rw [List.length_map]; exact h28); rw [sumP_next _ _ _ h22 hl, ← h21, at_map PrtM.root _ h22 h28]; rfl), ⟨(by omega), ⟨(by assumption), ⟨(by have R := rightT_iff.1 h1; have rr := R.roots _ (at_mem_ h22 h28); have L1 : xs1.length = (TreeM.nodes v0).length := (by grind); have tp := topped_at h5 rr.1 (by omega); omega), ⟨(by omega), ⟨(by omega),
 trivial⟩⟩⟩⟩⟩⟩⟩⟩⟩⟩⟩⟩) (fun h28 => ⟨(by unfold placesV placesT; rw [h1, cond_true, h21, h2, List.take_of_length_le (by omega), List.take_of_length_le (by rw [List.length_map]; omega), show (TreeM.nodes v0).length - n2.toNat = 0 by omega]; simp),
 trivial⟩)⟩⟩⟩⟩⟩)⟩⟩⟩⟩⟩⟩⟩⟩)⟩
theorem ok_places : ConOK PX DF_ TabG 35 con_places := con_ok XC.mixed tab_mono (fn := Tryd.f35) (by kernel_rfl) (lookC_ok (l := cs_places [] []) (alls_cons ok_right (alls_cons ok_below (alls_nil)))) (vc_eq (show VT.H vt_places = _ by kernel_rfl) vc_places)
end Go.Proofs.YtgobbgpmdfnfhaaDoor
namespace Gx
open Go Go.RowKit
set_option linter.unusedSimpArgs false
set_option linter.unusedVariables false
theorem snoc_ind {α : Type} {P : List α → Prop} (h0 : P []) (h1 : ∀ l a, P l → P (l ++ [a])) (l : List α) : P l := by
  rw [← List.reverse_reverse l]
  induction l.reverse with
  | nil => exact h0
  | cons a l ih => rw [List.reverse_cons]; exact h1 _ _ ih
theorem foldl_next {α β : Type} [Inhabited α] (f : β → α → β) (b : β) (l : List α) {i : Int} (h0 : 0 ≤ i) (h1 : i < (l.length : Int)) : (l.take (i + 1).toNat).foldl f b = f ((l.take i.toNat).foldl f b) (at_ l i) := by
  rw [take_next l h0 h1, List.foldl_append]; rfl
def keepP (p : PieceM) : PieceM := if p.sets.length ≤ 63 then p else noneP false
def pcs (ns : List NodeM) : List PieceM := ns.foldl (fun l n => l ++ [keepP (nodeP l n)]) []
theorem pcs_next (ns : List NodeM) {i : Int} (h0 : 0 ≤ i) (h1 : i < (ns.length : Int)) : pcs (ns.take (i + 1).toNat) = pcs (ns.take i.toNat) ++ [keepP (nodeP (pcs (ns.take i.toNat)) (at_ ns i))] := foldl_next _ _ _ h0 h1
theorem pcs_app (ns : List NodeM) (n : NodeM) : pcs (ns ++ [n]) = pcs ns ++ [keepP (nodeP (pcs ns) n)] := by unfold pcs; rw [List.foldl_append]; rfl
@[grind =] theorem pcs_len (ns : List NodeM) : (pcs ns).length = ns.length := by
  unfold pcs
  have : ∀ (l : List PieceM), (ns.foldl (fun l n => l ++ [keepP (nodeP l n)]) l).length = l.length + ns.length := by
    induction ns with
    | nil => intro l; simp
    | cons n ns ih => intro l; rw [List.foldl_cons, ih]; simp; omega
  simpa using this []
def Backs (ns : List NodeM) : Prop := ∀ i : Nat, i < ns.length → NodeOK (at_ ns (i : Int)) i
theorem below_a {n : NodeM} {k : Nat} (hb : ∀ j ∈ belowN n, 0 ≤ j ∧ j < (k : Int)) (hm : mayB n = true) : NodeOK n k := by
  have m := (may_eq n).1 hm
  refine ⟨fun h => ?_, fun h => ?_, fun h => ?_⟩
  · refine hb _ ?_; unfold belowN; split
    · simp
    · rw [if_pos (by omega)]; simp
  · refine hb _ ?_; unfold belowN; rw [if_pos h]; simp
  · have := m.2.2.2; split at this <;> omega
theorem right_backs {t : TreeM} (R : RightT t) : Backs t.nodes := fun i hi => below_a (R.back i hi) (R.may _ (at_mem_ (by omega) (by omega)))
theorem keep_ok {p : PieceM} (h : PieceOK p) : PieceS (keepP p) := by
  unfold keepP; split
  · exact ⟨h, by omega⟩
  · exact ⟨none_ok _, by simp [noneP]⟩
theorem backs_take {ns : List NodeM} (h : Backs ns) (k : Nat) : Backs (ns.take k) := fun i hi => by
  rw [List.length_take] at hi
  have e : at_ (ns.take k) (i : Int) = at_ ns (i : Int) := by
    unfold at_; rw [List.getD_eq_getElem?_getD, List.getD_eq_getElem?_getD, List.getElem?_take_of_lt (by omega)]
  rw [e]; exact h i (by omega)
theorem pcs_ok (ns : List NodeM) : Backs ns → ∀ p ∈ pcs ns, PieceS p := by
  refine snoc_ind (P := fun ns => Backs ns → ∀ p ∈ pcs ns, PieceS p) (fun _ p hp => by cases hp) (fun ms n ih h p hp => ?_) ns
  have hb : Backs ms := by have := backs_take h ms.length; rwa [List.take_left' rfl] at this
  rw [pcs_app] at hp
  rcases List.mem_append.1 hp with hp | hp
  · exact ih hb p hp
  · simp at hp; subst hp
    have hn := h ms.length (by simp)
    have e : at_ (ms ++ [n]) ((ms.length : Nat) : Int) = n := by simp [at_]
    rw [e] at hn
    exact keep_ok (node_ok (ih hb) (by rw [pcs_len]; exact hn))
def stepM (l : List PieceM) (m : MadeM) (p : PrtM) : MadeM :=
  let x := at_ l p.root
  ⟨m.sets ++ x.sets, m.first ++ [shl m.sets.length x.first], m.last ++ [shl m.sets.length x.last], m.follow ++ x.follow.map (shl m.sets.length), m.empty ++ [x.empty], m.not_ ++ [p.not_]⟩
def zMade : MadeM := ⟨[], [], [], [], [], []⟩
def partsM (l : List PieceM) (ps : List PrtM) : MadeM := ps.foldl (stepM l) zMade
theorem partsM_next (l : List PieceM) (ps : List PrtM) {i : Int} (h0 : 0 ≤ i) (h1 : i < (ps.length : Int)) : partsM l (ps.take (i + 1).toNat) = stepM l (partsM l (ps.take i.toNat)) (at_ ps i) := foldl_next _ _ _ h0 h1
theorem partsM_app (l : List PieceM) (ps : List PrtM) (p : PrtM) : partsM l (ps ++ [p]) = stepM l (partsM l ps) p := by unfold partsM; rw [List.foldl_append]; rfl
theorem partsM_len {l : List PieceM} (hl : ∀ p ∈ l, PieceS p) (ps : List PrtM) : rootsIn ps l.length → (partsM l ps).sets.length ≤ 63 * ps.length ∧ (partsM l ps).follow.length = (partsM l ps).sets.length ∧ (partsM l ps).first.length = ps.length ∧ (partsM l ps).last.length = ps.length ∧ (partsM l ps).empty.length = ps.length ∧ (partsM l ps).not_.length = ps.length := by
  refine snoc_ind (P := fun ps => rootsIn ps l.length → (partsM l ps).sets.length ≤ 63 * ps.length ∧ (partsM l ps).follow.length = (partsM l ps).sets.length ∧ (partsM l ps).first.length = ps.length ∧ (partsM l ps).last.length = ps.length ∧ (partsM l ps).empty.length = ps.length ∧ (partsM l ps).not_.length = ps.length) (fun _ => ⟨by simp [partsM, zMade], rfl, rfl, rfl, rfl, rfl⟩) (fun ps p ih h => ?_) ps
  obtain ⟨h1, h2, h3, h4, h5, h6⟩ := ih (fun q hq => h q (List.mem_append_left _ hq))
  have hp := h p (by simp)
  have hx := hl _ (at_mem_ hp.1 hp.2)
  rw [partsM_app]
  unfold stepM
  simp only [List.length_append, List.length_map, List.length_cons, List.length_nil]
  have := hx.2; have := hx.1.len
  omega
noncomputable def ofM (t : TreeM) : MadeM := cond (rightB t && decide (placesT t ≤ 63)) (partsM (pcs t.nodes) t.parts) zMade
noncomputable def ofE (t : TreeM) : Int := cond (rightB t) (cond (decide (placesT t ≤ 63)) 0 3) 8
theorem ofM_no {t : TreeM} (h : rightB t = false) : ofM t = zMade ∧ ofE t = 8 := by unfold ofM ofE; rw [h]; exact ⟨rfl, rfl⟩
theorem ofM_long {t : TreeM} (h : rightB t = true) (h2 : 63 < placesV t) : ofM t = zMade ∧ ofE t = 3 := by
  unfold placesV at h2; rw [h] at h2; simp only [cond_true] at h2
  unfold ofM ofE; rw [h, decide_eq_false (by omega)]; exact ⟨rfl, rfl⟩
theorem ofM_yes {t : TreeM} (h : rightB t = true) (h2 : ¬ 63 < placesV t) : ofM t = partsM (pcs t.nodes) t.parts ∧ ofE t = 0 := by
  unfold placesV at h2; rw [h] at h2; simp only [cond_true] at h2
  unfold ofM ofE; rw [h, decide_eq_true (by omega)]; exact ⟨rfl, rfl⟩
end Gx
namespace Go.Proofs.YtgobbgpmdfnfhaaDoor
open Go Go.RowKit Gx
set_option linter.unusedVariables false
set_option linter.unusedSimpArgs false
set_option maxRecDepth 8000
noncomputable def con_of : Con σF where
  args := [.fl 10]
  items := []
  res := .tup [.agg [.rs 5, .row 35 2, .row 35 2, .rs 2, .row 4 3, .row 4 3], .int .i64]
  pre := fun ads ids => match ads, ids with
    | [.fl 10 t], [] => []
    | _, _ => []
  fact := fun ads ids => match ads, ids with
    | [.fl 10 t], [] => []
    | _, _ => []
  spec := fun ads ids => match ads, ids with
    | [.fl 10 t], [] => some (.tup [.agg [.rs 5 (MadeM.sets (ofM t)), .rs 2 (MadeM.first (ofM t)), .rs 2 (MadeM.last (ofM t)), .rs 2 (MadeM.follow (ofM t)), .rs 3 (MadeM.empty (ofM t)), .rs 3 (MadeM.not_ (ofM t))], .int .i64 (ofE t)], [])
    | _, _ => none
noncomputable def lh_of_7 (ads ids : List SF) : LoopH σF where
  slots := [4, 29]
  shs := [.row 78 11, .int .i64]
  drop := [6, 7, 30, 31, 32, 33, 34, 35, 36, 37, 38, 39, 40, 41, 42, 43, 44, 45, 46, 47, 48]
  ns := []
  its := []
  see := []
  inv := fun see c0 cs => match ads, ids, see, c0, cs with
    | [.fl 10 t], [], _, _, [.rs 11 ps, .int _ i] => [ps = pcs ((TreeM.nodes t).take i.toNat), 0 ≤ i, i ≤ (TreeM.nodes t).length]
    | _, _, _, _, _ => []
  meas := fun see c0 cs => match ads, ids, see, c0, cs with
    | [.fl 10 t], [], _, _, [.rs 11 ps, .int _ i] => (TreeM.nodes t).length - i.toNat
    | _, _, _, _, _ => 0
  nsl := []
noncomputable def lh_of_17 (ads ids : List SF) : LoopH σF where
  slots := [53]
  shs := [.int .i64]
  drop := [11, 12, 13, 14, 15, 54, 55, 56, 57, 58, 59, 60, 61, 62, 63, 64, 65, 66, 67, 68, 69, 70, 71, 72, 73, 74, 75, 76, 77, 78, 79, 80, 81, 82, 83, 84, 85, 86, 87, 88, 89, 90, 91, 92, 93, 94, 95, 96]
  ns := []
  its := [.box 78 [.fl 11], .box 26 [.rs 5, .row 35 2, .row 35 2, .rs 2, .row 4 3, .row 4 3]]
  see := [4]
  inv := fun see c0 cs => match ads, ids, see, c0, cs with
    | [.fl 10 t], [], [.rs 11 l], _, [.agg [.fl 11 al], .agg [.rs 5 q1, .rs 2 fi, .rs 2 la, .rs 2 q2, .rs 3 em, .rs 3 no], .int _ i] => [al = ⟨MadeM.sets (partsM l ((TreeM.parts t).take i.toNat)), MadeM.follow (partsM l ((TreeM.parts t).take i.toNat)), 0, 0, false⟩, q1 = [], fi = MadeM.first (partsM l ((TreeM.parts t).take i.toNat)), la = MadeM.last (partsM l ((TreeM.parts t).take i.toNat)), q2 = [], em = MadeM.empty (partsM l ((TreeM.parts t).take i.toNat)), no = MadeM.not_ (partsM l ((TreeM.parts t).take i.toNat)), 0 ≤ i, i ≤ (TreeM.parts t).length]
    | _, _, _, _, _ => []
  meas := fun see c0 cs => match ads, ids, see, c0, cs with
    | [.fl 10 t], [], [.rs 11 l], _, [.agg [.fl 11 al], .agg [.rs 5 q1, .rs 2 fi, .rs 2 la, .rs 2 q2, .rs 3 em, .rs 3 no], .int _ i] => (TreeM.parts t).length - i.toNat
    | _, _, _, _, _ => 0
  nsl := [9, 8]
noncomputable def hn_of (ads ids : List SF) : Hn σF := ⟨fun t => memB t [], fun t => memB t [], fun i => cond (Nat.beq i 7) (some (lh_of_7 ads ids)) (cond (Nat.beq i 17) (some (lh_of_17 ads ids)) (none)), fun i => none⟩
noncomputable def cs_of (ads ids : List SF) : List (Nat × Con σF) := [(34, con_right), (35, con_places), (36, con_node), (37, con_besideZ)]
noncomputable def vt_of : VT := vcF XC (fun ads ids g => lookC g (cs_of ads ids)) hn_of 200 Tryd.f12 con_of
theorem vc_of : ∀ (v0 : TreeM), True ∧ (wt10 v0 → bif !rightB v0 then [] = MadeM.sets (ofM v0) ∧ [] = MadeM.first (ofM v0) ∧ [] = MadeM.last (ofM v0) ∧ [] = MadeM.follow (ofM v0) ∧ [] = MadeM.empty (ofM v0) ∧ [] = MadeM.not_ (ofM v0) ∧ (8 : Int) = ofE v0 ∧ True else bif decide ((63 : Int) < placesV v0) then [] = MadeM.sets (ofM v0) ∧ [] = MadeM.first (ofM v0) ∧ [] = MadeM.last (ofM v0) ∧ [] = MadeM.follow (ofM v0) ∧ [] = MadeM.empty (ofM v0) ∧ [] = MadeM.not_ (ofM v0) ∧ (3 : Int) = ofE v0 ∧ True else [] = pcs (List.take (Int.toNat (0 : Int)) (TreeM.nodes v0)) ∧ (0 : Int) ≤ (0 : Int) ∧ (0 : Int) ≤ (↑(List.length (TreeM.nodes v0)) : Int) ∧ ∀ (xs1 : List PieceM) (n2 : Int), xs1 = pcs (List.take (Int.toNat n2) (TreeM.nodes v0)) → (0 : Int) ≤ n2 → n2 ≤ (↑(List.length (TreeM.nodes v0)) : Int) → wtLs wt11 xs1 → inK .i64 n2 → bif decide (n2 < (↑(List.length (TreeM.nodes v0)) : Int)) then (0 : Int) ≤ n2 ∧ n2 < (↑(List.length (TreeM.nodes v0)) : Int) ∧ (∀ (p : PieceM), p ∈ xs1 → PieceS p) ∧ NodeOK (at_ (TreeM.nodes v0) n2) (List.length xs1) ∧ bif decide ((↑(List.length (PieceM.sets (nodeP xs1 (at_ (TreeM.nodes v0) n2)))) : Int) ≤ (63 : Int)) then ((↑(List.length xs1) : Int) + (1 : Int)) * (72 : Int) ≤ (140737488355328 : Int) ∧ (↑(List.length xs1) : Int) + (1 : Int) ≤ (9223372036854775807 : Int) ∧ inK .i64 (n2 + (1 : Int)) ∧ xs1 ++ [nodeP xs1 (at_ (TreeM.nodes v0) n2)] = pcs (List.take (Int.toNat (n2 + (1 : Int))) (TreeM.nodes v0)) ∧ (0 : Int) ≤ n2 + (1 : Int) ∧ n2 + (1 : Int) ≤ (↑(List.length (TreeM.nodes v0)) : Int) ∧ List.length (TreeM.nodes v0) - Int.toNat (n2 + (1 : Int)) < List.length (TreeM.nodes v0) - Int.toNat n2 ∧ True else ((↑(List.length xs1) : Int) + (1 : Int)) * (72 : Int) ≤ (140737488355328 : Int) ∧ (↑(List.length xs1) : Int) + (1 : Int) ≤ (9223372036854775807 : Int) ∧ inK .i64 (n2 + (1 : Int)) ∧ xs1 ++ [{ sets := [], follow := [], first := (0 : Int), last := (0 : Int), empty := false : PieceM }] = pcs (List.take (Int.toNat (n2 + (1 : Int))) (TreeM.nodes v0)) ∧ (0 : Int) ≤ n2 + (1 : Int) ∧ n2 + (1 : Int) ≤ (↑(List.length (TreeM.nodes v0)) : Int) ∧ List.length (TreeM.nodes v0) - Int.toNat (n2 + (1 : Int)) < List.length (TreeM.nodes v0) - Int.toNat n2 ∧ True else { sets := [], follow := [], first := (0 : Int), last := (0 : Int), empty := false : PieceM } = { sets := MadeM.sets (partsM xs1 (List.take (Int.toNat (0 : Int)) (TreeM.parts v0))), follow := MadeM.follow (partsM xs1 (List.take (Int.toNat (0 : Int)) (TreeM.parts v0))), first := (0 : Int), last := (0 : Int), empty := false : PieceM } ∧ (fun (x : List BSet) => x) [] = [] ∧ [] = MadeM.first (partsM xs1 (List.take (Int.toNat (0 : Int)) (TreeM.parts v0))) ∧ [] = MadeM.last (partsM xs1 (List.take (Int.toNat (0 : Int)) (TreeM.parts v0))) ∧ (fun (x : List Int) => x) [] = [] ∧ [] = MadeM.empty (partsM xs1 (List.take (Int.toNat (0 : Int)) (TreeM.parts v0))) ∧ [] = MadeM.not_ (partsM xs1 (List.take (Int.toNat (0 : Int)) (TreeM.parts v0))) ∧ (0 : Int) ≤ (0 : Int) ∧ (0 : Int) ≤ (↑(List.length (TreeM.parts v0)) : Int) ∧ ∀ (v3 : PieceM) (xs4 : List BSet) (xs5 xs6 xs7 : List Int) (xs8 xs9 : List Bool) (n10 : Int), v3 = { sets := MadeM.sets (partsM xs1 (List.take (Int.toNat n10) (TreeM.parts v0))), follow := MadeM.follow (partsM xs1 (List.take (Int.toNat n10) (TreeM.parts v0))), first := (0 : Int), last := (0 : Int), empty := false : PieceM } → xs4 = [] → xs5 = MadeM.first (partsM xs1 (List.take (Int.toNat n10) (TreeM.parts v0))) → xs6 = MadeM.last (partsM xs1 (List.take (Int.toNat n10) (TreeM.parts v0))) → xs7 = [] → xs8 = MadeM.empty (partsM xs1 (List.take (Int.toNat n10) (TreeM.parts v0))) → xs9 = MadeM.not_ (partsM xs1 (List.take (Int.toNat n10) (TreeM.parts v0))) → (0 : Int) ≤ n10 → n10 ≤ (↑(List.length (TreeM.parts v0)) : Int) → wt11 v3 → wtLs (fun (x : Int) => inK .u64 x) xs5 → wtLs (fun (x : Int) => inK .u64 x) xs6 → wtLs (fun (x : Bool) => True) xs8 → wtLs (fun (x : Bool) => True) xs9 → wtLs wt5 xs4 → wtLs (fun (x : Int) => inK .u64 x) xs7 → inK .i64 n10 → bif decide (n10 < (↑(List.length (TreeM.parts v0)) : Int)) then (0 : Int) ≤ n10 ∧ n10 < (↑(List.length (TreeM.parts v0)) : Int) ∧ (0 : Int) ≤ PrtM.root (at_ (TreeM.parts v0) n10) ∧ PrtM.root (at_ (TreeM.parts v0) n10) < (↑(List.length xs1) : Int) ∧ List.length (PieceM.sets v3) + List.length (PieceM.sets (at_ xs1 (PrtM.root (at_ (TreeM.parts v0) n10)))) ≤ (1000000 : Nat) ∧ List.length (PieceM.follow v3) + List.length (PieceM.follow (at_ xs1 (PrtM.root (at_ (TreeM.parts v0) n10)))) ≤ (1000000 : Nat) ∧ ((↑(List.length xs5) : Int) + (1 : Int)) * (8 : Int) ≤ (140737488355328 : Int) ∧ (↑(List.length xs5) : Int) + (1 : Int) ≤ (9223372036854775807 : Int) ∧ ((↑(List.length xs6) : Int) + (1 : Int)) * (8 : Int) ≤ (140737488355328 : Int) ∧ (↑(List.length xs6) : Int) + (1 : Int) ≤ (9223372036854775807 : Int) ∧ ((↑(List.length xs8) : Int) + (1 : Int)) * (1 : Int) ≤ (140737488355328 : Int) ∧ (↑(List.length xs8) : Int) + (1 : Int) ≤ (9223372036854775807 : Int) ∧ ((↑(List.length xs9) : Int) + (1 : Int)) * (1 : Int) ≤ (140737488355328 : Int) ∧ (↑(List.length xs9) : Int) + (1 : Int) ≤ (9223372036854775807 : Int) ∧ inK .i64 (n10 + (1 : Int)) ∧ besM v3 (at_ xs1 (PrtM.root (at_ (TreeM.parts v0) n10))) = { sets := MadeM.sets (partsM xs1 (List.take (Int.toNat (n10 + (1 : Int))) (TreeM.parts v0))), follow := MadeM.follow (partsM xs1 (List.take (Int.toNat (n10 + (1 : Int))) (TreeM.parts v0))), first := (0 : Int), last := (0 : Int), empty := false : PieceM } ∧ xs4 = [] ∧ xs5 ++ [shl (List.length (PieceM.sets v3)) (PieceM.first (at_ xs1 (PrtM.root (at_ (TreeM.parts v0) n10))))] = MadeM.first (partsM xs1 (List.take (Int.toNat (n10 + (1 : Int))) (TreeM.parts v0))) ∧ xs6 ++ [shl (List.length (PieceM.sets v3)) (PieceM.last (at_ xs1 (PrtM.root (at_ (TreeM.parts v0) n10))))] = MadeM.last (partsM xs1 (List.take (Int.toNat (n10 + (1 : Int))) (TreeM.parts v0))) ∧ xs7 = [] ∧ xs8 ++ [PieceM.empty (at_ xs1 (PrtM.root (at_ (TreeM.parts v0) n10)))] = MadeM.empty (partsM xs1 (List.take (Int.toNat (n10 + (1 : Int))) (TreeM.parts v0))) ∧ xs9 ++ [PrtM.not_ (at_ (TreeM.parts v0) n10)] = MadeM.not_ (partsM xs1 (List.take (Int.toNat (n10 + (1 : Int))) (TreeM.parts v0))) ∧ (0 : Int) ≤ n10 + (1 : Int) ∧ n10 + (1 : Int) ≤ (↑(List.length (TreeM.parts v0)) : Int) ∧ List.length (TreeM.parts v0) - Int.toNat (n10 + (1 : Int)) < List.length (TreeM.parts v0) - Int.toNat n10 ∧ True else PieceM.sets v3 = MadeM.sets (ofM v0) ∧ xs5 = MadeM.first (ofM v0) ∧ xs6 = MadeM.last (ofM v0) ∧ PieceM.follow v3 = MadeM.follow (ofM v0) ∧ xs8 = MadeM.empty (ofM v0) ∧ xs9 = MadeM.not_ (ofM v0) ∧ (0 : Int) = ofE v0 ∧ True) :=
 fun v0 => ⟨trivial,
 fun h0 => condNb (fun h1 => ⟨(by rw [(ofM_no h1).1]; rfl), ⟨(by rw [(ofM_no h1).1]; rfl), ⟨(by rw [(ofM_no h1).1]; rfl), ⟨(by rw [(ofM_no h1).1]; rfl), ⟨(by rw [(ofM_no h1).1]; rfl), ⟨(by rw [(ofM_no h1).1]; rfl), ⟨(by exact (ofM_no h1).2.symm),
 trivial⟩⟩⟩⟩⟩⟩⟩) (fun h1 => condD (fun h2 => ⟨(by rw [(ofM_long h1 h2).1]; rfl), ⟨(by rw [(ofM_long h1 h2).1]; rfl), ⟨(by rw [(ofM_long h1 h2).1]; rfl), ⟨(by rw [(ofM_long h1 h2).1]; rfl), ⟨(by rw [(ofM_long h1 h2).1]; rfl), ⟨(by rw [(ofM_long h1 h2).1]; rfl), ⟨(by exact (ofM_long h1 h2).2.symm),
 trivial⟩⟩⟩⟩⟩⟩⟩) (fun h2 => ⟨(by rfl), ⟨(by omega), ⟨(by omega),
 fun xs1 => fun n2 => fun h3 => fun h4 => fun h5 => fun h6 => have k6 := b_len h6; fun h7 => have k7 := b_i64 h7; condD (fun h8 => ⟨(by assumption), ⟨(by assumption), ⟨(by rw [h3]; exact pcs_ok _ (backs_take (right_backs (rightT_iff.1 h1)) _)), ⟨(by have n600 := (rightT_iff.1 h1).n600; have e1 : xs1.length = n2.toNat := (by rw [h3, pcs_len, List.length_take]; omega); have b := right_backs (rightT_iff.1 h1) n2.toNat (by omega); rw [Int.toNat_of_nonneg h4, ← e1] at b; exact b),
 condD (fun h9 => ⟨(by have n600 := (rightT_iff.1 h1).n600; have e1 : xs1.length = n2.toNat := (by rw [h3, pcs_len, List.length_take]; omega); omega), ⟨(by have n600 := (rightT_iff.1 h1).n600; have e1 : xs1.length = n2.toNat := (by rw [h3, pcs_len, List.length_take]; omega); omega), ⟨(by have n600 := (rightT_iff.1 h1).n600; have e1 : xs1.length = n2.toNat := (by rw [h3, pcs_len, List.length_take]; omega); exact in_i64 (by omega) (by omega)), ⟨(by rw [pcs_next _ h4 h8, ← h3, keepP, if_pos (by omega)]), ⟨(by omega), ⟨(by assumption), ⟨(by omega),
 trivial⟩⟩⟩⟩⟩⟩⟩) (fun h9 => ⟨(by have n600 := (rightT_iff.1 h1).n600; have e1 : xs1.length = n2.toNat := (by rw [h3, pcs_len, List.length_take]; omega); omega), ⟨(by have n600 := (rightT_iff.1 h1).n600; have e1 : xs1.length = n2.toNat := (by rw [h3, pcs_len, List.length_take]; omega); omega), ⟨(by have n600 := (rightT_iff.1 h1).n600; have e1 : xs1.length = n2.toNat := (by rw [h3, pcs_len, List.length_take]; omega); exact in_i64 (by omega) (by omega)), ⟨(by rw [pcs_next _ h4 h8, ← h3, keepP, if_neg (by omega)]; rfl), ⟨(by omega), ⟨(by assumption), ⟨(by omega),
 trivial⟩⟩⟩⟩⟩⟩⟩)⟩⟩⟩⟩) (fun h8 => ⟨(by rfl), ⟨(by rfl), ⟨(by rfl), ⟨(by rfl), ⟨(by rfl), ⟨(by rfl), ⟨(by rfl), ⟨(by omega), ⟨(by omega),
 fun v3 => fun xs4 => fun xs5 => fun xs6 => fun xs7 => fun xs8 => fun xs9 => fun n10 => fun h10 => fun h11 => fun h12 => fun h13 => fun h14 => fun h15 => fun h16 => fun h17 => fun h18 => fun h19 => fun h20 => have k20 := b_len h20; fun h21 => have k21 := b_len h21; fun h22 => have k22 := b_len h22; fun h23 => have k23 := b_len h23; fun h24 => have k24 := b_len h24; fun h25 => have k25 := b_len h25; fun h26 => have k26 := b_i64 h26; condD (fun h27 => ⟨(by assumption), ⟨(by assumption), ⟨(by have R := rightT_iff.1 h1; have p20 := R.p20; have L1 : xs1 = pcs (TreeM.nodes v0) := (by rw [h3, List.take_of_length_le (by omega)]); have ll : xs1.length = (TreeM.nodes v0).length := (by rw [L1, pcs_len]); have PS := pcs_ok _ (right_backs R); rw [← L1] at PS; have PL := partsM_len PS ((TreeM.parts v0).take n10.toNat) (fun p hp => by rw [ll]; exact R.roots p (List.mem_of_mem_take hp)); rw [List.length_take] at PL; have rr := R.roots _ (at_mem_ h17 h27); have x := PS _ (at_mem_ rr.1 (by omega)); have xl := x.1.len; have xs := x.2; have es : PieceM.sets v3 = MadeM.sets (partsM xs1 (List.take (Int.toNat n10) (TreeM.parts v0))) := (by rw [h10]); have ef : PieceM.follow v3 = MadeM.follow (partsM xs1 (List.take (Int.toNat n10) (TreeM.parts v0))) := (by rw [h10]); omega), ⟨(by have R := rightT_iff.1 h1; have p20 := R.p20; have L1 : xs1 = pcs (TreeM.nodes v0) := (by rw [h3, List.take_of_length_le (by omega)]); have ll : xs1.length = (TreeM.nodes v0).length := (by rw [L1, pcs_len]); have PS := pcs_ok _ (right_backs R); rw [← L1] at PS; have PL := partsM_len PS ((TreeM.parts v0).take n10.toNat) (fun p hp => by rw [ll]; exact R.roots p (List.mem_of_mem_take hp)); rw [List.length_take] at PL; have rr := R.roots _ (at_mem_ h17 h27); have x := PS _ (at_mem_ rr.1 (by omega)); have xl := x.1.len; have xs := x.2; have es : PieceM.sets v3 = MadeM.sets (partsM xs1 (List.take (Int.toNat n10) (TreeM.parts v0))) := (by rw [h10]); have ef : PieceM.follow v3 = MadeM.follow (partsM xs1 (List.take (Int.toNat n10) (TreeM.parts v0))) := (by rw [h10]); omega), ⟨(by have R := rightT_iff.1 h1; have p20 := R.p20; have L1 : xs1 = pcs (TreeM.nodes v0) := (by rw [h3, List.take_of_length_le (by omega)]); have ll : xs1.length = (TreeM.nodes v0).length := (by rw [L1, pcs_len]); have PS := pcs_ok _ (right_backs R); rw [← L1] at PS; have PL := partsM_len PS ((TreeM.parts v0).take n10.toNat) (fun p hp => by rw [ll]; exact R.roots p (List.mem_of_mem_take hp)); rw [List.length_take] at PL; have rr := R.roots _ (at_mem_ h17 h27); have x := PS _ (at_mem_ rr.1 (by omega)); have xl := x.1.len; have xs := x.2; have es : PieceM.sets v3 = MadeM.sets (partsM xs1 (List.take (Int.toNat n10) (TreeM.parts v0))) := (by rw [h10]); have ef : PieceM.follow v3 = MadeM.follow (partsM xs1 (List.take (Int.toNat n10) (TreeM.parts v0))) := (by rw [h10]); rw [es]; omega), ⟨(by have R := rightT_iff.1 h1; have p20 := R.p20; have L1 : xs1 = pcs (TreeM.nodes v0) := (by rw [h3, List.take_of_length_le (by omega)]); have ll : xs1.length = (TreeM.nodes v0).length := (by rw [L1, pcs_len]); have PS := pcs_ok _ (right_backs R); rw [← L1] at PS; have PL := partsM_len PS ((TreeM.parts v0).take n10.toNat) (fun p hp => by rw [ll]; exact R.roots p (List.mem_of_mem_take hp)); rw [List.length_take] at PL; have rr := R.roots _ (at_mem_ h17 h27); have x := PS _ (at_mem_ rr.1 (by omega)); have xl := x.1.len; have xs := x.2; have es : PieceM.sets v3 = MadeM.sets (partsM xs1 (List.take (Int.toNat n10) (TreeM.parts v0))) := (by rw [h10]); have ef : PieceM.follow v3 = MadeM.follow (partsM xs1 (List.take (Int.toNat n10) (TreeM.parts v0))) := (by rw [h10]); rw [ef]; omega), ⟨(by have R := rightT_iff.1 h1; have p20 := R.p20; have L1 : xs1 = pcs (TreeM.nodes v0) := (by rw [h3, List.take_of_length_le (by omega)]); have ll : xs1.length = (TreeM.nodes v0).length := (by rw [L1, pcs_len]); have PS := pcs_ok _ (right_backs R); rw [← L1] at PS; have PL := partsM_len PS ((TreeM.parts v0).take n10.toNat) (fun p hp => by rw [ll]; exact R.roots p (List.mem_of_mem_take hp)); rw [List.length_take] at PL; have rr := R.roots _ (at_mem_ h17 h27); have x := PS _ (at_mem_ rr.1 (by omega)); have xl := x.1.len; have xs := x.2; have es : PieceM.sets v3 = MadeM.sets (partsM xs1 (List.take (Int.toNat n10) (TreeM.parts v0))) := (by rw [h10]); have ef : PieceM.follow v3 = MadeM.follow (partsM xs1 (List.take (Int.toNat n10) (TreeM.parts v0))) := (by rw [h10]); rw [h12]; omega), ⟨(by have R := rightT_iff.1 h1; have p20 := R.p20; have L1 : xs1 = pcs (TreeM.nodes v0) := (by rw [h3, List.take_of_length_le (by omega)]); have ll : xs1.length = (TreeM.nodes v0).length := (by rw [L1, pcs_len]); have PS := pcs_ok _ (right_backs R); rw [← L1] at PS; have PL := partsM_len PS ((TreeM.parts v0).take n10.toNat) (fun p hp => by rw [ll]; exact R.roots p (List.mem_of_mem_take hp)); rw [List.length_take] at PL; have rr := R.roots _ (at_mem_ h17 h27); have x := PS _ (at_mem_ rr.1 (by omega)); have xl := x.1.len; have xs := x.2; have es : PieceM.sets v3 = MadeM.sets (partsM xs1 (List.take (Int.toNat n10) (TreeM.parts v0))) := (by rw [h10]); have ef : PieceM.follow v3 = MadeM.follow (partsM xs1 (List.take (Int.toNat n10) (TreeM.parts v0))) := (by rw [h10]); rw [h12]; omega), ⟨(by have R := rightT_iff.1 h1; have p20 := R.p20; have L1 : xs1 = pcs (TreeM.nodes v0) := (by rw [h3, List.take_of_length_le (by omega)]); have ll : xs1.length = (TreeM.nodes v0).length := (by rw [L1, pcs_len]); have PS := pcs_ok _ (right_backs R); rw [← L1] at PS; have PL := partsM_len PS ((TreeM.parts v0).take n10.toNat) (fun p hp => by rw [ll]; exact R.roots p (List.mem_of_mem_take hp)); rw [List.length_take] at PL; have rr := R.roots _ (at_mem_ h17 h27); have x := PS _ (at_mem_ rr.1 (by omega)); have xl := x.1.len; have xs := x.2; have es : PieceM.sets v3 = MadeM.sets (partsM xs1 (List.take (Int.toNat n10) (TreeM.parts v0))) := (by rw [h10]); have ef : PieceM.follow v3 = MadeM.follow (partsM xs1 (List.take (Int.toNat n10) (TreeM.parts v0))) := (by rw [h10]); rw [h13]; omega), ⟨(by have R := rightT_iff.1 h1; have p20 := R.p20; have L1 : xs1 = pcs (TreeM.nodes v0) := (by rw [h3, List.take_of_length_le (by omega)]); have ll : xs1.length = (TreeM.nodes v0).length := (by rw [L1, pcs_len]); have PS := pcs_ok _ (right_backs R); rw [← L1] at PS; have PL := partsM_len PS ((TreeM.parts v0).take n10.toNat) (fun p hp => by rw [ll]; exact R.roots p (List.mem_of_mem_take hp)); rw [List.length_take] at PL; have rr := R.roots _ (at_mem_ h17 h27); have x := PS _ (at_mem_ rr.1 (by omega)); have xl := x.1.len; have xs := x.2; have es : PieceM.sets v3 = MadeM.sets (partsM xs1 (List.take (Int.toNat n10) (TreeM.parts v0))) := (by rw [h10]); have ef : PieceM.follow v3 = MadeM.follow (partsM xs1 (List.take (Int.toNat n10) (TreeM.parts v0))) := (by rw [h10]); rw [h13]; omega), ⟨(by have R := rightT_iff.1 h1; have p20 := R.p20; have L1 : xs1 = pcs (TreeM.nodes v0) := (by rw [h3, List.take_of_length_le (by omega)]); have ll : xs1.length = (TreeM.nodes v0).length := (by rw [L1, pcs_len]); have PS := pcs_ok _ (right_backs R); rw [← L1] at PS; have PL := partsM_len PS ((TreeM.parts v0).take n10.toNat) (fun p hp => by rw [ll]; exact R.roots p (List.mem_of_mem_take hp)); rw [List.length_take] at PL; have rr := R.roots _ (at_mem_ h17 h27); have x := PS _ (at_mem_ rr.1 (by omega)); have xl := x.1.len; have xs := x.2; have es : PieceM.sets v3 = MadeM.sets (partsM xs1 (List.take (Int.toNat n10) (TreeM.parts v0))) := (by rw [h10]); have ef : PieceM.follow v3 = MadeM.follow (partsM xs1 (List.take (Int.toNat n10) (TreeM.parts v0))) := (by rw [h10]); rw [h15]; omega), ⟨(by have R := rightT_iff.1 h1; have p20 := R.p20; have L1 : xs1 = pcs (TreeM.nodes v0) := (by rw [h3, List.take_of_length_le (by omega)]); have ll : xs1.length = (TreeM.nodes v0).length := (by rw [L1, pcs_len]); have PS := pcs_ok _ (right_backs R); rw [← L1] at PS; have PL := partsM_len PS ((TreeM.parts v0).take n10.toNat) (fun p hp => by rw [ll]; exact R.roots p (List.mem_of_mem_take hp)); rw [List.length_take] at PL; have rr := R.roots _ (at_mem_ h17 h27); have x := PS _ (at_mem_ rr.1 (by omega)); have xl := x.1.len; have xs := x.2; have es : PieceM.sets v3 = MadeM.sets (partsM xs1 (List.take (Int.toNat n10) (TreeM.parts v0))) := (by rw [h10]); have ef : PieceM.follow v3 = MadeM.follow (partsM xs1 (List.take (Int.toNat n10) (TreeM.parts v0))) := (by rw [h10]); rw [h15]; omega), ⟨(by have R := rightT_iff.1 h1; have p20 := R.p20; have L1 : xs1 = pcs (TreeM.nodes v0) := (by rw [h3, List.take_of_length_le (by omega)]); have ll : xs1.length = (TreeM.nodes v0).length := (by rw [L1, pcs_len]); have PS := pcs_ok _ (right_backs R); rw [← L1] at PS; have PL := partsM_len PS ((TreeM.parts v0).take n10.toNat) (fun p hp => by rw [ll]; exact R.roots p (List.mem_of_mem_take hp)); rw [List.length_take] at PL; have rr := R.roots _ (at_mem_ h17 h27); have x := PS _ (at_mem_ rr.1 (by omega)); have xl := x.1.len; have xs := x.2; have es : PieceM.sets v3 = MadeM.sets (partsM xs1 (List.take (Int.toNat n10) (TreeM.parts v0))) := (by rw [h10]); have ef : PieceM.follow v3 = MadeM.follow (partsM xs1 (List.take (Int.toNat n10) (TreeM.parts v0))) := (by rw [h10]); rw [h16]; omega), ⟨(by have R := rightT_iff.1 h1; have p20 := R.p20; have L1 : xs1 = pcs (TreeM.nodes v0) := (by rw [h3, List.take_of_length_le (by omega)]); have ll : xs1.length = (TreeM.nodes v0).length := (by rw [L1, pcs_len]); have PS := pcs_ok _ (right_backs R); rw [← L1] at PS; have PL := partsM_len PS ((TreeM.parts v0).take n10.toNat) (fun p hp => by rw [ll]; exact R.roots p (List.mem_of_mem_take hp)); rw [List.length_take] at PL; have rr := R.roots _ (at_mem_ h17 h27); have x := PS _ (at_mem_ rr.1 (by omega)); have xl := x.1.len; have xs := x.2; have es : PieceM.sets v3 = MadeM.sets (partsM xs1 (List.take (Int.toNat n10) (TreeM.parts v0))) := (by rw [h10]); have ef : PieceM.follow v3 = MadeM.follow (partsM xs1 (List.take (Int.toNat n10) (TreeM.parts v0))) := (by rw [h10]); rw [h16]; omega), ⟨(by have R := rightT_iff.1 h1; have p20 := R.p20; have L1 : xs1 = pcs (TreeM.nodes v0) := (by rw [h3, List.take_of_length_le (by omega)]); have ll : xs1.length = (TreeM.nodes v0).length := (by rw [L1, pcs_len]); have PS := pcs_ok _ (right_backs R); rw [← L1] at PS; have PL := partsM_len PS ((TreeM.parts v0).take n10.toNat) (fun p hp => by rw [ll]; exact R.roots p (List.mem_of_mem_take hp)); rw [List.length_take] at PL; have rr := R.roots _ (at_mem_ h17 h27); have x := PS _ (at_mem_ rr.1 (by omega)); have xl := x.1.len; have xs := x.2; have es : PieceM.sets v3 = MadeM.sets (partsM xs1 (List.take (Int.toNat n10) (TreeM.parts v0))) := (by rw [h10]); have ef : PieceM.follow v3 = MadeM.follow (partsM xs1 (List.take (Int.toNat n10) (TreeM.parts v0))) := (by rw [h10]); exact in_i64 (by omega) (by omega)), ⟨(by rw [partsM_next _ _ h17 h27, h10]; rfl), ⟨(by assumption), ⟨(by rw [partsM_next _ _ h17 h27, h12, h10]; rfl), ⟨(by rw [partsM_next _ _ h17 h27, h13, h10]; rfl), ⟨(by assumption), ⟨(by rw [partsM_next _ _ h17 h27, h15]; rfl), ⟨(by rw [partsM_next _ _ h17 h27, h16]; rfl), ⟨(by omega), ⟨(by assumption), ⟨(by omega),
 trivial⟩⟩⟩⟩⟩⟩⟩⟩⟩⟩⟩⟩⟩⟩⟩⟩⟩⟩⟩⟩⟩⟩⟩⟩⟩) (fun h27 => ⟨(by have R := rightT_iff.1 h1; have p20 := R.p20; have L1 : xs1 = pcs (TreeM.nodes v0) := (by rw [h3, List.take_of_length_le (by omega)]); have ll : xs1.length = (TreeM.nodes v0).length := (by rw [L1, pcs_len]); have PS := pcs_ok _ (right_backs R); rw [← L1] at PS; have PL := partsM_len PS ((TreeM.parts v0).take n10.toNat) (fun p hp => by rw [ll]; exact R.roots p (List.mem_of_mem_take hp)); rw [List.length_take] at PL; rw [(ofM_yes h1 h2).1, ← L1]; rw [List.take_of_length_le (by omega)] at h10; rw [h10]), ⟨(by have R := rightT_iff.1 h1; have p20 := R.p20; have L1 : xs1 = pcs (TreeM.nodes v0) := (by rw [h3, List.take_of_length_le (by omega)]); have ll : xs1.length = (TreeM.nodes v0).length := (by rw [L1, pcs_len]); have PS := pcs_ok _ (right_backs R); rw [← L1] at PS; have PL := partsM_len PS ((TreeM.parts v0).take n10.toNat) (fun p hp => by rw [ll]; exact R.roots p (List.mem_of_mem_take hp)); rw [List.length_take] at PL; rw [(ofM_yes h1 h2).1, ← L1]; rw [List.take_of_length_le (by omega)] at h12; rw [h12]), ⟨(by have R := rightT_iff.1 h1; have p20 := R.p20; have L1 : xs1 = pcs (TreeM.nodes v0) := (by rw [h3, List.take_of_length_le (by omega)]); have ll : xs1.length = (TreeM.nodes v0).length := (by rw [L1, pcs_len]); have PS := pcs_ok _ (right_backs R); rw [← L1] at PS; have PL := partsM_len PS ((TreeM.parts v0).take n10.toNat) (fun p hp => by rw [ll]; exact R.roots p (List.mem_of_mem_take hp)); rw [List.length_take] at PL; rw [(ofM_yes h1 h2).1, ← L1]; rw [List.take_of_length_le (by omega)] at h13; rw [h13]), ⟨(by have R := rightT_iff.1 h1; have p20 := R.p20; have L1 : xs1 = pcs (TreeM.nodes v0) := (by rw [h3, List.take_of_length_le (by omega)]); have ll : xs1.length = (TreeM.nodes v0).length := (by rw [L1, pcs_len]); have PS := pcs_ok _ (right_backs R); rw [← L1] at PS; have PL := partsM_len PS ((TreeM.parts v0).take n10.toNat) (fun p hp => by rw [ll]; exact R.roots p (List.mem_of_mem_take hp)); rw [List.length_take] at PL; rw [(ofM_yes h1 h2).1, ← L1]; rw [List.take_of_length_le (by omega)] at h10; rw [h10]), ⟨(by have R := rightT_iff.1 h1; have p20 := R.p20; have L1 : xs1 = pcs (TreeM.nodes v0) := (by rw [h3, List.take_of_length_le (by omega)]); have ll : xs1.length = (TreeM.nodes v0).length := (by rw [L1, pcs_len]); have PS := pcs_ok _ (right_backs R); rw [← L1] at PS; have PL := partsM_len PS ((TreeM.parts v0).take n10.toNat) (fun p hp => by rw [ll]; exact R.roots p (List.mem_of_mem_take hp)); rw [List.length_take] at PL; rw [(ofM_yes h1 h2).1, ← L1]; rw [List.take_of_length_le (by omega)] at h15; rw [h15]), ⟨(by have R := rightT_iff.1 h1; have p20 := R.p20; have L1 : xs1 = pcs (TreeM.nodes v0) := (by rw [h3, List.take_of_length_le (by omega)]); have ll : xs1.length = (TreeM.nodes v0).length := (by rw [L1, pcs_len]); have PS := pcs_ok _ (right_backs R); rw [← L1] at PS; have PL := partsM_len PS ((TreeM.parts v0).take n10.toNat) (fun p hp => by rw [ll]; exact R.roots p (List.mem_of_mem_take hp)); rw [List.length_take] at PL; rw [(ofM_yes h1 h2).1, ← L1]; rw [List.take_of_length_le (by omega)] at h16; rw [h16]), ⟨(by exact (ofM_yes h1 h2).2.symm),
 trivial⟩⟩⟩⟩⟩⟩⟩)⟩⟩⟩⟩⟩⟩⟩⟩⟩)⟩⟩⟩))⟩
theorem ok_of : ConOK PX DF_ TabG 12 con_of := con_ok XC.mixed tab_mono (fn := Tryd.f12) (by kernel_rfl) (lookC_ok (l := cs_of [] []) (alls_cons ok_right (alls_cons ok_places (alls_cons ok_node (alls_cons ok_besideZ (alls_nil)))))) (vc_eq (show VT.H vt_of = _ by kernel_rfl) vc_of)
end Go.Proofs.YtgobbgpmdfnfhaaDoor
namespace Gx
open Go Go.RowKit
set_option linter.unusedSimpArgs false
set_option linter.unusedVariables false
theorem wordIn (s : BSet) {i : Int} (h0 : 0 ≤ i) (h1 : i < 4) : inK .u64 (at_ (words s) i) := okInts_at (okWords s) h0 h1
end Gx
namespace Go.Proofs.YtgobbgpmdfnfhaaDoor
open Go Go.RowKit Gx
set_option linter.unusedVariables false
set_option linter.unusedSimpArgs false
set_option maxRecDepth 8000
noncomputable def con_pop : Con σF where
  args := [.int .u64]
  items := []
  res := .int .i64
  pre := fun ads ids => match ads, ids with
    | [.int _ x], [] => []
    | _, _ => []
  fact := fun ads ids => match ads, ids with
    | [.int _ x], [] => []
    | _, _ => []
  spec := fun ads ids => match ads, ids with
    | [.int _ x], [] => some (.int .i64 (((wbits x.toNat).length : Nat) : Int), [])
    | _, _ => none
noncomputable def con_has : Con σF where
  args := [.fl 5, .int .u8]
  items := []
  res := .bool
  pre := fun ads ids => match ads, ids with
    | [.fl 5 s, .int _ c], [] => []
    | _, _ => []
  fact := fun ads ids => match ads, ids with
    | [.fl 5 s, .int _ c], [] => []
    | _, _ => []
  spec := fun ads ids => match ads, ids with
    | [.fl 5 s, .int _ c], [] => some (.bool (has s c), [])
    | _, _ => none
noncomputable def con_not_ : Con σF where
  args := [.fl 5]
  items := []
  res := .fl 5
  pre := fun ads ids => match ads, ids with
    | [.fl 5 s], [] => []
    | _, _ => []
  fact := fun ads ids => match ads, ids with
    | [.fl 5 s], [] => []
    | _, _ => []
  spec := fun ads ids => match ads, ids with
    | [.fl 5 s], [] => some (.fl 5 (BitVec.not s), [])
    | _, _ => none
noncomputable def con_setOf : Con σF where
  args := [.rs 1]
  items := []
  res := .fl 5
  pre := fun ads ids => match ads, ids with
    | [.rs 1 bs], [] => []
    | _, _ => []
  fact := fun ads ids => match ads, ids with
    | [.rs 1 bs], [] => []
    | _, _ => []
  spec := fun ads ids => match ads, ids with
    | [.rs 1 bs], [] => some (.fl 5 (setOf bs), [])
    | _, _ => none
noncomputable def con_list : Con σF where
  args := [.fl 5]
  items := []
  res := .row 5 1
  pre := fun ads ids => match ads, ids with
    | [.fl 5 s], [] => []
    | _, _ => []
  fact := fun ads ids => match ads, ids with
    | [.fl 5 s], [] => []
    | _, _ => []
  spec := fun ads ids => match ads, ids with
    | [.fl 5 s], [] => some (.rs 1 (listOf s), [])
    | _, _ => none
noncomputable def lh_list_3 (ads ids : List SF) : LoopH σF where
  slots := [3, 7]
  shs := [.row 5 1, .int .i64]
  drop := [4, 5, 8, 9, 10, 11, 12, 13, 14, 15, 16, 17, 18, 19, 20, 21, 22, 23, 24, 25, 26]
  ns := []
  its := []
  see := []
  inv := fun see c0 cs => match ads, ids, see, c0, cs with
    | [.fl 5 s], [], _, _, [.rs 1 o, .int _ i] => [0 ≤ i, i ≤ 4, o = rowTo s i]
    | _, _, _, _, _ => []
  meas := fun see c0 cs => match ads, ids, see, c0, cs with
    | [.fl 5 s], [], _, _, [.rs 1 o, .int _ i] => (4 - i).toNat
    | _, _, _, _, _ => 0
  nsl := []
noncomputable def lh_list_5 (ads ids : List SF) : LoopH σF where
  slots := [3, 5]
  shs := [.row 5 1, .int .u64]
  drop := [11, 12, 13, 14, 15, 16, 17, 18, 19, 20, 21, 22, 23, 24, 25]
  ns := []
  its := []
  see := [7]
  inv := fun see c0 cs => match ads, ids, see, c0, cs with
    | [.fl 5 s], [], [.int _ i], [.rs 1 p, _], [.rs 1 o, .int _ x] => [o ++ wrow i x = p ++ wrow i (at_ (words s) i), 0 ≤ x]
    | _, _, _, _, _ => []
  meas := fun see c0 cs => match ads, ids, see, c0, cs with
    | [.fl 5 s], [], [.int _ i], [.rs 1 p, _], [.rs 1 o, .int _ x] => x.toNat
    | _, _, _, _, _ => 0
  nsl := []
noncomputable def hn_list (ads ids : List SF) : Hn σF := ⟨fun t => memB t [], fun t => memB t [], fun i => cond (Nat.beq i 3) (some (lh_list_3 ads ids)) (cond (Nat.beq i 5) (some (lh_list_5 ads ids)) (none)), fun i => none⟩
noncomputable def cs_list (ads ids : List SF) : List (Nat × Con σF) := [(40, conTZ)]
noncomputable def vt_list : VT := vcF XC (fun ads ids g => lookC g (cs_list ads ids)) hn_list 200 Tryd.f42 con_list
theorem vc_list : ∀ (v0 : BitVec (256 : Nat)), True ∧ (wt5 v0 → (0 : Int) ≤ (0 : Int) ∧ (0 : Int) ≤ (4 : Int) ∧ [] = rowTo v0 (0 : Int) ∧ ∀ (xs1 : List Int) (n2 : Int), (0 : Int) ≤ n2 → n2 ≤ (4 : Int) → xs1 = rowTo v0 n2 → wtLs (fun (x : Int) => inK .u8 x) xs1 → inK .i64 n2 → bif decide (n2 < (4 : Int)) then (0 : Int) ≤ n2 ∧ n2 < (4 : Int) ∧ xs1 ++ wrow n2 (at_ (words v0) n2) = xs1 ++ wrow n2 (at_ (words v0) n2) ∧ (0 : Int) ≤ at_ (words v0) n2 ∧ ∀ (xs3 : List Int) (n4 : Int), xs3 ++ wrow n2 n4 = xs1 ++ wrow n2 (at_ (words v0) n2) → (0 : Int) ≤ n4 → wtLs (fun (x : Int) => inK .u8 x) xs3 → inK .u64 n4 → bif !decide (n4 = (0 : Int)) then inK .i64 (n2 * (64 : Int)) ∧ inK .i64 (n2 * (64 : Int) + ctzI n4) ∧ inK .u8 (n2 * (64 : Int) + ctzI n4) ∧ ((↑(List.length xs3) : Int) + (1 : Int)) * (1 : Int) ≤ (140737488355328 : Int) ∧ (↑(List.length xs3) : Int) + (1 : Int) ≤ (9223372036854775807 : Int) ∧ inK .u64 (n4 - (1 : Int)) ∧ xs3 ++ [n2 * (64 : Int) + ctzI n4] ++ wrow n2 (iand n4 (n4 - (1 : Int))) = xs1 ++ wrow n2 (at_ (words v0) n2) ∧ (0 : Int) ≤ iand n4 (n4 - (1 : Int)) ∧ Int.toNat (iand n4 (n4 - (1 : Int))) < Int.toNat n4 ∧ True else inK .i64 (n2 + (1 : Int)) ∧ (0 : Int) ≤ n2 + (1 : Int) ∧ n2 + (1 : Int) ≤ (4 : Int) ∧ xs3 = rowTo v0 (n2 + (1 : Int)) ∧ Int.toNat ((4 : Int) - (n2 + (1 : Int))) < Int.toNat ((4 : Int) - n2) ∧ True else xs1 = listOf v0 ∧ True) :=
 fun v0 => ⟨trivial,
 fun h0 => ⟨(by omega), ⟨(by omega), ⟨(by rfl),
 fun xs1 => fun n2 => fun h1 => fun h2 => fun h3 => fun h4 => have k4 := b_len h4; fun h5 => have k5 := b_i64 h5; condD (fun h6 => ⟨(by assumption), ⟨(by assumption), ⟨(by rfl), ⟨(by exact (b_u64 (wordIn v0 h1 h6)).1),
 fun xs3 => fun n4 => fun h7 => fun h8 => fun h9 => have k9 := b_len h9; fun h10 => have k10 := b_u64 h10; condN (fun h11 => ⟨(by exact in_i64 (by omega) (by omega)), ⟨(by have cz : ctzI n4 < 64 := (by have := ctz_lt (x := n4) h11 k10.1 k10.2; unfold ctzI; omega); have c0 : 0 ≤ ctzI n4 := (by unfold ctzI; omega); exact in_i64 (by omega) (by omega)), ⟨(by have cz : ctzI n4 < 64 := (by have := ctz_lt (x := n4) h11 k10.1 k10.2; unfold ctzI; omega); have c0 : 0 ≤ ctzI n4 := (by unfold ctzI; omega); exact in_u8 (by omega) (by omega)), ⟨(by have lb := list_bound v0 h1 h6 h3 h7; omega), ⟨(by have lb := list_bound v0 h1 h6 h3 h7; omega), ⟨(by exact in_u64 (by omega) (by omega)), ⟨(by rw [← h7, wrow_step n2 (by omega) k10.2]; simp [ctzI]), ⟨(by exact iand_nonneg _ _), ⟨(by exact iand_pred_lt (by omega)),
 trivial⟩⟩⟩⟩⟩⟩⟩⟩⟩) (fun h11 => ⟨(by exact in_i64 (by omega) (by omega)), ⟨(by omega), ⟨(by assumption), ⟨(by rw [← rowTo_step v0 h1 h6, ← h3, ← h7, show n4 = 0 by omega, wrow_nil, List.append_nil]), ⟨(by omega),
 trivial⟩⟩⟩⟩⟩)⟩⟩⟩⟩) (fun h6 => ⟨(by rw [h3, show n2 = 4 by omega]; rfl),
 trivial⟩)⟩⟩⟩⟩
theorem ok_list : ConOK PX DF_ TabG 42 con_list := con_ok XC.mixed tab_mono (fn := Tryd.f42) (by kernel_rfl) (lookC_ok (l := cs_list [] []) (alls_cons tz_con (alls_nil))) (vc_eq (show VT.H vt_list = _ by kernel_rfl) vc_list)
end Go.Proofs.YtgobbgpmdfnfhaaDoor
namespace Gw
open Go Go.RowKit
abbrev Env := Nat → Value
def upd (ρ : Env) (d : Nat) (v : Value) : Env := fun t => bif Nat.beq t d then v else ρ t
theorem upd_same (ρ : Env) (d : Nat) (v : Value) : upd ρ d v d = v := by simp [upd]
theorem upd_ne (ρ : Env) {d t : Nat} (v : Value) (h : t ≠ d) : upd ρ d v t = ρ t := by
  have e : Nat.beq t d = false := by
    cases hb : Nat.beq t d with
    | false => rfl
    | true => exact absurd (Nat.eq_of_beq_eq_true hb) h
  simp only [upd, e, cond_false]
def Fits (n : Nat) (ρ : Env) (tmps : Array Value) : Prop := tmps.size = n ∧ ∀ t, tmps.getD t undef = ρ t
theorem Fits.set {n : Nat} {ρ : Env} {tmps : Array Value} (h : Fits n ρ tmps) {d : Nat} (hd : Nat.blt d n = true) (v : Value) : Fits n (upd ρ d v) (tmps.setIfInBounds d v) := by
  have hd' : d < n := by simpa [Nat.blt_eq] using hd
  refine ⟨by simpa using h.1, fun t => ?_⟩
  have ht := h.2 t
  rcases Nat.decEq t d with hne | rfl
  · rw [upd_ne _ _ hne, ← ht]
    simp only [Array.getD_eq_getD_getElem?, Array.getElem?_setIfInBounds]
    rw [if_neg (fun e => hne e.symm)]
  · rw [upd_same]
    simp [Array.getD_eq_getD_getElem?, h.1, hd']
def ev (ρ : Env) : Operand → Value
  | .tmp t => ρ t
  | .const v => v
  | .global g => .pointer (some ⟨g, 0, none⟩)
  | .func f => .func (.func f) #[] #[]
def fr (f : FuncId) (tmps : Array Value) (todo : List Item) : Frame := { (default : Frame) with fn := f, tmps, todo, defers := [], mode := .run, kind := .normal }
def Run (P : Program) (f n : Nat) (todo : List Item) (ρ : Env) (w : World) (R : Ending → World → Prop) : Prop :=
  ∀ tmps, Fits n ρ tmps → ∀ cs, ∃ e w' fr', R e w' ∧ Comes P (lone (fr f tmps todo) cs w) (lone fr' cs w') e ∧ fr'.fn = f ∧ fr'.leaving P w' e
section
variable {P : Program} {f n : Nat} {k : List Item} {ρ : Env} {w : World} {R : Ending → World → Prop}
theorem Run.mono {R' : Ending → World → Prop} {todo : List Item} (h : Run P f n todo ρ w R) (hr : ∀ e w', R e w' → R' e w') : Run P f n todo ρ w R' :=
  fun tmps ht cs => let ⟨e, w', fr', q, rest⟩ := h tmps ht cs; ⟨e, w', fr', hr _ _ q, rest⟩
def updO (ρ : Env) : Option Nat → Value → Env
  | some d, v => upd ρ d v
  | none, _ => ρ
def okO (n : Nat) : Option Nat → Bool
  | some d => Nat.blt d n
  | none => true
theorem Fits.putO {tmps : Array Value} (h : Fits n ρ tmps) {d : Option Nat} (hd : okO n d = true) (v : Value) : Fits n (updO ρ d v) ((⟨tmps, []⟩ : Act).put d v).tmps := by
  cases d with
  | none => exact h
  | some d => exact h.set hd v
section ops
variable {ops : Array Oper} {rest : List Nat} {i : Nat}
end ops
end
end Gw
namespace Gw
open Go Go.RowKit
abbrev Ghost := Nat → Option Obj
def hp (w : World) : Ghost := fun b => w.heap[b]?
def Le (h h' : Ghost) : Prop := ∀ b o, h b = some o → h' b = some o
theorem Le.refl (h : Ghost) : Le h h := fun _ _ e => e
theorem Le.trans {a b c : Ghost} (h : Le a b) (k : Le b c) : Le a c := fun x o e => k x o (h x o e)
def gor (h k : Ghost) : Ghost := fun b => match h b with | some o => some o | none => k b
theorem Le.gor_left (h k : Ghost) : Le h (gor h k) := fun b o e => by simp [gor, e]
theorem Le.gor_right {h k : Ghost} (hd : ∀ b o, h b = some o → k b = none) : Le k (gor h k) := fun b o e => by
  unfold gor
  cases hb : h b with
  | none => exact e
  | some o' => rw [hd b o' hb] at e; cases e
def gcell (h : Ghost) (a : Addr) : Option Value :=
  match h a.block with
  | some (.cells c _ _) => if a.spot.isSome then none else c[a.off]?
  | _ => none
theorem gcell_mono {h h' : Ghost} (hl : Le h h') {a : Addr} {v : Value} (hc : gcell h a = some v) : gcell h' a = some v := by
  unfold gcell at hc ⊢
  cases hb : h a.block with
  | none => rw [hb] at hc; cases hc
  | some o => rw [hb] at hc; rw [hl _ _ hb]; exact hc
theorem gcell_world {w : World} {h : Ghost} (hl : Le h (hp w)) {a : Addr} {v : Value} (hc : gcell h a = some v) : w.cell? a = some v := gcell_mono hl hc
structure Kd (α : Type) where
  sz : Nat
  pos : 0 < sz
  rep : Ghost → α → List Value → Prop
  mono : ∀ {h h' : Ghost} {x : α} {cs : List Value}, Le h h' → rep h x cs → rep h' x cs
  len : ∀ {h : Ghost} {x : α} {cs : List Value}, rep h x cs → cs.length = sz
  one : ∀ {h : Ghost} {x : α} {cs : List Value}, rep h x cs → ∀ u ∈ cs, u.oneCell' = true
def Kd.flat {α : Type} (enc : α → List Value) (ok : α → Prop) (n : Nat) (hp : 0 < n) (hl : ∀ x, ok x → (enc x).length = n) (h1 : ∀ x, ∀ u ∈ enc x, u.oneCell' = true) : Kd α where
  sz := n
  pos := hp
  rep := fun _ x cs => cs = enc x ∧ ok x
  mono := fun _ h => h
  len := fun h => by rw [h.1]; exact hl _ h.2
  one := fun h => by rw [h.1]; exact h1 _
def inK (k : IntKind) (x : Int) : Prop := k.min ≤ x ∧ x ≤ k.max
def Kd.int (k : IntKind) : Kd Int := .flat (fun x => [.int k x]) (inK k) 1 (by omega) (fun _ _ => rfl) (fun _ u hu => by simp at hu; subst hu; rfl)
def Kd.bool : Kd Bool := .flat (fun x => [.bool x]) (fun _ => True) 1 (by omega) (fun _ _ => rfl) (fun _ u hu => by simp at hu; subst hu; rfl)
def Elems {α : Type} (k : Kd α) (h : Ghost) (xs : List α) (cs : List Value) : Prop :=
  cs.length = xs.length * k.sz ∧ ∀ i x, xs[i]? = some x → k.rep h x ((cs.drop (i * k.sz)).take k.sz)
def Leads {α : Type} (k : Kd α) (h : Ghost) (A : Option Addr) (xs : List α) : Prop :=
  xs ≠ [] → ∃ ad, A = some ad ∧ ∀ i x, xs[i]? = some x → ∃ seg, k.rep h x seg ∧ ∀ j v, seg[j]? = some v → gcell h (ad.add (i * k.sz + j)) = some v
theorem Leads.mono {α : Type} {k : Kd α} {h h' : Ghost} {A : Option Addr} {xs : List α} (hl : Le h h') (hr : Leads k h A xs) : Leads k h' A xs := fun hne => by
  obtain ⟨ad, e, hx⟩ := hr hne
  exact ⟨ad, e, fun i x hi => let ⟨seg, h1, h2⟩ := hx i x hi; ⟨seg, k.mono hl h1, fun j v hj => gcell_mono hl (h2 j v hj)⟩⟩
def Kd.slice {α : Type} (k : Kd α) : Kd (List α) where
  sz := 1
  pos := by omega
  rep := fun h xs cs => ∃ A c, cs = [.slice A xs.length c] ∧ xs.length ≤ c ∧ c ≤ maxLen ∧ Leads k h A xs
  mono := fun hl ⟨A, c, h1, h2, h3, h4⟩ => ⟨A, c, h1, h2, h3, h4.mono hl⟩
  len := fun ⟨_, _, h, _⟩ => by rw [h]; rfl
  one := fun ⟨_, _, h, _⟩ u hu => by rw [h] at hu; simp at hu; subst hu; rfl
def Kd.pair {α β : Type} (a : Kd α) (b : Kd β) : Kd (α × β) where
  sz := a.sz + b.sz
  pos := by have := a.pos; omega
  rep := fun h x cs => ∃ c1 c2, cs = c1 ++ c2 ∧ a.rep h x.1 c1 ∧ b.rep h x.2 c2
  mono := fun hl ⟨c1, c2, h1, h2, h3⟩ => ⟨c1, c2, h1, a.mono hl h2, b.mono hl h3⟩
  len := fun ⟨c1, c2, h1, h2, h3⟩ => by rw [h1, List.length_append, a.len h2, b.len h3]
  one := fun ⟨c1, c2, h1, h2, h3⟩ u hu => by
    rw [h1] at hu
    rcases List.mem_append.1 hu with h | h
    · exact a.one h2 u h
    · exact b.one h3 u h
def Kd.iso {α β : Type} (a : Kd α) (g : β → α) : Kd β where
  sz := a.sz
  pos := a.pos
  rep := fun h x cs => a.rep h (g x) cs
  mono := fun hl h => a.mono hl h
  len := fun h => a.len h
  one := fun h => a.one h
structure Asrt where
  holds : Ghost → World → (Nat → Prop) → Prop
  mono : ∀ {h h' : Ghost} {w : World} {F : Nat → Prop}, Le h h' → holds h w F → holds h' w F
  far : ∀ {h : Ghost} {w w' : World} {F : Nat → Prop}, (∀ b, F b → w'.heap[b]? = w.heap[b]?) → holds h w F → holds h w' F
def box (b : Nat) (T : TypeId) (cs : List Value) : Asrt where
  holds := fun _ w F => w.heap[b]? = some (.cells cs.toArray T (0, 0)) ∧ F b
  mono := fun _ h => h
  far := fun hf h => ⟨by rw [hf b h.2]; exact h.1, h.2⟩
def Sep (h : Ghost) (w : World) (U : Nat → Prop) (L : List Asrt) : Prop :=
  ∃ Fs : Nat → Nat → Prop, (∀ i A, L[i]? = some A → A.holds h w (Fs i) ∧ ∀ b, Fs i b → U b) ∧ ∀ i j, i < L.length → j < L.length → i ≠ j → ∀ b, Fs i b → ¬ Fs j b
structure Chg (w w' : World) (F : Nat → Prop) : Prop where
  os : w'.os = w.os
  tape : w'.tape = w.tape
  output : w'.output = w.output
  size : w.heap.size ≤ w'.heap.size
  block : ∀ b, b < w.heap.size → ¬ F b → w'.heap[b]? = w.heap[b]?
theorem Chg.mono {w w' : World} {F G : Nat → Prop} (h : Chg w w' F) (hg : ∀ b, F b → G b) : Chg w w' G := ⟨h.os, h.tape, h.output, h.size, fun b hb hn => h.block b hb (fun hf => hn (hg b hf))⟩
theorem Chg.of_below {w w' : World} (h : Below w.heap.size w w') : Chg w w' (fun _ => False) := ⟨h.os, h.tape, h.output, h.size, fun b hb _ => h.block b hb⟩
theorem Chg.below {w w' : World} (h : Chg w w' (fun _ => False)) : Below w.heap.size w w' := ⟨h.os, h.tape, h.output, h.size, fun b hb => h.block b hb (fun x => x)⟩
theorem Chg.alloc (w : World) (o : Obj) : Chg w (w.alloc o) (fun _ => False) := ⟨rfl, rfl, rfl, by simp, fun b hb _ => Below.heap_alloc w o b hb⟩
theorem Chg.refl (w : World) (F : Nat → Prop) : Chg w w F := ⟨rfl, rfl, rfl, Nat.le_refl _, fun _ _ _ => rfl⟩
theorem Chg.grown {w w' : World} {r : Option Nat} (h : w.grownBy w' r) : Chg w w' (fun b => r = some b) := ⟨h.os, h.tape, h.output, h.size, fun b hb hn => h.block b hb (fun e => hn e.symm)⟩
def Uw (base : Nat) (h : Ghost) (w : World) : Nat → Prop := fun b => base ≤ b ∧ b < w.heap.size ∧ h b = none
structure St (base : Nat) (w0 : World) (h : Ghost) (w : World) (L : List Asrt) : Prop where
  below : Below base w0 w
  bsz : base ≤ w.heap.size
  ghost : Le h (hp w)
  dom : ∀ b o, h b = some o → base ≤ b
  sep : Sep h w (Uw base h w) L
section
variable {base : Nat} {w0 w w' : World} {h : Ghost} {L : List Asrt}
theorem hp_lt {w : World} {b : Nat} {o : Obj} (h : hp w b = some o) : b < w.heap.size := by
  rcases Nat.lt_or_ge b w.heap.size with hlt | hge
  · exact hlt
  · unfold hp at h; rw [Array.getElem?_eq_none hge] at h; cases h
theorem St.upd (S : St base w0 h w L) {i : Nat} {A A' : Asrt} (hi : L[i]? = some A)
    (hm : ∀ F, A.holds h w F → (∀ b, F b → Uw base h w b) → Chg w w' F ∧ ∃ F', A'.holds h w' F' ∧ ∀ b, F' b → F b ∨ (w.heap.size ≤ b ∧ b < w'.heap.size)) :
    St base w0 h w' (L.set i A') := by
  obtain ⟨Fs, hF, hD⟩ := S.sep
  obtain ⟨hA, hU⟩ := hF i A hi
  obtain ⟨hc, F', hA', hF'⟩ := hm _ hA hU
  have hlen : i < L.length := (List.getElem?_eq_some_iff.1 hi).1
  have hsame : ∀ b, b < w.heap.size → ¬ Fs i b → w'.heap[b]? = w.heap[b]? := hc.block
  have hfresh : ∀ b, w.heap.size ≤ b → h b = none := fun b hb => by
    cases e : h b with
    | none => rfl
    | some o => have := hp_lt (S.ghost b o e); omega
  refine ⟨?_, Nat.le_trans S.bsz hc.size, ?_, S.dom, ?_⟩
  · refine S.below.trans ⟨hc.os, hc.tape, hc.output, hc.size, fun b hb => hsame b (Nat.lt_of_lt_of_le hb S.bsz) (fun hf => ?_)⟩
    have := (hU b hf).1; omega
  · intro b o e
    have h1 := S.ghost b o e
    have hlt := hp_lt h1
    unfold hp at h1 ⊢
    rw [hsame b hlt (fun hf => by have := (hU b hf).2.2; rw [e] at this; cases this)]
    exact h1
  · refine ⟨fun j => if j = i then F' else Fs j, fun j B hj => ?_, fun j m hjl hml hjm b hb1 hb2 => ?_⟩
    · by_cases hji : j = i
      · subst hji
        rw [List.getElem?_set_self hlen] at hj
        injection hj with hj
        subst hj
        simp only [if_true]
        refine ⟨hA', fun b hb => ?_⟩
        rcases hF' b hb with hb | hb
        · exact ⟨(hU b hb).1, Nat.lt_of_lt_of_le (hU b hb).2.1 hc.size, (hU b hb).2.2⟩
        · exact ⟨Nat.le_trans S.bsz hb.1, hb.2, hfresh b hb.1⟩
      · rw [List.getElem?_set_ne (fun e => hji e.symm)] at hj
        obtain ⟨hB, hUB⟩ := hF j B hj
        have hjlen : j < L.length := (List.getElem?_eq_some_iff.1 hj).1
        simp only [if_neg hji]
        refine ⟨B.far (fun b hb => hsame b (hUB b hb).2.1 (fun hf => hD j i hjlen hlen hji b hb hf)) hB, fun b hb => ?_⟩
        exact ⟨(hUB b hb).1, Nat.lt_of_lt_of_le (hUB b hb).2.1 hc.size, (hUB b hb).2.2⟩
    · have hjl' : j < L.length := by simpa using hjl
      have hml' : m < L.length := by simpa using hml
      have key : ∀ q, q < L.length → q ≠ i → ∀ b, F' b → ¬ Fs q b := fun q hq hqi b hb hb' => by
        rcases hF' b hb with hb | hb
        · exact hD i q hlen hq (fun e => hqi e.symm) b hb hb'
        · have hQ := (hF q (L[q]) (List.getElem?_eq_getElem hq)).2 b hb'
          have := hQ.2.1; omega
      by_cases hji : j = i
      · subst hji
        have hmi : m ≠ j := fun e => hjm e.symm
        simp only [if_true] at hb1
        simp only [if_neg hmi] at hb2
        exact key m hml' hmi b hb1 hb2
      · simp only [if_neg hji] at hb1
        by_cases hmi : m = i
        · subst hmi
          simp only [if_true] at hb2
          exact key j hjl' hji b hb2 hb1
        · simp only [if_neg hmi] at hb2
          exact hD j m hjl' hml' hjm b hb1 hb2
theorem St.keep (S : St base w0 h w L) (hc : Chg w w' (fun _ => False)) : St base w0 h w' L := by
  obtain ⟨Fs, hF, hD⟩ := S.sep
  have hsame : ∀ b, b < w.heap.size → w'.heap[b]? = w.heap[b]? := fun b hb => hc.block b hb (fun x => x)
  refine ⟨S.below.trans ⟨hc.os, hc.tape, hc.output, hc.size, fun b hb => hsame b (Nat.lt_of_lt_of_le hb S.bsz)⟩, Nat.le_trans S.bsz hc.size, ?_, S.dom, Fs, fun i A hi => ?_, hD⟩
  · intro b o e
    have h1 := S.ghost b o e
    unfold hp at h1 ⊢
    rw [hsame b (hp_lt h1)]; exact h1
  · obtain ⟨hA, hU⟩ := hF i A hi
    exact ⟨A.far (fun b hb => hsame b (hU b hb).2.1) hA, fun b hb => ⟨(hU b hb).1, Nat.lt_of_lt_of_le (hU b hb).2.1 hc.size, (hU b hb).2.2⟩⟩
theorem St.call {hn : Ghost} {M : List Asrt} (S : St base w0 h w L) (T : St w.heap.size w hn w' M) : St base w0 (gor h hn) w' (L ++ M) := by
  have S' := S.keep (Chg.of_below T.below)
  obtain ⟨Fs, hF, hD⟩ := S.sep
  obtain ⟨Gs, hG, hE⟩ := T.sep
  have hhn : ∀ b, b < w.heap.size → hn b = none := fun b hb => by
    cases e : hn b with
    | none => rfl
    | some o => have := T.dom b o e; omega
  have hh : ∀ b, w.heap.size ≤ b → h b = none := fun b hb => by
    cases e : h b with
    | none => rfl
    | some o => have := hp_lt (S.ghost b o e); omega
  have hle2 : Le hn (gor h hn) := Le.gor_right fun b o e => hhn b (hp_lt (S.ghost b o e))
  refine ⟨S'.below, S'.bsz, ?_, ?_, ?_⟩
  · intro b o e
    unfold gor at e
    cases hb : h b with
    | none => rw [hb] at e; exact T.ghost b o e
    | some o' => rw [hb] at e; injection e with e; subst e; exact S'.ghost b _ hb
  · intro b o e
    unfold gor at e
    cases hb : h b with
    | none => rw [hb] at e; exact Nat.le_trans S.bsz (T.dom b o e)
    | some o' => exact S.dom b _ hb
  · have hlow : ∀ i A b, L[i]? = some A → Fs i b → b < w.heap.size := fun i A b hi hb => ((hF i A hi).2 b hb).2.1
    refine ⟨fun i => if i < L.length then Fs i else Gs (i - L.length), fun i A hi => ?_, fun i j hil hjl hij b hb1 hb2 => ?_⟩
    · by_cases hil : i < L.length
      · rw [List.getElem?_append_left hil] at hi
        obtain ⟨hA, hU⟩ := hF i A hi
        simp only [if_pos hil]
        refine ⟨A.mono (Le.gor_left _ _) (A.far (fun b hb => T.below.block b (hU b hb).2.1) hA), fun b hb => ?_⟩
        have hu := hU b hb
        refine ⟨hu.1, Nat.lt_of_lt_of_le hu.2.1 T.below.size, ?_⟩
        unfold gor; rw [hu.2.2]; exact hhn b hu.2.1
      · rw [List.getElem?_append_right (by omega)] at hi
        obtain ⟨hA, hU⟩ := hG _ A hi
        simp only [if_neg hil]
        refine ⟨A.mono hle2 hA, fun b hb => ?_⟩
        have hu := hU b hb
        refine ⟨Nat.le_trans S.bsz hu.1, hu.2.1, ?_⟩
        unfold gor; rw [hh b hu.1]; exact hu.2.2
    · rw [List.length_append] at hil hjl
      have low : ∀ q, q < L.length → Fs q b → b < w.heap.size := fun q hq hb => hlow q _ b (List.getElem?_eq_getElem hq) hb
      have high : ∀ q, q < M.length → Gs q b → w.heap.size ≤ b := fun q hq hb => ((hG q _ (List.getElem?_eq_getElem hq)).2 b hb).1
      by_cases hi : i < L.length <;> by_cases hj : j < L.length
      · simp only [if_pos hi] at hb1; simp only [if_pos hj] at hb2
        exact hD i j hi hj hij b hb1 hb2
      · simp only [if_pos hi] at hb1; simp only [if_neg hj] at hb2
        have := low i hi hb1; have := high _ (by omega) hb2; omega
      · simp only [if_neg hi] at hb1; simp only [if_pos hj] at hb2
        have := low j hj hb2; have := high _ (by omega) hb1; omega
      · simp only [if_neg hi] at hb1; simp only [if_neg hj] at hb2
        exact hE _ _ (by omega) (by omega) (by omega) b hb1 hb2
theorem add_add (a : Addr) (i j : Nat) : (a.add i).add j = a.add (i + j) := by
  unfold Addr.add
  by_cases hi : i = 0 <;> by_cases hj : j = 0 <;> simp [hi, hj, Nat.add_assoc]
end
end Gw
namespace Gw
open Go Go.RowKit
def aggD : TypeDesc → Bool
  | .struct _ | .array _ _ => true
  | _ => false
def tyInfo (P : Program) (T : TypeId) : Option (Nat × Nat × Bool × Option Value) :=
  match P.info? T, P.underlying T with
  | some i, some d => some (i.size, i.bytes, aggD d, i.zero)
  | _, _ => none
theorem tyInfo_parts {P : Program} {T : TypeId} {n b : Nat} {g : Bool} {z : Option Value} (h : tyInfo P T = some (n, b, g, z)) :
    ∃ i d, P.info? T = some i ∧ P.underlying T = some d ∧ i.size = n ∧ i.bytes = b ∧ aggD d = g ∧ i.zero = z := by
  unfold tyInfo at h
  split at h
  · rename_i i d hi hd
    simp only [Option.some.injEq, Prod.mk.injEq] at h
    exact ⟨i, d, hi, hd, h.1, h.2.1, h.2.2.1, h.2.2.2⟩
  · cases h
section
variable {P : Program} {w : World}
theorem run_isAgg {T : TypeId} {d : TypeDesc} (hd : P.underlying T = some d) : (isAgg T).run P w = .ok (aggD d) w := by
  simp only [isAgg, Sem.run_bind]
  rw [run_underlying hd]
  simp only [Result.andThen_ok]
  cases d <;> rfl
theorem rn_sizeOf {T : TypeId} {i : TypeInfo} (hi : P.info? T = some i) : (Go.sizeOf T).run P w = Result.ok i.size w := by
  simp [Go.sizeOf, typeInfo, hi, go_sem]
theorem run_loadCellsFrom (a : Addr) : ∀ (l : List Value) (i : Nat) (acc : Array Value), (∀ j u, l[j]? = some u → w.cell? (a.add (i + j)) = some u) →
    (loadCellsFrom a i l.length acc).run P w = .ok (acc ++ l.toArray) w
  | [], i, acc, _ => by simp [loadCellsFrom, go_sem]
  | v :: l, i, acc, h => by
    have h0 := h 0 v rfl
    have ih := run_loadCellsFrom a l (i + 1) (acc.push v) (fun j u hj => by have := h (j + 1) u (by simpa using hj); rwa [show i + 1 + j = i + (j + 1) by omega])
    simp only [List.length_cons, loadCellsFrom, Sem.run_bind]
    rw [show (load (a.add i)).run P w = .ok v w by
      unfold load
      simp only [Nat.add_zero] at h0
      simp only [Sem.run, h0]]
    simp only [Result.andThen_ok]
    rw [ih]
    simp
theorem run_loadCells {a : Addr} {l : List Value} {n : Nat} (hn : l.length = n) (h : ∀ j u, l[j]? = some u → w.cell? (a.add j) = some u) : (loadCells a n).run P w = .ok l.toArray w := by
  subst hn
  unfold loadCells
  rw [run_loadCellsFrom a l 0 #[] (fun j u hj => by rw [Nat.zero_add]; exact h j u hj)]
  simp
def packV (g : Bool) (cs : List Value) : Value := if g then .agg cs.toArray else cs.headD undef
theorem run_loadVar {T : TypeId} {n b : Nat} {g : Bool} {z : Option Value} {a : Addr} {cs : List Value} (ht : tyInfo P T = some (n, b, g, z)) (hn : cs.length = n) (h1 : g = false → n = 1)
    (h : ∀ j u, cs[j]? = some u → w.cell? (a.add j) = some u) : (loadVar T a).run P w = .ok (packV g cs) w := by
  obtain ⟨i, d, hi, hd, hs, _, hg, _⟩ := tyInfo_parts ht
  simp only [loadVar, Sem.run_bind, run_isAgg hd, Result.andThen_ok, hg]
  cases g with
  | true =>
    simp only [if_true, Sem.run_bind, rn_sizeOf hi, Result.andThen_ok, hs]
    rw [run_loadCells hn h]
    simp [packV, go_sem]
  | false =>
    have hn1 := h1 rfl
    match cs, hn.trans hn1 with
    | [v], _ =>
      have h0 := h 0 v rfl
      have : w.cell? a = some v := by simpa [Addr.add] using h0
      simp [packV, load, Sem.run, this]
def putBlock (w : World) (b : Nat) (T : TypeId) (cs : List Value) : World := { w with heap := w.heap.setIfInBounds b (.cells cs.toArray T (0, 0)) }
theorem putBlock_chg (w : World) (b : Nat) (T : TypeId) (cs : List Value) : Chg w (putBlock w b T cs) (fun x => x = b) where
  os := rfl
  tape := rfl
  output := rfl
  size := by simp [putBlock]
  block := fun x _ hn => by
    simp only [putBlock, Array.getElem?_setIfInBounds]
    rw [if_neg (fun e => hn e.symm)]
theorem putBlock_at {b : Nat} (hb : b < w.heap.size) (T : TypeId) (cs : List Value) : (putBlock w b T cs).heap[b]? = some (.cells cs.toArray T (0, 0)) := by
  simp [putBlock, hb]
theorem putBlock_put (w : World) (b : Nat) (T : TypeId) (cs ds : List Value) : putBlock (putBlock w b T cs) b T ds = putBlock w b T ds := by
  simp [putBlock, Array.setIfInBounds_setIfInBounds]
theorem putBlock_size (w : World) (b : Nat) (T : TypeId) (cs : List Value) : (putBlock w b T cs).heap.size = w.heap.size := by simp [putBlock]
theorem setCell_box {b off : Nat} {T : TypeId} {cs : List Value} (hb : w.heap[b]? = some (.cells cs.toArray T (0, 0))) (v : Value) : w.setCell ⟨b, off, none⟩ v = putBlock w b T (cs.set off v) := by
  have hlt : b < w.heap.size := (Array.getElem?_eq_some_iff.1 hb).1
  unfold World.setCell putBlock
  congr 1
  apply Array.ext_getElem?
  intro i
  rw [Array.getElem?_modify, Array.getElem?_setIfInBounds]
  by_cases hi : b = i
  · subst hi
    rw [if_pos rfl, if_pos rfl, hb, if_pos hlt]
    simp
  · rw [if_neg hi, if_neg hi]
theorem cell_box {b off : Nat} {T : TypeId} {cs : List Value} (hb : w.heap[b]? = some (.cells cs.toArray T (0, 0))) : w.cell? ⟨b, off, none⟩ = cs[off]? := by
  simp [World.cell?, hb]
theorem frozen_box {b off : Nat} {T : TypeId} {cs : List Value} (hb : w.heap[b]? = some (.cells cs.toArray T (0, 0))) : w.frozen? ⟨b, off, none⟩ = false := by
  simp [World.frozen?, hb]
theorem run_store_box {b off : Nat} {T : TypeId} {cs : List Value} {v : Value} (hb : w.heap[b]? = some (.cells cs.toArray T (0, 0))) (ho : off < cs.length) (h1 : v.oneCell' = true) :
    (store ⟨b, off, none⟩ v).run P w = .ok () (putBlock w b T (cs.set off v)) := by
  rw [run_store P w _ v _ h1, cell_box hb, List.getElem?_eq_getElem ho]
  simp only [frozen_box hb]
  rw [setCell_box hb]
  rfl
def lput (cs : List Value) (off : Nat) : List Value → List Value
  | [] => cs
  | v :: vs => lput (cs.set off v) (off + 1) vs
theorem lput_length (vs : List Value) : ∀ (cs : List Value) (off : Nat), (lput cs off vs).length = cs.length := by
  induction vs with
  | nil => intro cs off; rfl
  | cons v vs ih => intro cs off; simp [lput, ih]
theorem lput_get (vs : List Value) : ∀ (cs : List Value) (off i : Nat), off + vs.length ≤ cs.length → (lput cs off vs)[i]? = if off ≤ i ∧ i < off + vs.length then vs[i - off]? else cs[i]? := by
  induction vs with
  | nil => intro cs off i h; rw [if_neg (by simp only [List.length_nil]; omega)]; rfl
  | cons v vs ih =>
    intro cs off i h
    simp only [List.length_cons] at h
    simp only [lput]
    rw [ih _ _ _ (by rw [List.length_set]; omega)]
    by_cases h1 : off = i
    · subst h1
      rw [if_neg (by omega), if_pos (by simp), List.getElem?_set_self (by omega)]
      simp
    · by_cases h2 : off + 1 ≤ i ∧ i < off + 1 + vs.length
      · rw [if_pos h2, if_pos (by simp; omega), show i - off = (i - (off + 1)) + 1 by omega, List.getElem?_cons_succ]
      · rw [if_neg h2, if_neg (by simp; omega), List.getElem?_set_ne h1]
theorem lput_eq (vs cs : List Value) (off : Nat) (h : off + vs.length ≤ cs.length) : lput cs off vs = cs.take off ++ vs ++ cs.drop (off + vs.length) := by
  apply List.ext_getElem?
  intro i
  rw [lput_get vs cs off i h]
  simp only [List.getElem?_append, List.length_append, List.length_take, List.getElem?_take, List.getElem?_drop]
  rw [Nat.min_eq_left (by omega)]
  by_cases h1 : i < off
  · rw [if_neg (by omega), if_pos (by omega), if_pos h1, if_pos h1]
  · by_cases h2 : i < off + vs.length
    · rw [if_pos (by omega), if_pos h2, if_neg h1]
    · rw [if_neg (by omega), if_neg h2]
      congr 1
      omega
theorem run_storeCells_box (vs : List Value) : ∀ (w : World) (b off i : Nat) (T : TypeId) (cs : List Value), w.heap[b]? = some (.cells cs.toArray T (0, 0)) → off + i + vs.length ≤ cs.length → (∀ u ∈ vs, u.oneCell' = true) →
    (storeCells ⟨b, off, none⟩ vs i).run P w = .ok () (putBlock w b T (lput cs (off + i) vs)) := by
  induction vs with
  | nil =>
    intro w b off i T cs hb hl h1
    have hlt : b < w.heap.size := (Array.getElem?_eq_some_iff.1 hb).1
    simp only [storeCells, lput]
    have : putBlock w b T cs = w := by
      unfold putBlock
      congr 1
      apply Array.ext_getElem?
      intro x
      rw [Array.getElem?_setIfInBounds]
      split
      · rename_i e; subst e; rw [hb]; try rw [if_pos hlt]
      · rfl
    rw [this]
    rfl
  | cons v vs ih =>
    intro w b off i T cs hb hl h1
    simp only [List.length_cons] at hl
    have hlt : b < w.heap.size := (Array.getElem?_eq_some_iff.1 hb).1
    have hadd : (⟨b, off, none⟩ : Addr).add i = ⟨b, off + i, none⟩ := by unfold Addr.add; split <;> simp_all
    simp only [storeCells, Sem.run_bind]
    rw [hadd, run_store_box hb (by omega) (h1 v (by simp))]
    simp only [Result.andThen_ok]
    rw [ih (putBlock w b T (cs.set (off + i) v)) b off (i + 1) T (cs.set (off + i) v) (putBlock_at hlt _ _) (by simp; omega) (fun u hu => h1 u (by simp [hu]))]
    rw [putBlock_put]
    rfl
theorem run_storeVar_box {b off : Nat} {T E : TypeId} {cs : List Value} {v : Value} {n by' : Nat} {g : Bool} {z : Option Value} (ht : tyInfo P T = some (n, by', g, z)) (hb : w.heap[b]? = some (.cells cs.toArray E (0, 0)))
    (hv : v.cells.size = n) (ho : off + n ≤ cs.length) (h1 : ∀ u ∈ v.cells.toList, u.oneCell' = true) :
    (storeVar T ⟨b, off, none⟩ v).run P w = .ok () (putBlock w b E (lput cs off v.cells.toList)) := by
  obtain ⟨i, d, hi, hd, hs, _, hg, _⟩ := tyInfo_parts ht
  simp only [storeVar, Sem.run_bind, rn_sizeOf hi, Result.andThen_ok]
  rw [if_neg (by rw [hs]; simp [hv])]
  have := run_storeCells_box (P := P) v.cells.toList w b off 0 E cs hb (by simp [hv]; omega) h1
  simpa [go_sem] using this
end
end Gw
namespace Gw
open Go Go.RowKit
set_option linter.unusedSimpArgs false
section
variable {P : Program} {w : World} {ρ : Env} {d : Option Tmp} {ty : TypeId} {pos : String} {af : Array Edge} {g : Option (Nat × Bool)} {x y : Operand}
theorem x_move {v : Value} (h : ev ρ x = v) : (execOp (ev ρ) ⟨d, .move x, ty, pos, af, g⟩).run P w = .ok (.value v) w := by subst h; rfl
theorem x_assign {v : Value} (h : ev ρ x = v) : (execOp (ev ρ) ⟨d, .assign x, ty, pos, af, g⟩).run P w = .ok (.value v) w := by subst h; rfl
theorem x_pick_t {c : Operand} {v : Value} (hc : ev ρ c = .bool true) (h : ev ρ x = v) : (execOp (ev ρ) ⟨d, .pick c x y, ty, pos, af, g⟩).run P w = .ok (.value v) w := by
  subst h; simp [execOp, hc, asBool, go_sem]
theorem x_pick_f {c : Operand} {v : Value} (hc : ev ρ c = .bool false) (h : ev ρ y = v) : (execOp (ev ρ) ⟨d, .pick c x y, ty, pos, af, g⟩).run P w = .ok (.value v) w := by
  subst h; simp [execOp, hc, asBool, go_sem]
theorem x_extract {vs : List Value} {v : Value} {j : Nat} (hx : ev ρ x = .tuple vs.toArray) (hj : vs[j]? = some v) : (execOp (ev ρ) ⟨d, .extract x j, ty, pos, af, g⟩).run P w = .ok (.value v) w := by
  simp [execOp, hx, Instr.extract, hj, go_sem]
theorem x_len_slice {A : Option Addr} {n c : Nat} {t : TypeId} {E : TypeId} (ht : P.underlying t = some (.slice E)) (hx : ev ρ x = .slice A n c) : (execOp (ev ρ) ⟨d, .call ⟨.builtin .len, #[x], #[t]⟩, ty, pos, af, g⟩).run P w = .ok (.value (.int .i64 n)) w := by
  simp [execOp, resolve, invoke, builtin, Builtin.len_, run_underlying ht, hx, goInt, go_sem]
theorem x_makeFunc {fn : Fn} {fs cs : Array Operand} {fv cv : Array Value} (hf : fs.map (ev ρ) = fv) (hc : cs.map (ev ρ) = cv) : (execOp (ev ρ) ⟨d, .makeFunc fn fs cs, ty, pos, af, g⟩).run P w = .ok (.value (.func fn fv cv)) w := by
  subst hf; subst hc; simp [execOp, Instr.makeFunc, go_sem]
def Callable (P : Program) (f : FuncId) : Prop := ∃ fn : Func, P.funcs[f]? = some fn ∧ fn.body.isNone = false ∧ (fn.name == "runtime.NumGoroutine") = false
theorem x_call {fo : Operand} {f : FuncId} {al : Array Operand} {ts : Array TypeId} {cap args : Array Value} (hf : Callable P f)
    (ho : ev ρ fo = .func (.func f) #[] cap) (ha : al.map (ev ρ) ++ cap = args) : (execOp (ev ρ) ⟨d, .call ⟨.value fo, al, ts⟩, ty, pos, af, g⟩).run P w = .ok (.enter f args) w := by
  subst ha
  obtain ⟨fn, hf, hb, hn⟩ := hf
  have h1 : ¬ fn.name = "runtime.NumGoroutine" := by simpa using hn
  have h2 : ¬ fn.body = none := by intro e; rw [e] at hb; cases hb
  simp [execOp, resolve, ho, Deferred.ofValue, invoke, callFunc, program, Sem.run, hf, h1, h2, go_sem]
end
end Gw
namespace Gw
open Go Go.RowKit
set_option linter.unusedSimpArgs false
section
variable {P : Program} {f n : Nat} {k : List Item} {ρ : Env} {w : World} {R : Ending → World → Prop} {ops : Array Oper} {rest : List Nat} {i : Nat}
variable {d : Tmp} {ty : TypeId} {pos : String} {af : Array Edge} {x y : Operand} {op : Op}
variable {base : Nat} {w0 : World} {h : Ghost} {L : List Asrt}
theorem box_new (w : World) (T : TypeId) (cs : List Value) (h : Ghost) : (box w.heap.size T cs).holds h (w.alloc (.cells cs.toArray T)) (fun b => b = w.heap.size) := by
  refine ⟨?_, rfl⟩
  show (w.heap.push (.cells cs.toArray T))[w.heap.size]? = _
  simp
theorem St.alloc (S : St base w0 h w L) (T : TypeId) (cs : List Value) : St base w0 h (w.alloc (.cells cs.toArray T)) (L ++ [box w.heap.size T cs]) := by
  have T1 : St w.heap.size w (fun _ => none) (w.alloc (.cells cs.toArray T)) [box w.heap.size T cs] := by
    refine ⟨(Chg.alloc w _).below, by simp, fun _ _ e => (by cases e), fun _ _ e => (by cases e), fun _ b => b = w.heap.size, fun j A hj => ?_, fun i j hi hj hij => ?_⟩
    · have : j = 0 := by
        have := (List.getElem?_eq_some_iff.1 hj).1
        simpa using this
      subst this
      simp only [List.getElem?_cons_zero, Option.some.injEq] at hj
      subst hj
      exact ⟨box_new w T cs _, fun b hb => ⟨by omega, by subst hb; simp, rfl⟩⟩
    · simp at hi hj; omega
  have := S.call T1
  have e : gor h (fun _ => none) = h := by funext b; unfold gor; cases h b <;> rfl
  rwa [e] at this
theorem zero_cells {T : TypeId} {n b : Nat} {g : Bool} {z : Value} (ht : tyInfo P T = some (n, b, g, some z)) : (zeroValue T).run P w = .ok z w := by
  obtain ⟨i, dd, hi, _, _, _, _, hz⟩ := tyInfo_parts ht
  simp [zeroValue, typeInfo, hi, hz, go_sem]
theorem x_fieldAddr {dd : Option Tmp} {g : Option (Nat × Bool)} {b off q o : Nat} {T : TypeId} {fs : Array Field} {fd : Field} {m b' : Nat} {gg : Bool} {z : Option Value} (ht : P.underlying T = some (.struct fs)) (hf : fs[q]? = some fd) (ho : fd.offset = o) (hs : tyInfo P fd.type = some (m, b', gg, z)) (hm : 0 < m)
    (hx : ev ρ x = .pointer (some ⟨b, off, none⟩)) : (execOp (ev ρ) ⟨dd, .fieldAddr T x q, ty, pos, af, g⟩).run P w = .ok (.value (.pointer (some ⟨b, off + o, none⟩))) w := by
  obtain ⟨ii, d2, hi, hd2, hsz, _, _, _⟩ := tyInfo_parts hs
  have hadd : (⟨b, off, none⟩ : Addr).add o = ⟨b, off + o, none⟩ := by unfold Addr.add; split <;> simp_all
  subst ho
  simp [execOp, hx, Instr.fieldAt, Instr.sureAddr, run_underlying ht, hf, fieldPlace, rn_sizeOf hi, hsz, (show ¬ m = 0 by omega), hadd, go_sem]
theorem x_indexAddr_arr {dd : Option Tmp} {g : Option (Nat × Bool)} {b off len : Nat} {q : Int} {T E : TypeId} {kk : IntKind} {m b' : Nat} {gg : Bool} {z : Option Value} (ht : P.underlying T = some (.array len E)) (hs : tyInfo P E = some (m, b', gg, z))
    (hx : ev ρ x = .pointer (some ⟨b, off, none⟩)) (hy : ev ρ y = .int kk q) (h0 : 0 ≤ q) (h1 : q < len) : (execOp (ev ρ) ⟨dd, .indexAddr T x y, ty, pos, af, g⟩).run P w = .ok (.value (.pointer (some ⟨b, off + q.toNat * m, none⟩))) w := by
  obtain ⟨ii, d2, hi, hd2, hsz, _, _, _⟩ := tyInfo_parts hs
  have hadd : (⟨b, off, none⟩ : Addr).add (q.toNat * m) = ⟨b, off + q.toNat * m, none⟩ := by unfold Addr.add; split <;> simp_all
  simp [execOp, hx, hy, Instr.indexAt, asIntOf, Instr.sureAddr, run_underlying ht, rn_sizeOf hi, hsz, h0, h1, hadd, go_sem]
end
end Gw
namespace Gw
open Go Go.RowKit
set_option linter.unusedSimpArgs false
set_option linter.unusedSectionVars false
set_option linter.unusedVariables false
def resOne (tmps : Array Value) : ResultVar → Sem Value
  | .tmp t => pure (tmps.getD t undef)
  | .cell a t => do loadVar t (← asAddr (tmps.getD a undef))
section
variable {P : Program} {f n : Nat} {k : List Item} {ρ : Env} {w : World} {R : Ending → World → Prop} {base : Nat} {w0 : World} {h : Ghost} {L : List Asrt}
theorem results_eq (fn : Func) (tmps : Array Value) : results fn tmps = (do let vs ← fn.results.mapM (resOne tmps); pure (if h : vs.size = 1 then vs[0] else .tuple vs)) := by
  have e : (fun r : ResultVar => match r with | .tmp t => (pure (tmps.getD t undef) : Sem Value) | .cell a t => do loadVar t (← asAddr (tmps.getD a undef))) = resOne tmps := by
    funext r
    cases r <;> rfl
  rw [← e]
  rfl
end
def at_ {α : Type} [Inhabited α] (xs : List α) (i : Int) : α := xs.getD i.toNat default
theorem at_some {α : Type} [Inhabited α] {xs : List α} {i : Int} (h0 : 0 ≤ i) (h1 : i < (xs.length : Int)) : xs[i.toNat]? = some (at_ xs i) := by
  unfold at_
  rw [List.getD_eq_getElem?_getD, List.getElem?_eq_getElem (by omega)]
  rfl
def Seg {α : Type} (k : Kd α) (h : Ghost) (x : α) (ad : Addr) : Prop := ∃ seg, k.rep h x seg ∧ ∀ j u, seg[j]? = some u → gcell h (ad.add j) = some u
theorem Leads.seg {α : Type} [Inhabited α] {k : Kd α} {h : Ghost} {A : Option Addr} {xs : List α} (hl : Leads k h A xs) {i : Int} (h0 : 0 ≤ i) (h1 : i < (xs.length : Int)) : ∃ ad, A = some ad ∧ Seg k h (at_ xs i) (ad.add (i.toNat * k.sz)) := by
  obtain ⟨ad, e, hx⟩ := hl (by intro e; subst e; simp at h1; omega)
  obtain ⟨seg, h2, h3⟩ := hx _ _ (at_some h0 h1)
  exact ⟨ad, e, seg, h2, fun j u hj => by rw [add_add]; exact h3 j u hj⟩
section
variable {P : Program} {f n : Nat} {k : List Item} {ρ : Env} {w : World} {R : Ending → World → Prop} {ops : Array Oper} {rest : List Nat} {i : Nat}
variable {d : Tmp} {ty : TypeId} {pos : String} {af : Array Edge} {x y : Operand} {op : Op}
variable {base : Nat} {w0 : World} {h : Ghost} {L : List Asrt}
variable {α : Type} [Inhabited α] {kd : Kd α} {xs : List α}
theorem x_indexAddr_slice {A : Addr} {len cap : Nat} {q : Int} {T E : TypeId} {kk : IntKind} {dd : Option Tmp} {g : Option (Nat × Bool)} {m b' : Nat} {gg : Bool} {z : Option Value} (ht : P.underlying T = some (.slice E)) (hs : tyInfo P E = some (m, b', gg, z))
    (hx : ev ρ x = .slice (some A) len cap) (hy : ev ρ y = .int kk q) (h0 : 0 ≤ q) (h1 : q < len) : (execOp (ev ρ) ⟨dd, .indexAddr T x y, ty, pos, af, g⟩).run P w = .ok (.value (.pointer (some (A.add (q.toNat * m))))) w := by
  obtain ⟨ii, d2, hi, hd2, hsz, _, _, _⟩ := tyInfo_parts hs
  simp [execOp, hx, hy, Instr.indexAt, asIntOf, run_underlying ht, rn_sizeOf hi, hsz, h0, h1, go_sem]
end
end Gw
namespace Gw
open Go Go.RowKit
set_option linter.unusedSimpArgs false
set_option linter.unusedSectionVars false
set_option linter.unusedVariables false
theorem Elems.nil {α : Type} (k : Kd α) (h : Ghost) : Elems k h [] [] := ⟨by simp, fun i x hi => by simp at hi⟩
theorem Elems.one {α : Type} {k : Kd α} {h : Ghost} {xs : List α} {cs : List Value} (he : Elems k h xs cs) : ∀ u ∈ cs, u.oneCell' = true := by
  intro u hu
  obtain ⟨q, hq, rfl⟩ := List.mem_iff_getElem.1 hu
  have hp := k.pos
  have hql : q / k.sz < xs.length := by rw [Nat.div_lt_iff_lt_mul hp, ← he.1]; exact hq
  refine k.one (he.2 (q / k.sz) _ (List.getElem?_eq_getElem hql)) _ ?_
  rw [List.mem_iff_getElem?]
  refine ⟨q % k.sz, ?_⟩
  rw [List.getElem?_take, if_pos (Nat.mod_lt _ hp), List.getElem?_drop, Nat.mul_comm, Nat.div_add_mod, List.getElem?_eq_getElem hq]
section
variable {P : Program} {f n : Nat} {k : List Item} {ρ : Env} {w : World} {R : Ending → World → Prop} {ops : Array Oper} {rest : List Nat} {i : Nat}
variable {d : Tmp} {ty : TypeId} {pos : String} {af : Array Edge} {x y : Operand} {op : Op}
variable {base : Nat} {w0 : World} {h : Ghost} {L : List Asrt}
variable {α : Type} [Inhabited α] {kd : Kd α} {xs : List α}
end
end Gw
namespace Gw
open Go Go.RowKit
set_option linter.unusedSimpArgs false
set_option linter.unusedSectionVars false
set_option linter.unusedVariables false
section
variable {P : Program} {f n : Nat} {k : List Item} {ρ : Env} {w : World} {R : Ending → World → Prop} {ops : Array Oper} {rest : List Nat} {i : Nat}
variable {d : Tmp} {ty : TypeId} {pos : String} {af : Array Edge} {x y : Operand} {op : Op}
variable {base : Nat} {w0 : World} {h : Ghost} {L : List Asrt}
variable {α : Type} [Inhabited α] {kd : Kd α} {xs : List α}
theorem run_build_slice {T E : TypeId} {m b' len : Nat} {gg : Bool} {zv : Value} {pv : List (Nat × Value)} {cs : List Value} {zc : Array Value} (hT : P.underlying T = some (.slice E))
    (ht : tyInfo P E = some (m, b', gg, some zv)) (hsm : len * m ≤ 100000) (hz : (if len * m = 0 then #[] else zv.cells) = zc) (hf : Instr.fill (fun i => some (i * m, m)) ((Array.range (len * m)).map (zc[· % zc.size]!)) pv = some cs.toArray) :
    (Instr.buildSlice T len pv.toArray).run P w = .ok (.slice (some ⟨w.heap.size, 0, none⟩) len len) (w.alloc (.cells cs.toArray E)) := by
  obtain ⟨ii, dd, hi, _, hs, hby, _, hzz⟩ := tyInfo_parts ht
  have hns : ¬ (len * m > 2 ^ 24) := by omega
  have e : Instr.buildSlice T len pv.toArray = (do
    let .slice elem ← underlying T | stuck "buildSlice: slice type expected"
    let size ← Go.sizeOf elem
    if len * size > 2 ^ 24 then unsupported (.resourceLimit "buildSlice: more than 2^24 cells")
    let zero ← if len * size = 0 then pure #[] else do pure (← zeroValue elem).cells
    let some cells := Instr.fill (fun i => some (i * size, size)) ((Array.range (len * size)).map (zero[· % zero.size]!)) pv
      | stuck "buildSlice: a part of the wrong size"
    pure (.slice (some (← newRow elem cells)) len len)) := rfl
  rw [e]
  simp only [Sem.run_bind, run_underlying hT, Result.andThen_ok, rn_sizeOf hi, hs, if_neg hns]
  by_cases h0 : len * m = 0
  · rw [if_pos h0] at hz ⊢
    subst hz
    simp only [Sem.run_bind, Sem.run_pure, Result.andThen_ok, hf]
    rfl
  · rw [if_neg h0] at hz ⊢
    subst hz
    simp only [Sem.run_bind, Sem.run_pure, Result.andThen_ok, zero_cells ht, hf]
    rfl
theorem run_append_nothing {B : Nat} {t ty E : TypeId} {ii : TypeInfo} {sz n : Nat} {v : Value} {cs : List Value} (ht : P.underlying t = some (.slice E)) (hi : P.info? E = some ii) (hown : w.ownsRow B E sz v n cs) (c : Nat) : (Builtin.append_ #[t, t] ty #[v, .slice none 0 c]).run P w = .ok v w := by
  rcases hown.2 with ⟨rfl, rfl⟩ | ⟨g, cap, cur, rfl, _, _, hnc, _⟩
  · simp [Builtin.append_, run_underlying ht, Go.sizeOf, typeInfo, hi, Builtin.lenOf, Builtin.firstCells, go_sem]
  · simp [Builtin.append_, run_underlying ht, Go.sizeOf, typeInfo, hi, Builtin.lenOf, Builtin.firstCells, hnc, storeCells, go_sem]
theorem Leads.cells {A : Addr} {ys : List α} (hl : Leads kd (hp w) (some A) ys) : ∃ news, Elems kd (hp w) ys news ∧ ∀ j u, news[j]? = some u → w.cell? (A.add j) = some u := by
  rcases ys with _ | ⟨y0, ys'⟩
  · exact ⟨[], Elems.nil _ _, fun j u hj => by simp at hj⟩
  generalize hys : y0 :: ys' = ys at hl
  obtain ⟨ad, hA, hx⟩ := hl (by rw [← hys]; simp)
  injection hA with hA
  subst hA
  let news := (List.range (ys.length * kd.sz)).map fun j => (w.cell? (A.add j)).getD undef
  have hlen : news.length = ys.length * kd.sz := by simp [news]
  have hget : ∀ i e, ys[i]? = some e → ∃ seg, kd.rep (hp w) e seg ∧ ∀ q, q < kd.sz → w.cell? (A.add (i * kd.sz + q)) = seg[q]? := fun i e he => by
    obtain ⟨seg, h1, h2⟩ := hx i e he
    refine ⟨seg, h1, fun q hq => ?_⟩
    have hql : q < seg.length := by rw [kd.len h1]; exact hq
    rw [List.getElem?_eq_getElem hql]
    exact gcell_world (Le.refl _) (h2 q _ (List.getElem?_eq_getElem hql))
  have hcell : ∀ j u, news[j]? = some u → w.cell? (A.add j) = some u := fun j u hj => by
    have hjl : j < ys.length * kd.sz := by rw [← hlen]; exact (List.getElem?_eq_some_iff.1 hj).1
    have hi : j / kd.sz < ys.length := by rw [Nat.div_lt_iff_lt_mul kd.pos]; exact hjl
    obtain ⟨seg, h1, h2⟩ := hget (j / kd.sz) _ (List.getElem?_eq_getElem hi)
    have h3 := h2 (j % kd.sz) (Nat.mod_lt _ kd.pos)
    rw [Nat.mul_comm, Nat.div_add_mod] at h3
    have hql : j % kd.sz < seg.length := by rw [kd.len h1]; exact Nat.mod_lt _ kd.pos
    rw [List.getElem?_eq_getElem hql] at h3
    simp only [news, List.getElem?_map, List.getElem?_range hjl, Option.map_some, h3, Option.getD_some, Option.some.injEq] at hj
    rw [h3, hj]
  refine ⟨news, ⟨hlen, fun i e he => ?_⟩, hcell⟩
  obtain ⟨seg, h1, h2⟩ := hget i e he
  have hi : i < ys.length := (List.getElem?_eq_some_iff.1 he).1
  have hfit : i * kd.sz + kd.sz ≤ ys.length * kd.sz := by rw [← Nat.succ_mul]; exact Nat.mul_le_mul_right _ hi
  have : (news.drop (i * kd.sz)).take kd.sz = seg := by
    apply List.ext_getElem?
    intro q
    rw [List.getElem?_take]
    split
    · rename_i hq
      rw [List.getElem?_drop, List.getElem?_eq_getElem (by omega)]
      have := hcell _ _ (List.getElem?_eq_getElem (show i * kd.sz + q < news.length by omega))
      rw [← h2 q hq, this]
    · rw [List.getElem?_eq_none (by rw [kd.len h1]; omega)]
  rw [this]; exact h1
end
end Gw
namespace Gw
open Go Go.RowKit
set_option linter.unusedSimpArgs false
set_option linter.unusedSectionVars false
set_option linter.unusedVariables false
section
variable {P : Program} {f n : Nat} {k : List Item} {ρ : Env} {w : World} {R : Ending → World → Prop} {ops : Array Oper} {rest : List Nat} {i : Nat}
variable {d : Tmp} {ty : TypeId} {pos : String} {af : Array Edge} {x y : Operand} {op : Op}
variable {base : Nat} {w0 : World} {h : Ghost} {L : List Asrt}
variable {α : Type} [Inhabited α] {kd : Kd α} {xs : List α}
theorem x_field {T : TypeId} {fs : Array Field} {fd : Field} {q m b' o : Nat} {gg : Bool} {z : Option Value} {cs ds : List Value} {dd : Option Tmp} {g : Option (Nat × Bool)} {v : Value} (hT : P.underlying T = some (.struct fs)) (hf : fs[q]? = some fd) (ho : fd.offset = o) (ht : tyInfo P fd.type = some (m, b', gg, z)) (hx : ev ρ x = .agg cs.toArray) (hs : (cs.drop o).take m = ds) (hm : ds.length = m) (h1 : gg = false → m = 1) (hv : packV gg ds = v) :
    (execOp (ev ρ) ⟨dd, .field T x q, ty, pos, af, g⟩).run P w = .ok (.value v) w := by
  obtain ⟨ii, d2, hi, hd2, hsz, _, hg2, _⟩ := tyInfo_parts ht
  subst ho
  cases gg with
  | true =>
    have e : cs.toArray.extract fd.offset (fd.offset + m) = ds.toArray := by
      apply Array.ext'
      rw [← hs]
      simp
    simp [execOp, hx, Instr.field, run_underlying hT, hf, asAgg, part, run_isAgg hd2, hg2, rn_sizeOf hi, hsz, e, ← hv, packV, go_sem]
    exact hs
  | false =>
    have hm1 := h1 rfl
    subst hm1
    match ds, hm with
    | [u], _ =>
      have hu : cs[fd.offset]? = some u := by
        have : ((cs.drop fd.offset).take 1)[0]? = some u := by rw [hs]; rfl
        rw [List.getElem?_take, if_pos (by omega), List.getElem?_drop] at this
        simpa using this
      simp [execOp, hx, Instr.field, run_underlying hT, hf, asAgg, part, run_isAgg hd2, hg2, hu, ← hv, packV, go_sem]
end
end Gw
namespace Gw
open Go Go.RowKit
set_option linter.unusedSimpArgs false
set_option linter.unusedSectionVars false
set_option linter.unusedVariables false
abbrev Gr (w w2 : World) : Prop := Chg w w2 (fun _ => False)
theorem Gr.refl (w : World) : Gr w w := ⟨rfl, rfl, rfl, Nat.le_refl _, fun _ _ _ => rfl⟩
theorem Gr.trans {w w2 w3 : World} (h : Gr w w2) (h2 : Gr w2 w3) : Gr w w3 :=
  ⟨h2.os.trans h.os, h2.tape.trans h.tape, h2.output.trans h.output, Nat.le_trans h.size h2.size, fun b hb _ => (h2.block b (Nat.lt_of_lt_of_le hb h.size) (fun x => x)).trans (h.block b hb (fun x => x))⟩
abbrev Sp := { p : World → Prop // ∀ w w2, Gr w w2 → p w → p w2 }
abbrev Held := List (Nat × Sp)
section
variable {P : Program} {ops : Array Oper} {Q : Exit → Act → World → Prop} {H : Held} {S : World → Prop}
def GivesIf (P : Program) (ops : Array Oper) (S : World → Prop) (o : Oper) (v : Value) (a : Act) : Prop :=
  (Region.wanted o (yielded ops a.tmps) = true ∧ ∀ w, S w → ((execOp a.eval o).run P w = .ok (.value v) w ∨ ∃ g args, (execOp a.eval o).run P w = .ok (.enter g args) w ∧ Calls P g args w fun e w2 => e = .returned v ∧ Gr w w2)) ∨
  (Region.wanted o (yielded ops a.tmps) = false ∧ v = undef)
theorem GivesIf.wpOp {i : Nat} {o : Oper} {v : Value} {a : Act} (hi : ops[i]? = some o) (hy : GivesIf P ops S o v a)
    {K : Act → World → Prop} {w : World} (hS : S w) (h : ∀ w2, Gr w w2 → K (a.put o.dst v) w2) : wpOp P ops Q i K a w := by
  unfold Go.wpOp
  simp only [hi]
  rcases hy with ⟨hw, hv⟩ | ⟨hw, rfl⟩
  · rcases hv w hS with hv | ⟨g, args, hv, hc⟩
    · simp only [hw, if_true, Oper.wp, hv, Oper.upon]; exact .inl (h w (Gr.refl w))
    · simp only [hw, if_true, Oper.wp, hv, Oper.upon]
      refine .inl (Calls.mono hc fun e w2 he => ?_)
      obtain ⟨rfl, hg⟩ := he
      exact h w2 hg
  · simp only [hw, Bool.false_eq_true, if_false]; exact h w (Gr.refl w)
end
section
variable {P : Program} {f n : Nat} {k : List Item} {ρ : Env} {w : World} {R : Ending → World → Prop} {ops : Array Oper} {H : Held} {fuel : Nat} {listed : Array Bool} {i : Nat}
end
end Gw
namespace Gw
open Go Go.RowKit
set_option linter.unusedSimpArgs false
set_option linter.unusedSectionVars false
set_option linter.unusedVariables false
section
variable {P : Program} {f n : Nat} {k : List Item} {ρ : Env} {w w' : World} {R : Ending → World → Prop} {ops : Array Oper} {rest : List Nat} {i : Nat} {H : Held} {fuel : Nat} {listed : Array Bool}
variable {d : Tmp} {ty : TypeId} {pos : String} {af : Array Edge} {gd : Option (Nat × Bool)} {x y : Operand} {op : Op} {v : Value}
def CF (ad : Addr) (seg : List Value) (w : World) : Prop := ∀ j u, seg[j]? = some u → w.cell? (ad.add j) = some u
theorem CF.same {ad : Addr} {seg : List Value} (hh : w'.heap = w.heap) (h : CF ad seg w) : CF ad seg w' := fun j u hj => by
  have h1 := h j u hj
  simpa [World.cell?, hh] using h1
theorem CF.box {b off m : Nat} {T : TypeId} {cs ds : List Value} (hb : w.heap[b]? = some (.cells cs.toArray T (0, 0))) (hs : (cs.drop off).take m = ds) : CF ⟨b, off, none⟩ ds w := fun q u hq => by
  have hadd : (⟨b, off, none⟩ : Addr).add q = ⟨b, off + q, none⟩ := by unfold Addr.add; split <;> simp_all
  rw [hadd, cell_box hb]
  rw [← hs, List.getElem?_take] at hq
  split at hq
  · rwa [List.getElem?_drop] at hq
  · cases hq
end
section
variable {P : Program} {ρ : Env} {w w' : World} {d : Option Tmp} {ty : TypeId} {pos : String} {af : Array Edge} {g : Option (Nat × Bool)} {x y : Operand}
variable {base : Nat} {w0 : World} {h : Ghost} {L : List Asrt}
variable {α : Type} [Inhabited α] {kd : Kd α} {xs : List α}
theorem x_load {T : TypeId} {m b' : Nat} {gg : Bool} {z : Option Value} {ad : Addr} {seg : List Value} (ht : tyInfo P T = some (m, b', gg, z)) (hm : seg.length = m) (h1 : gg = false → m = 1) (hx : ev ρ x = .pointer (some ad)) (hc : CF ad seg w) :
    (execOp (ev ρ) ⟨d, .load T x, ty, pos, af, g⟩).run P w = .ok (.value (packV gg seg)) w := by
  have hl := run_loadVar (P := P) (w := w) (a := ad) ht hm h1 hc
  simp only [execOp, hx, Instr.loadAt, Instr.sureAddr, Sem.run_bind]
  show (((Sem.pure ad).run P w).andThen fun a w' => ((loadVar T a).run P w')).andThen _ = _
  simp only [Sem.run, Result.andThen_ok, hl]
  rfl
theorem x_box {T : TypeId} {v : Value} {a : Addr} (hx : ev ρ x = v) (hr : (newVar T v).run P w = .ok a w') : (execOp (ev ρ) ⟨d, .box T x, ty, pos, af, g⟩).run P w = .ok (.value (.pointer (some a))) w' := by
  simp only [execOp, Instr.box, hx, Sem.run_bind, hr, Result.andThen_ok]; rfl
theorem x_alloc {T : TypeId} {z : Value} {a : Addr} {m b' : Nat} {gg : Bool} (ht : tyInfo P T = some (m, b', gg, some z)) (hr : (newVar T z).run P w = .ok a w') : (execOp (ev ρ) ⟨d, .alloc T, ty, pos, af, g⟩).run P w = .ok (.value (.pointer (some a))) w' := by
  simp only [execOp, Instr.alloc, Sem.run_bind, zero_cells ht, Result.andThen_ok, hr]; rfl
theorem x_store {T : TypeId} {a : Operand} {v : Value} {ad : Addr} (ha : ev ρ a = .pointer (some ad)) (hx : ev ρ x = v) (hr : (storeVar T ad v).run P w = .ok () w') : (execOp (ev ρ) ⟨d, .store T a x, ty, pos, af, g⟩).run P w = .ok .skip w' := by
  simp only [execOp, ha, hx, Instr.storeAt, Instr.sureAddr, Sem.run_bind]
  show (((Sem.pure ad).run P w).andThen fun a w' => ((storeVar T a v).run P w')).andThen _ = _
  simp only [Sem.run, Result.andThen_ok, hr]
  rfl
theorem x_make {T : TypeId} {a b v : Value} (hx : ev ρ x = a) (hy : ev ρ y = b) (hr : (Instr.makeSlice T a b).run P w = .ok v w') : (execOp (ev ρ) ⟨d, .makeSlice T x y, ty, pos, af, g⟩).run P w = .ok (.value v) w' := by
  simp only [execOp, hx, hy, Sem.run_bind, hr, Result.andThen_ok]; rfl
theorem x_build_slice {T : TypeId} {len : Nat} {parts : Array (Nat × Operand)} {pv : List (Nat × Value)} {v : Value} (hp : (parts.map fun (i, x) => (i, ev ρ x)) = pv.toArray) (hr : (Instr.buildSlice T len pv.toArray).run P w = .ok v w') : (execOp (ev ρ) ⟨d, .buildSlice T len parts, ty, pos, af, g⟩).run P w = .ok (.value v) w' := by
  simp only [execOp, hp, Sem.run_bind, hr, Result.andThen_ok]; rfl
theorem x_build {T : TypeId} {parts : Array (Nat × Operand)} {pv : List (Nat × Value)} {v : Value} (hp : (parts.map fun (i, x) => (i, ev ρ x)) = pv.toArray) (hr : (Instr.build T pv.toArray).run P w = .ok v w) : (execOp (ev ρ) ⟨d, .build T parts, ty, pos, af, g⟩).run P w = .ok (.value v) w := by
  simp only [execOp, hp, Sem.run_bind, hr, Result.andThen_ok]; rfl
theorem x_append {T : TypeId} {a b v : Value} (hx : ev ρ x = a) (hy : ev ρ y = b) (hr : (Builtin.append_ #[T, T] ty #[a, b]).run P w = .ok v w') : (execOp (ev ρ) ⟨d, .call ⟨.builtin .append, #[x, y], #[T, T]⟩, ty, pos, af, g⟩).run P w = .ok (.value v) w' := by
  have h1 : ((#[x, y] : Array Operand).map (ev ρ)) = #[a, b] := by simp [hx, hy]
  simp only [execOp, resolve, invoke, builtin, Sem.run_bind, Sem.run_pure, Result.andThen_ok, h1, hr]
end
end Gw
namespace Gw
open Go Go.RowKit
set_option linter.unusedSimpArgs false
set_option linter.unusedSectionVars false
set_option linter.unusedVariables false
theorem all_cons {w : World} {i : Nat} {F : Sp} {H : Held} (h : F.1 w) (hs : ∀ p ∈ H, p.2.1 w) : ∀ p ∈ (i, F) :: H, p.2.1 w := fun p hp => by
  rcases List.mem_cons.1 hp with e | e
  · subst e; exact h
  · exact hs p e
section
variable {P : Program} {f n : Nat} {k : List Item} {ρ : Env} {w w' : World} {R : Ending → World → Prop} {ops : Array Oper} {H : Held} {fuel : Nat} {listed : Array Bool}
end
section
variable {P : Program} {ρ : Env} {w w' : World} {d : Option Tmp} {ty : TypeId} {pos : String} {af : Array Edge} {g : Option (Nat × Bool)} {x y : Operand}
variable {base : Nat} {w0 : World} {h : Ghost} {L : List Asrt}
variable {α : Type} [Inhabited α] {kd : Kd α} {xs : List α}
theorem bytes_list (a : ByteArray) : a.toList = a.data.toList := ByteArray.toList_eq a
end
end Gw
namespace Gw
open Go Go.RowKit
set_option linter.unusedSimpArgs false
set_option linter.unusedSectionVars false
set_option linter.unusedVariables false
def fieldInfo (P : Program) (T : TypeId) (q : Nat) : Option (Nat × TypeId) :=
  match P.underlying T with
  | some (.struct fs) => (fs[q]?).map fun f => (f.offset, f.type)
  | _ => none
def placesInfo (P : Program) (T : TypeId) : Option (List (Nat × Nat)) :=
  match P.underlying T with
  | some (.struct fs) => fs.toList.mapM fun f => (P.info? f.type).map fun i => (f.offset, i.size)
  | _ => none
theorem fieldInfo_parts {P : Program} {T : TypeId} {q o : Nat} {ft : TypeId} (h : fieldInfo P T q = some (o, ft)) : ∃ fs fd, P.underlying T = some (.struct fs) ∧ fs[q]? = some fd ∧ fd.offset = o ∧ fd.type = ft := by
  unfold fieldInfo at h
  split at h
  · rename_i fs hu
    cases hq : fs[q]? with
    | none => rw [hq] at h; cases h
    | some fd =>
      rw [hq] at h
      simp only [Option.map_some, Option.some.injEq, Prod.mk.injEq] at h
      exact ⟨fs, fd, hu, hq, h.1, h.2⟩
  · cases h
section
variable {P : Program} {ρ : Env} {w w' : World} {d : Option Tmp} {ty : TypeId} {pos : String} {af : Array Edge} {g : Option (Nat × Bool)} {x y : Operand}
theorem x_fieldAt {b off q o : Nat} {T ft : TypeId} {m b' : Nat} {gg : Bool} {z : Option Value} (hf : fieldInfo P T q = some (o, ft)) (hs : tyInfo P ft = some (m, b', gg, z)) (hm : Nat.blt 0 m = true) (hx : ev ρ x = .pointer (some ⟨b, off, none⟩)) :
    (execOp (ev ρ) ⟨d, .fieldAddr T x q, ty, pos, af, g⟩).run P w = .ok (.value (.pointer (some ⟨b, off + o, none⟩))) w := by
  obtain ⟨fs, fd, hu, hq, ho, rfl⟩ := fieldInfo_parts hf
  exact x_fieldAddr hu hq ho hs (by simpa [Nat.blt_eq] using hm) hx
theorem x_fieldOf {T ft : TypeId} {q m b' o : Nat} {gg : Bool} {z : Option Value} {cs ds : List Value} {v : Value} (hf : fieldInfo P T q = some (o, ft)) (ht : tyInfo P ft = some (m, b', gg, z)) (hx : ev ρ x = .agg cs.toArray) (hs : (cs.drop o).take m = ds) (hm : ds.length = m) (h1 : gg = false → m = 1) (hv : packV gg ds = v) :
    (execOp (ev ρ) ⟨d, .field T x q, ty, pos, af, g⟩).run P w = .ok (.value v) w := by
  obtain ⟨fs, fd, hu, hq, ho, rfl⟩ := fieldInfo_parts hf
  exact x_field hu hq ho ht hx hs hm h1 hv
theorem mapM_places {P : Program} {w : World} : ∀ (l : List Field) (ps : List (Nat × Nat)), l.mapM (fun f => (P.info? f.type).map fun i => (f.offset, i.size)) = some ps → (l.mapM fun f => (do pure (f.offset, ← Go.sizeOf f.type) : Sem (Nat × Nat))).run P w = .ok ps w
  | [], ps, h => by
    simp only [List.mapM_nil, Option.pure_def, Option.some.injEq] at h
    subst h
    rfl
  | f :: l, ps, h => by
    rw [List.mapM_cons] at h
    cases hi : P.info? f.type with
    | none => simp [hi] at h
    | some i =>
      cases hl : l.mapM (fun f => (P.info? f.type).map fun i => (f.offset, i.size)) with
      | none => simp [hi, hl] at h
      | some qs =>
        simp [hi, hl] at h
        subst h
        have ih := mapM_places (w := w) l qs hl
        rw [List.mapM_cons]
        simp only [Sem.run_bind, rn_sizeOf hi, Result.andThen_ok, Sem.run_pure, ih]
theorem run_build_struct {T : TypeId} {ps : List (Nat × Nat)} {zc : Array Value} {m b' : Nat} {gg : Bool} {zv : Value} {pv : List (Nat × Value)} {cs : List Value} (hp : placesInfo P T = some ps) (ht : tyInfo P T = some (m, b', gg, some zv)) (hz : zv.cells = zc)
    (hf : Instr.fill (ps.toArray[·]?) zc pv = some cs.toArray) : (Instr.build T pv.toArray).run P w = .ok (.agg cs.toArray) w := by
  unfold placesInfo at hp
  split at hp
  · rename_i fs hu
    have h1 := mapM_places (w := w) fs.toList ps hp
    have h2 : (fs.mapM fun f => (do pure (f.offset, ← Go.sizeOf f.type) : Sem (Nat × Nat))).run P w = .ok ps.toArray w := by
      rw [Array.mapM_eq_mapM_toList, Sem.run_map]
      show ((fs.toList.mapM fun f => (do pure (f.offset, ← Go.sizeOf f.type) : Sem (Nat × Nat))).run P w).andThen _ = _
      rw [h1]; rfl
    subst hz
    simp only [Instr.build, Sem.run_bind, zero_cells ht, Result.andThen_ok, run_underlying hu, h2, hf]
    rfl
  · cases hp
end
def Block (b : Nat) (cs : List Value) (w : World) : Prop := ∀ j, j < cs.length → w.cell? ⟨b, j, none⟩ = cs[j]?
theorem Block.gr {b : Nat} {cs : List Value} {w w2 : World} (g : Gr w w2) (h : Block b cs w) : Block b cs w2 := fun j hj => by
  have h1 := h j hj
  rw [List.getElem?_eq_getElem hj] at h1 ⊢
  have hlt := World.block_lt_of_cell? w _ h1
  exact (World.cell?_of_block (w := w) (g.block _ hlt (fun x => x))).trans h1
theorem Block.st {b : Nat} {cs : List Value} {w w2 : World} {h : Ghost} {L : List Asrt} (S : St w.heap.size w h w2 L) (hb : Block b cs w) : Block b cs w2 := hb.gr (Chg.of_below S.below)
section
variable {ops : Array Oper} {H : Held} {i j : Nat} {F : Sp} {w : World}
end
section
variable {H : Held} {i j : Nat} {F : Sp} {w : World}
end
section
variable {P : Program} {f n : Nat} {k : List Item} {ρ : Env} {w : World} {R : Ending → World → Prop} {ops : Array Oper} {i : Nat} {H : Held} {fuel : Nat} {listed : Array Bool}
variable {d : Tmp} {ty : TypeId} {pos : String} {af : Array Edge} {gd : Option (Nat × Bool)} {op : Op} {v : Value} {F : Sp}
end
section
variable {P : Program} {f n : Nat} {k : List Item} {ρ : Env} {w : World} {R : Ending → World → Prop} {ops : Array Oper} {H X : Held} {fuel : Nat} {listed : Array Bool}
end
end Gw
namespace Gw
open Go Go.RowKit
set_option linter.unusedSimpArgs false
set_option linter.unusedSectionVars false
set_option linter.unusedVariables false
def encInts (k : IntKind) (xs : List Int) : List Value := xs.map fun x => .int k x
section
variable {k : IntKind} {n : Nat} {xs : List Int} {bs : List Bool} {i v : Int}
end
abbrev BSet := BitVec 256
def wd (s : BSet) (i : Nat) : Int := ((s.toNat / 2 ^ (64 * i) % 18446744073709551616 : Nat) : Int)
def words (s : BSet) : List Int := [wd s 0, wd s 1, wd s 2, wd s 3]
end Gw
namespace Gw
open Go Go.RowKit
set_option linter.unusedSimpArgs false
set_option linter.unusedVariables false
section
variable {P : Program} {w : World}
theorem run_build_array {T E : TypeId} {n m b' b2 : Nat} {gg g2 : Bool} {z : Option Value} {zv : Value} {pv : List (Nat × Value)} {cs : List Value} (hT : P.underlying T = some (.array n E)) (hE : tyInfo P E = some (m, b', gg, z)) (ht : tyInfo P T = some (n * m, b2, g2, some zv))
    (hf : Instr.fill (fun i => some (i * m, m)) zv.cells pv = some cs.toArray) : (Instr.build T pv.toArray).run P w = .ok (.agg cs.toArray) w := by
  obtain ⟨ii, d2, hii, hd2, hsz, _, hg, _⟩ := tyInfo_parts hE
  simp only [Instr.build, Sem.run_bind, zero_cells ht, Result.andThen_ok, run_underlying hT, rn_sizeOf hii, hsz, hf]
  rfl
end
section
variable {P : Program} {ρ : Env} {w w' : World} {d : Option Tmp} {ty : TypeId} {pos : String} {af : Array Edge} {g : Option (Nat × Bool)} {x y : Operand}
end
section
variable {P : Program} {f n : Nat} {k : List Item} {ρ : Env} {w : World} {R : Ending → World → Prop} {ops : Array Oper}
end
structure Spot where
  set : BSet
  tag : Int
deriving DecidableEq
instance : Inhabited Spot := ⟨⟨0, 0⟩⟩
structure Mach where
  spots : List Spot
  first : List Int
  follow : List (List Int)
  last : List Bool
  empty : Bool
instance : Inhabited Mach := ⟨⟨[], [], [], [], false⟩⟩
section
variable {P : Program} {w : World} {base : Nat} {w0 : World} {h : Ghost} {L : List Asrt} {α : Type} [Inhabited α] {kd : Kd α} {xs : List α}
end
section
variable {P : Program} {ρ : Env} {w w' : World} {d : Option Tmp} {ty : TypeId} {pos : String} {af : Array Edge} {g : Option (Nat × Bool)} {x y : Operand}
theorem x_eql_nil {A : Option Addr} {l c : Nat} {t t2 e : TypeId} (hT : P.underlying t = some (.slice e)) (hx : ev ρ x = .slice A l c) (hy : ev ρ y = .slice none 0 0) : (execOp (ev ρ) ⟨d, .binOp .eql t x y t2, ty, pos, af, g⟩).run P w = .ok (.value (.bool A.isNone)) w := by
  have hg : (eqGuard .eql t x y (.slice A l c) (.slice none 0 0)).run P w = .ok () w := by unfold eqGuard; rfl
  have h1 := run_equalIn_slice_nil (P := P) (w := w) 9999 t e A l c hT
  simp only [execOp, hx, hy, Sem.run_bind, hg, Result.andThen_ok, binOp, Op.equal, Op.maxDepth]
  rw [show (10000 : Nat) = 9999 + 1 from rfl, h1]
  rfl
theorem x_neq_nil {A : Option Addr} {l c : Nat} {t t2 e : TypeId} (hT : P.underlying t = some (.slice e)) (hx : ev ρ x = .slice A l c) (hy : ev ρ y = .slice none 0 0) : (execOp (ev ρ) ⟨d, .binOp .neq t x y t2, ty, pos, af, g⟩).run P w = .ok (.value (.bool (!A.isNone))) w := by
  have hg : (eqGuard .neq t x y (.slice A l c) (.slice none 0 0)).run P w = .ok () w := by unfold eqGuard; rfl
  have h1 := run_equalIn_slice_nil (P := P) (w := w) 9999 t e A l c hT
  simp only [execOp, hx, hy, Sem.run_bind, hg, Result.andThen_ok, binOp, Op.equal, Op.maxDepth]
  rw [show (10000 : Nat) = 9999 + 1 from rfl, h1]
  rfl
end
theorem fold_lput (off : Nat) : ∀ (seg : List Value) (n : Nat) (cs : List Value), (seg.zipIdx n).foldl (fun (cs : Array Value) (p : Value × Nat) => cs.setIfInBounds (off + p.2) p.1) cs.toArray = (lput cs (off + n) seg).toArray
  | [], n, cs => rfl
  | v :: seg, n, cs => by
    simp only [List.zipIdx_cons, List.foldl_cons, lput]
    have e : cs.toArray.setIfInBounds (off + n) v = (cs.set (off + n) v).toArray := by simp
    rw [e, fold_lput off seg (n + 1)]
    rfl
section
variable {P : Program} {w : World} {base : Nat} {w0 : World} {h : Ghost} {L : List Asrt} {α : Type} [Inhabited α] {kd : Kd α} {xs : List α}
end
end Gw
namespace Gw
open Go Go.RowKit
set_option linter.unusedSimpArgs false
set_option linter.unusedVariables false
theorem set_ext {a b : BSet} (h : ∀ i, i < 256 → a.getLsbD i = b.getLsbD i) : a = b := BitVec.eq_of_getLsbD_eq h
def ofPred (p : Nat → Bool) : BSet := (List.range 256).foldl (fun s i => if p i then s ||| BitVec.twoPow 256 i else s) 0
theorem fold_bit (p : Nat → Bool) (i : Nat) (hi : i < 256) : ∀ (l : List Nat) (s : BSet), (l.foldl (fun s i => if p i then s ||| BitVec.twoPow 256 i else s) s).getLsbD i = (s.getLsbD i || (decide (i ∈ l) && p i))
  | [], s => by simp
  | j :: l, s => by
    rw [List.foldl_cons, fold_bit p i hi l]
    by_cases hj : p j
    · rw [if_pos hj, BitVec.getLsbD_or, BitVec.getLsbD_twoPow]
      by_cases e : j = i
      · subst e; simp [hj, hi]
      · have e' : ¬ i = j := fun x => e x.symm
        simp [e, e']
    · rw [if_neg hj]
      by_cases e : i = j
      · subst e; simp [hj]
      · simp [e]
theorem pred_bit (p : Nat → Bool) {i : Nat} (hi : i < 256) : (ofPred p).getLsbD i = p i := by
  unfold ofPred
  rw [fold_bit p i hi]
  simp [hi]
def setOf (bs : List Int) : BSet := ofPred fun i => decide ((i : Int) ∈ bs)
theorem set_nil : words (setOf []) = words 0 := by
  have : setOf [] = 0 := set_ext fun i hi => by unfold setOf; rw [pred_bit _ hi]; simp
  rw [this]
end Gw
namespace Gw
open Go Go.RowKit
set_option linter.unusedSimpArgs false
set_option linter.unusedVariables false
def elemsTo (s : BSet) (n : Nat) : List Nat := (List.range n).filter fun i => s.getLsbD i
def elems (s : BSet) : List Nat := elemsTo s 256
def first (s : BSet) : Int := ((elems s).head?.getD 0 : Nat)
end Gw
namespace Gw
open Go Go.RowKit
set_option linter.unusedSimpArgs false
set_option linter.unusedVariables false
theorem list_ext {α : Type} [Inhabited α] {a b : List α} {n : Nat} (ha : a.length = n) (hb : b.length = n) (h : ∀ k : Int, 0 ≤ k → k < (n : Int) → at_ a k = at_ b k) : a = b := by
  apply List.ext_getElem?
  intro j
  by_cases hj : j < n
  · have h1 := at_some (xs := a) (i := ((j : Nat) : Int)) (by omega) (by omega)
    have h2 := at_some (xs := b) (i := ((j : Nat) : Int)) (by omega) (by omega)
    rw [Int.toNat_natCast] at h1 h2
    rw [h1, h2, h _ (by omega) (by omega)]
  · rw [List.getElem?_eq_none (by omega), List.getElem?_eq_none (by omega)]
end Gw
namespace Gw
open Go Go.RowKit
set_option linter.unusedSimpArgs false
set_option linter.unusedSectionVars false
set_option linter.unusedVariables false
section
variable {P : Program} {ρ : Env} {w w' : World} {d : Option Tmp} {ty : TypeId} {pos : String} {af : Array Edge} {g : Option (Nat × Bool)} {x y : Operand}
end
section
variable {P : Program} {ρ : Env} {w w' : World} {d : Option Tmp} {ty : TypeId} {pos : String} {af : Array Edge} {g : Option (Nat × Bool)} {x y : Operand}
end
section
variable {P : Program}
def eqF (d : Nat) (xs ys : Array Value) : List (TypeId × Nat) → Sem Bool
  | [] => pure true
  | f :: fs => do
    let a ← part f.1 xs f.2
    let b ← part f.1 ys f.2
    let r ← Op.equalIn d f.1 a b
    if (!r) = true then pure false else eqF d xs ys fs
theorem eqF_of (d : Nat) (xs ys : Array Value) : ∀ (fs : List Field), (fs.all fun f => f.name != "_") = true → Op.eqFields d xs ys fs = eqF d xs ys (fs.map fun f => (f.type, f.offset))
  | [], _ => rfl
  | f :: fs, h => by
    simp only [List.all_cons, Bool.and_eq_true, bne_iff_ne, ne_eq] at h
    simp only [Op.eqFields, List.map_cons, eqF, h.1, ne_eq, not_false_eq_true, if_true]
    rw [eqF_of d xs ys fs h.2]
theorem eqF_cons {w : World} {d : Nat} {xs ys : Array Value} {t : TypeId} {o : Nat} {fs : List (TypeId × Nat)} {a b : Value} {r q : Bool} (ha : (part t xs o).run P w = .ok a w) (hb : (part t ys o).run P w = .ok b w) (hr : (Op.equalIn d t a b).run P w = .ok r w) (hq : (eqF d xs ys fs).run P w = .ok q w) :
    (eqF d xs ys ((t, o) :: fs)).run P w = .ok (r && q) w := by
  simp only [eqF, Sem.run_bind, ha, hb, hr, Result.andThen_ok]
  cases r
  · rfl
  · simpa using hq
theorem part_one {w : World} {t : TypeId} {n b : Nat} {z : Option Value} {cs : List Value} {o : Nat} {v : Value} (ht : tyInfo P t = some (n, b, false, z)) (hv : cs[o]? = some v) : (part t cs.toArray o).run P w = .ok v w := by
  obtain ⟨ii, d5, hi5, hd5, hs5, _, hg5, _⟩ := tyInfo_parts ht
  simp only [part, Sem.run_bind, run_isAgg hd5, hg5, Result.andThen_ok, Bool.false_eq_true, if_false, List.getElem?_toArray, hv]; rfl
theorem part_agg {w : World} {t : TypeId} {n b : Nat} {z : Option Value} {cs seg : List Value} {o : Nat} (ht : tyInfo P t = some (n, b, true, z)) (hv : (cs.drop o).take n = seg) : (part t cs.toArray o).run P w = .ok (.agg seg.toArray) w := by
  obtain ⟨ii, d5, hi5, hd5, hs5, _, hg5, _⟩ := tyInfo_parts ht
  have e : cs.toArray.extract o (o + n) = seg.toArray := by
    rw [← hv, List.extract_toArray, List.extract_eq_take_drop]; simp
  simp only [part, Sem.run_bind, run_isAgg hd5, hg5, Result.andThen_ok, if_true, run_sizeOf w hi5, show P.cellsOf t = n by simp [Program.cellsOf, hi5, hs5], e]; rfl
end
end Gw
namespace Gw
open Go Go.RowKit
set_option linter.unusedSimpArgs false
set_option linter.unusedSectionVars false
set_option linter.unusedVariables false
section
variable {P : Program} {ρ : Env} {w w' : World} {d : Option Tmp} {ty : TypeId} {pos : String} {af : Array Edge} {g : Option (Nat × Bool)} {x y : Operand}
end
section
variable {P : Program} {f n : Nat} {k : List Item} {ρ : Env} {w : World} {R : Ending → World → Prop} {ops : Array Oper} {H : Held} {fuel : Nat} {listed : Array Bool}
end
theorem fill_any {place : Nat → Option (Nat × Nat)} {cells : Array Value} {i off n : Nat} {v : Value} {vc : List Value} {rest : List (Nat × Value)} {r : Array Value} (hp : place i = some (off, n)) (hv : v.cells = vc.toArray) (hn : vc.length = n) (ho : Nat.ble (off + n) cells.size = true)
    (h : Instr.fill place (lput cells.toList off vc).toArray rest = some r) : Instr.fill place cells ((i, v) :: rest) = some r := by
  have ho' : off + n ≤ cells.size := by simpa [Nat.ble_eq] using ho
  simp only [Instr.fill, hp]
  have hs : v.cells.size = n := by rw [hv]; simpa using hn
  rw [if_neg (by simp [hs]; omega)]
  rw [← h]
  congr 1
  rw [hv]
  have := fold_lput off vc 0 cells.toList
  simp only [Array.toArray_toList, Nat.add_zero] at this
  rw [← this, ← Array.foldl_toList]
  simp
end Gw
namespace Gw
open Go Go.RowKit
set_option linter.unusedSimpArgs false
set_option linter.unusedSectionVars false
set_option linter.unusedVariables false
def Sub (n : Nat) (a b : List Bool) : Prop := ∀ i : Nat, i < n → at_ a ((i : Nat) : Int) = true → at_ b ((i : Nat) : Int) = true
theorem Sub.trans {n : Nat} {a b c : List Bool} (h : Sub n a b) (h2 : Sub n b c) : Sub n a c := fun i hi hx => h2 i hi (h i hi hx)
theorem marks_ext {n : Nat} {a b : List Bool} (ha : a.length = n) (hb : b.length = n) (h : ∀ i : Nat, i < n → at_ a ((i : Nat) : Int) = at_ b ((i : Nat) : Int)) : a = b :=
  list_ext ha hb fun k h0 h1 => by have := h k.toNat (by omega); rwa [Int.toNat_of_nonneg h0] at this
theorem mark_set_at {l : List Bool} {t : Int} (h0 : 0 ≤ t) (h1 : t < (l.length : Int)) (v : Bool) (i : Nat) : at_ (l.set t.toNat v) ((i : Nat) : Int) = if ((i : Nat) : Int) = t then v else at_ l ((i : Nat) : Int) := by
  unfold at_
  rw [List.getD_eq_getElem?_getD, List.getElem?_set, List.getD_eq_getElem?_getD, Int.toNat_natCast]
  by_cases h : ((i : Nat) : Int) = t
  · rw [if_pos h, if_pos (by omega), if_pos (by omega)]; rfl
  · rw [if_neg h, if_neg (by omega)]
theorem sub_set {n : Nat} {l : List Bool} {t : Int} (h0 : 0 ≤ t) (h1 : t < (l.length : Int)) : Sub n l (l.set t.toNat true) := fun i hi h => by
  rw [mark_set_at h0 h1]; split
  · rfl
  · exact h
theorem sub_antisymm {n : Nat} {a b : List Bool} (ha : a.length = n) (hb : b.length = n) (h : Sub n a b) (h2 : Sub n b a) : a = b :=
  marks_ext ha hb fun i hi => by
    rw [Bool.eq_iff_iff]; exact ⟨h i hi, h2 i hi⟩
end Gw
namespace Gw
open Go Go.RowKit
set_option linter.unusedSimpArgs false
set_option linter.unusedSectionVars false
set_option linter.unusedVariables false
structure Grow (n : Nat) (c0 c : List Bool) (Q : Prop) : Prop where
  len0 : (c0.length : Int) = n
  len : (c.length : Int) = n
  sub : Sub n c0 c
  told : c = c0 → Q
theorem Grow.set {n : Nat} {c0 c : List Bool} {Q Q' : Prop} (g : Grow n c0 c Q) {t : Int} (h0 : 0 ≤ t) (h1 : t < (n : Int)) (h : at_ c0 t = true → Q → Q') : Grow n c0 (c.set t.toNat true) Q' where
  len0 := g.len0
  len := by rw [List.length_set]; exact g.len
  sub := g.sub.trans (sub_set h0 (by rw [g.len]; exact h1))
  told := fun e => by
    have hs : Sub n c (c.set t.toNat true) := sub_set h0 (by rw [g.len]; exact h1)
    have e2 : c = c0 := sub_antisymm (n := n) (by have := g.len; omega) (by have := g.len0; omega) (by rw [← e]; exact hs) g.sub
    have h3 := mark_set_at (l := c) h0 (by rw [g.len]; exact h1) true t.toNat
    rw [e, Int.toNat_of_nonneg h0, if_pos rfl] at h3
    exact h h3 (g.told e2)
section
variable {m : Mach} {c0 g0 come goes : List Bool} {QC QG QC' QG' : Prop}
end
section
variable {m : Mach} {c0 g0 come goes : List Bool} {QC QG : Prop} {i k : Int}
end
end Gw
namespace Gw
open Go Go.RowKit
set_option linter.unusedSimpArgs false
set_option linter.unusedSectionVars false
set_option linter.unusedVariables false
section
variable {P : Program} {f n : Nat} {k : List Item} {ρ : Env} {w : World} {R : Ending → World → Prop} {ops : Array Oper} {rest : List Nat} {i : Nat}
variable {d : Tmp} {ty : TypeId} {pos : String} {af : Array Edge} {x y : Operand} {op : Op} {gd : Option (Nat × Bool)}
end
section
variable {P : Program} {f n : Nat} {k : List Item} {ρ : Env} {w : World} {R : Ending → World → Prop} {ops : Array Oper} {H : Held} {fuel : Nat} {listed : Array Bool} {i : Nat}
variable {d : Tmp} {ty : TypeId} {pos : String} {af : Array Edge} {op : Op} {gd : Option (Nat × Bool)}
end
section
variable {P : Program} {w : World} {ρ : Env} {d : Option Tmp} {x y : Operand} {ty : TypeId} {pos : String} {af : Array Edge} {g : Option (Nat × Bool)}
theorem x_nilCheck {ad : Addr} (hx : ev ρ x = .pointer (some ad)) : (execOp (ev ρ) ⟨d, .nilCheck x, ty, pos, af, g⟩).run P w = .ok (.value (.pointer (some ad))) w := by
  simp only [execOp, hx]
  rfl
theorem x_eql_ptr {p : Option Addr} {t t2 e : TypeId} (hT : P.underlying t = some (.pointer e)) (hx : ev ρ x = .pointer p) (hy : ev ρ y = .pointer none) : (execOp (ev ρ) ⟨d, .binOp .eql t x y t2, ty, pos, af, g⟩).run P w = .ok (.value (.bool p.isNone)) w := by
  have hg : (eqGuard .eql t x y (.pointer p) (.pointer none)).run P w = .ok () w := by unfold eqGuard; rfl
  have h1 := run_equalIn_pointer_nil (P := P) (w := w) 9999 t p (by rw [show P.pointee t = e by simp [Program.pointee, hT]]; exact hT)
  simp only [execOp, hx, hy, Sem.run_bind, hg, Result.andThen_ok, binOp, Op.equal, Op.maxDepth]
  rw [show (10000 : Nat) = 9999 + 1 from rfl, h1]
  rfl
theorem x_neq_ptr {p : Option Addr} {t t2 e : TypeId} (hT : P.underlying t = some (.pointer e)) (hx : ev ρ x = .pointer p) (hy : ev ρ y = .pointer none) : (execOp (ev ρ) ⟨d, .binOp .neq t x y t2, ty, pos, af, g⟩).run P w = .ok (.value (.bool (!p.isNone))) w := by
  have hg : (eqGuard .neq t x y (.pointer p) (.pointer none)).run P w = .ok () w := by unfold eqGuard; rfl
  have h1 := run_equalIn_pointer_nil (P := P) (w := w) 9999 t p (by rw [show P.pointee t = e by simp [Program.pointee, hT]]; exact hT)
  simp only [execOp, hx, hy, Sem.run_bind, hg, Result.andThen_ok, binOp, Op.equal, Op.maxDepth]
  rw [show (10000 : Nat) = 9999 + 1 from rfl, h1]
  rfl
end
section
variable {α β : Type} [DecidableEq α] {P : Program} {kt : TypeId} {ke : α → Value} {ve : β → Value} {w w' : World}
end
section
variable {P : Program} {w w0 : World} {base : Nat} {h : Ghost} {L : List Asrt}
end
end Gw
namespace Gw
open Go Go.RowKit
set_option linter.unusedSimpArgs false
set_option linter.unusedVariables false
inductive Tr (α : Type) where
  | nil
  | node (l : Tr α) (v : Option α) (r : Tr α)
def Tr.getD {α : Type} (d : Nat) : Tr α → Nat → Option α :=
  Nat.rec (motive := fun _ => Tr α → Nat → Option α) (fun _ _ => none)
    (fun _ s t k => Tr.casesOn (motive := fun _ => Option α) t none
      (fun l v r => Nat.casesOn (motive := fun _ => Option α) k v (fun p => Bool.casesOn (motive := fun _ => Option α) (Nat.beq (Nat.mod p 2) 0) (s r (Nat.div p 2)) (s l (Nat.div p 2))))) d
def Tr.set {α : Type} (v : Option α) (d : Nat) : Tr α → Nat → Tr α :=
  Nat.rec (motive := fun _ => Tr α → Nat → Tr α) (fun t _ => t)
    (fun _ s t k => Tr.casesOn (motive := fun _ => Tr α) t
      (Nat.casesOn (motive := fun _ => Tr α) k (.node .nil v .nil) (fun p => Bool.casesOn (motive := fun _ => Tr α) (Nat.beq (Nat.mod p 2) 0) (.node .nil none (s .nil (Nat.div p 2))) (.node (s .nil (Nat.div p 2)) none .nil)))
      (fun l u r => Nat.casesOn (motive := fun _ => Tr α) k (.node l v r) (fun p => Bool.casesOn (motive := fun _ => Tr α) (Nat.beq (Nat.mod p 2) 0) (.node l u (s r (Nat.div p 2))) (.node (s l (Nat.div p 2)) u r)))) d
theorem Tr.getD_nil {α : Type} (d k : Nat) : Tr.getD d (Tr.nil : Tr α) k = none := by cases d <;> rfl
theorem Tr.getD_zero {α : Type} {d : Nat} {l r : Tr α} {v : Option α} : Tr.getD (d + 1) (Tr.node l v r) 0 = v := rfl
theorem Tr.getD_succ {α : Type} {d : Nat} {l r : Tr α} {v : Option α} {p : Nat} : Tr.getD (d + 1) (Tr.node l v r) (p + 1) = cond (Nat.beq (p % 2) 0) (Tr.getD d l (p / 2)) (Tr.getD d r (p / 2)) := by
  show Bool.casesOn (motive := fun _ => Option α) (Nat.beq (p % 2) 0) (Tr.getD d r (p / 2)) (Tr.getD d l (p / 2)) = _
  cases Nat.beq (p % 2) 0 <;> rfl
theorem Tr.set_zero {α : Type} {d : Nat} {l r : Tr α} {u v : Option α} : Tr.set v (d + 1) (.node l u r) 0 = .node l v r := rfl
theorem Tr.set_succ {α : Type} {d : Nat} {l r : Tr α} {u v : Option α} {p : Nat} : Tr.set v (d + 1) (.node l u r) (p + 1) = cond (Nat.beq (p % 2) 0) (.node (Tr.set v d l (p / 2)) u r) (.node l u (Tr.set v d r (p / 2))) := by
  show Bool.casesOn (motive := fun _ => Tr α) (Nat.beq (p % 2) 0) (.node l u (Tr.set v d r (p / 2))) (.node (Tr.set v d l (p / 2)) u r) = _
  cases Nat.beq (p % 2) 0 <;> rfl
theorem Tr.set_nil {α : Type} {d : Nat} {v : Option α} {k : Nat} : Tr.set v (d + 1) .nil k = Tr.set v (d + 1) (.node .nil none .nil) k := by
  cases k with
  | zero => rfl
  | succ p =>
    rw [Tr.set_succ]
    show Bool.casesOn (motive := fun _ => Tr α) (Nat.beq (p % 2) 0) (.node .nil none (Tr.set v d .nil (p / 2))) (.node (Tr.set v d .nil (p / 2)) none .nil) = _
    cases Nat.beq (p % 2) 0 <;> rfl
theorem Tr.get_set {α : Type} (v : Option α) : ∀ (d : Nat) (t : Tr α) (k j : Nat), k + 1 < 2 ^ d → Tr.getD d (Tr.set v d t k) j = if j = k then v else Tr.getD d t j := by
  intro d
  induction d with
  | zero => intro t k j hk; simp at hk
  | succ d ih =>
    have key : ∀ (l r : Tr α) (u : Option α) (k j : Nat), k + 1 < 2 ^ (d + 1) → Tr.getD (d + 1) (Tr.set v (d + 1) (.node l u r) k) j = if j = k then v else Tr.getD (d + 1) (Tr.node l u r) j := by
      intro l r u k j hk
      cases k with
      | zero =>
        rw [Tr.set_zero]
        cases j with
        | zero => simp [Tr.getD_zero]
        | succ q => simp [Tr.getD_succ]
      | succ p =>
        have hp : p / 2 + 1 < 2 ^ d := by
          rw [Nat.pow_succ] at hk; omega
        rw [Tr.set_succ]
        cases hb : Nat.beq (p % 2) 0 with
        | true =>
          simp only [cond_true]
          have h0 : p % 2 = 0 := Nat.eq_of_beq_eq_true hb
          cases j with
          | zero => simp [Tr.getD_zero]
          | succ q =>
            simp only [Tr.getD_succ]
            cases hq : Nat.beq (q % 2) 0 with
            | true =>
              have h1 : q % 2 = 0 := Nat.eq_of_beq_eq_true hq
              simp only [cond_true]
              rw [ih _ _ _ hp]
              by_cases e : q / 2 = p / 2
              · rw [if_pos e, if_pos (by omega)]
              · rw [if_neg e, if_neg (by omega)]
            | false =>
              have h1 : ¬ q % 2 = 0 := fun e => by rw [e] at hq; cases hq
              simp only [cond_false]
              rw [if_neg (by omega)]
        | false =>
          simp only [cond_false]
          have h0 : ¬ p % 2 = 0 := fun e => by rw [e] at hb; cases hb
          cases j with
          | zero => simp [Tr.getD_zero]
          | succ q =>
            simp only [Tr.getD_succ]
            cases hq : Nat.beq (q % 2) 0 with
            | true =>
              have h1 : q % 2 = 0 := Nat.eq_of_beq_eq_true hq
              simp only [cond_true]
              rw [if_neg (by omega)]
            | false =>
              have h1 : ¬ q % 2 = 0 := fun e => by rw [e] at hq; cases hq
              simp only [cond_false]
              rw [ih _ _ _ hp]
              by_cases e : q / 2 = p / 2
              · rw [if_pos e, if_pos (by omega)]
              · rw [if_neg e, if_neg (by omega)]
    intro t k j hk
    cases t with
    | nil =>
      rw [Tr.set_nil, key _ _ _ _ _ hk]
      split
      · rfl
      · rw [Tr.getD_nil]
        cases j with
        | zero => rfl
        | succ q => rw [Tr.getD_succ, Tr.getD_nil]; cases Nat.beq (q % 2) 0 <;> rfl
    | node l u r => exact key l r u k j hk
def Tr.get {α : Type} (t : Tr α) (k : Nat) : Option α := Tr.getD 40 t k
theorem Tr.get_nil {α : Type} (k : Nat) : (Tr.nil : Tr α).get k = none := rfl
def smallK (k : Nat) : Bool := Nat.blt (k + 1) 1099511627776
def Tr.put {α : Type} (t : Tr α) (k : Nat) (v : Option α) : Tr α := Tr.set v 40 t k
theorem Tr.get_put {α : Type} {t : Tr α} {k : Nat} (v : Option α) (j : Nat) (h : smallK k = true) : (t.put k v).get j = if j = k then v else t.get j :=
  Tr.get_set v 40 t k j (by have : k + 1 < 1099511627776 := by simpa [smallK, Nat.blt_eq] using h
                            simpa using this)
inductive AV where
  | v (x : Value)
  | ptr (b off : Nat)
  | sl (b oc oe len : Nat)
  | slx (b oc len cap : Nat)
  | agg (l : List AV)
  | tup (l : List AV)
  | fn (f : Nat) (l : List AV)
  | ifc (t : Nat) (x : AV)
abbrev Ph := Nat → Option (Nat × Nat)
mutual
def AV.c (φ : Ph) : AV → Option Value
  | .v x => some x
  | .ptr b o => (φ b).map fun p => .pointer (some ⟨p.1, o, none⟩)
  | .sl b oc oe len => (φ b).map fun p => .slice (some ⟨p.1, oc, none⟩) len (p.2 - oe)
  | .slx b oc len cap => (φ b).map fun p => .slice (some ⟨p.1, oc, none⟩) len cap
  | .agg l => (AV.cl φ l).map fun vs => .agg vs.toArray
  | .tup l => (AV.cl φ l).map fun vs => .tuple vs.toArray
  | .fn f l => (AV.cl φ l).map fun vs => .func (.func f) #[] vs.toArray
  | .ifc t x => (AV.c φ x).map fun u => .iface t u
def AV.cl (φ : Ph) : List AV → Option (List Value)
  | [] => some []
  | a :: l => match AV.c φ a, AV.cl φ l with
    | some x, some xs => some (x :: xs)
    | _, _ => none
end
def PLe (φ φ' : Ph) : Prop := ∀ b p, φ b = some p → φ' b = some p
theorem PLe.refl (φ : Ph) : PLe φ φ := fun _ _ h => h
theorem PLe.trans {φ φ' φ'' : Ph} (h : PLe φ φ') (h' : PLe φ' φ'') : PLe φ φ'' := fun b p e => h' b p (h b p e)
theorem map_le {α β : Type} {f : α → β} {x y : Option α} {z : β} (h : ∀ p, x = some p → y = some p) (e : x.map f = some z) : y.map f = some z := by
  cases x with
  | none => cases e
  | some p => rw [h p rfl]; exact e
mutual
theorem AV.c_mono {φ φ' : Ph} (hl : PLe φ φ') : ∀ (a : AV) (x : Value), a.c φ = some x → a.c φ' = some x
  | .v _, _, h => h
  | .ptr b _, _, h => map_le (hl b) h
  | .sl b _ _ _, _, h => map_le (hl b) h
  | .slx b _ _ _, _, h => map_le (hl b) h
  | .agg l, _, h => map_le (AV.cl_mono hl l) h
  | .tup l, _, h => map_le (AV.cl_mono hl l) h
  | .fn _ l, _, h => map_le (AV.cl_mono hl l) h
  | .ifc _ a, _, h => map_le (AV.c_mono hl a) h
theorem AV.cl_mono {φ φ' : Ph} (hl : PLe φ φ') : ∀ (l : List AV) (xs : List Value), AV.cl φ l = some xs → AV.cl φ' l = some xs
  | [], _, h => h
  | a :: l, xs, h => by
    unfold AV.cl at h ⊢
    split at h
    · rename_i x ys h1 h2
      rw [AV.c_mono hl a x h1, AV.cl_mono hl l ys h2]
      exact h
    · cases h
end
theorem AV.cl_cons {φ : Ph} {a : AV} {l : List AV} {xs : List Value} (h : AV.cl φ (a :: l) = some xs) : ∃ x ys, xs = x :: ys ∧ a.c φ = some x ∧ AV.cl φ l = some ys := by
  unfold AV.cl at h
  split at h
  · rename_i x ys h1 h2
    injection h with h
    exact ⟨x, ys, h.symm, h1, h2⟩
  · cases h
theorem AV.cl_mk {φ : Ph} {a : AV} {l : List AV} {x : Value} {ys : List Value} (h1 : a.c φ = some x) (h2 : AV.cl φ l = some ys) : AV.cl φ (a :: l) = some (x :: ys) := by
  unfold AV.cl; rw [h1, h2]
theorem AV.cl_len {φ : Ph} : ∀ {l : List AV} {xs : List Value}, AV.cl φ l = some xs → xs.length = l.length
  | [], xs, h => by unfold AV.cl at h; injection h with h; subst h; rfl
  | a :: l, xs, h => by
    obtain ⟨x, ys, rfl, _, h2⟩ := AV.cl_cons h
    simp [AV.cl_len h2]
theorem AV.cl_get {φ : Ph} : ∀ {l : List AV} {xs : List Value} {i : Nat} {a : AV}, AV.cl φ l = some xs → l[i]? = some a → ∃ x, xs[i]? = some x ∧ a.c φ = some x
  | [], _, i, a, _, hi => by simp at hi
  | b :: l, xs, i, a, h, hi => by
    obtain ⟨x, ys, rfl, h1, h2⟩ := AV.cl_cons h
    cases i with
    | zero => simp only [List.getElem?_cons_zero, Option.some.injEq] at hi; subst hi; exact ⟨x, rfl, h1⟩
    | succ i => exact AV.cl_get (i := i) h2 (by simpa using hi)
theorem AV.cl_app {φ : Ph} : ∀ {l m : List AV} {xs ys : List Value}, AV.cl φ l = some xs → AV.cl φ m = some ys → AV.cl φ (l ++ m) = some (xs ++ ys)
  | [], m, xs, ys, h, h2 => by unfold AV.cl at h; injection h with h; subst h; exact h2
  | a :: l, m, xs, ys, h, h2 => by
    obtain ⟨x, zs, rfl, h1, h3⟩ := AV.cl_cons h
    exact AV.cl_mk h1 (AV.cl_app h3 h2)
theorem AV.cl_drop {φ : Ph} : ∀ {l : List AV} {xs : List Value} (n : Nat), AV.cl φ l = some xs → AV.cl φ (l.drop n) = some (xs.drop n)
  | l, xs, 0, h => h
  | [], xs, n + 1, h => by unfold AV.cl at h; injection h with h; subst h; rfl
  | a :: l, xs, n + 1, h => by
    obtain ⟨x, zs, rfl, h1, h3⟩ := AV.cl_cons h
    exact AV.cl_drop n h3
theorem AV.cl_take {φ : Ph} : ∀ {l : List AV} {xs : List Value} (n : Nat), AV.cl φ l = some xs → AV.cl φ (l.take n) = some (xs.take n)
  | l, xs, 0, h => by unfold AV.cl; simp
  | [], xs, n + 1, h => by unfold AV.cl at h; injection h with h; subst h; rfl
  | a :: l, xs, n + 1, h => by
    obtain ⟨x, zs, rfl, h1, h3⟩ := AV.cl_cons h
    exact AV.cl_mk h1 (AV.cl_take n h3)
theorem AV.cl_v (φ : Ph) : ∀ (l : List Value), AV.cl φ (l.map AV.v) = some l
  | [] => by unfold AV.cl; rfl
  | x :: l => AV.cl_mk (by unfold AV.c; rfl) (AV.cl_v φ l)
def ofV : Value → AV
  | .agg cs => .agg (cs.toList.map .v)
  | .tuple cs => .tup (cs.toList.map fun x => match x with | .agg ds => .agg (ds.toList.map .v) | y => .v y)
  | x => .v x
theorem cl_ofV (φ : Ph) : ∀ (l : List Value), AV.cl φ (l.map fun x => match x with | .agg ds => AV.agg (ds.toList.map .v) | y => .v y) = some l
  | [] => by unfold AV.cl; rfl
  | x :: l => AV.cl_mk (by
      cases x <;> first | (unfold AV.c; rfl) | (simp only; unfold AV.c; rw [AV.cl_v]; simp)) (cl_ofV φ l)
theorem ofV_c (φ : Ph) (x : Value) : (ofV x).c φ = some x := by
  cases x <;> first
    | (unfold ofV AV.c; rfl)
    | (unfold ofV; simp only; unfold AV.c; rw [AV.cl_v]; simp)
    | (unfold ofV; simp only; unfold AV.c; rw [cl_ofV]; simp)
def AV.cells : AV → List AV
  | .agg l => l
  | a => [a]
def AV.one : AV → Bool
  | .agg _ | .tup _ => false
  | .v (.agg _) | .v (.tuple _) => false
  | _ => true
theorem AV.one_c {φ : Ph} {a : AV} {x : Value} (h : a.one = true) (hc : a.c φ = some x) : x.oneCell' = true := by
  cases a <;> simp only [AV.one, Bool.false_eq_true] at h <;> unfold AV.c at hc
  case v y => injection hc with hc; subst hc; cases y <;> simp_all [Value.oneCell']
  all_goals
    simp only [Option.map_eq_some_iff] at hc
    obtain ⟨p, _, rfl⟩ := hc
    rfl
theorem AV.one_l {φ : Ph} {l : List AV} {xs : List Value} (h : l.all AV.one = true) (hc : AV.cl φ l = some xs) : ∀ u ∈ xs, u.oneCell' = true := by
  intro u hu
  obtain ⟨i, hi, rfl⟩ := List.mem_iff_getElem.1 hu
  have hlen := AV.cl_len hc
  obtain ⟨x, h1, h2⟩ := AV.cl_get hc (List.getElem?_eq_getElem (show i < l.length by omega))
  rw [List.getElem?_eq_getElem hi] at h1
  injection h1 with h1
  subst h1
  exact AV.one_c (List.all_eq_true.1 h _ (List.getElem_mem _)) h2
theorem AV.cells_c {φ : Ph} {a : AV} {x : Value} (ht : ∀ cs, a ≠ .v (.agg cs)) (hc : a.c φ = some x) : ∃ xs, AV.cl φ a.cells = some xs ∧ x.cells = xs.toArray := by
  have gen : ∀ (z : AV), z.cells = [z] → (∀ ds, x ≠ .agg ds) → z.c φ = some x → ∃ xs, AV.cl φ z.cells = some xs ∧ x.cells = xs.toArray := fun z h1 h2 h3 => by
    refine ⟨[x], by rw [h1]; exact AV.cl_mk h3 (by unfold AV.cl; rfl), ?_⟩
    cases x <;> first | rfl | exact (h2 _ rfl).elim
  cases a with
  | agg l =>
    unfold AV.c at hc
    simp only [Option.map_eq_some_iff] at hc
    obtain ⟨xs, h1, rfl⟩ := hc
    exact ⟨xs, h1, rfl⟩
  | v y =>
    refine gen _ rfl (fun ds e => ?_) hc
    unfold AV.c at hc; injection hc with hc; subst hc; exact ht _ (by rw [e])
  | _ =>
    refine gen _ rfl (fun ds e => ?_) hc
    subst e
    unfold AV.c at hc
    simp only [Option.map_eq_some_iff] at hc
    obtain ⟨p, _, h2⟩ := hc
    cases h2
end Gw
namespace Gw
open Go Go.RowKit
set_option linter.unusedSimpArgs false
set_option linter.unusedVariables false
inductive BO where
  | cells (T m : Nat) (l : List AV)
abbrev HF := Nat → Option BO
def ObjAt (φ : Ph) (o : BO) (cap : Nat) (ob : Option Obj) : Prop :=
  match o with
  | .cells T m l => cap ≤ maxLen ∧ ∃ arr vs, ob = some (.cells arr T (0, 0)) ∧ arr.size = cap * m ∧ AV.cl φ l = some vs ∧ vs.length ≤ arr.size ∧ arr.toList.take vs.length = vs
theorem ObjAt.mono {φ φ' : Ph} (hl : PLe φ φ') {o : BO} {cap : Nat} {ob : Option Obj} (h : ObjAt φ o cap ob) : ObjAt φ' o cap ob := by
  cases o with
  | cells T m l =>
    obtain ⟨h0, arr, vs, h1, h2, h3, h4⟩ := h
    exact ⟨h0, arr, vs, h1, h2, AV.cl_mono hl l vs h3, h4⟩
theorem ObjAt.some {φ : Ph} {o : BO} {cap : Nat} {ob : Option Obj} (h : ObjAt φ o cap ob) : ob ≠ none := by
  cases o with
  | cells T m l => obtain ⟨h0, arr, vs, h1, _⟩ := h; rw [h1]; simp
structure Rel (base : Nat) (w0 : World) (φ : Ph) (g : HF) (w : World) : Prop where
  obj : ∀ b o, g b = some o → ∃ x cap, φ b = some (x, cap) ∧ ObjAt φ o cap w.heap[x]?
  inj : ∀ b b' x y y', g b ≠ none → g b' ≠ none → φ b = some (x, y) → φ b' = some (x, y') → b = b'
  low : ∀ b x y, g b ≠ none → φ b = some (x, y) → base ≤ x
  below : Below base w0 w
  bsz : base ≤ w.heap.size
def Own (φ : Ph) (g : HF) (x : Nat) : Prop := ∃ b cap, g b ≠ none ∧ φ b = some (x, cap)
def Fre (φ : Ph) (c c' : Nat) : Prop := ∀ b, c ≤ b → b < c' → φ b = none
theorem Fre.sub {φ : Ph} {c c' d d' : Nat} (h : Fre φ c c') (h1 : c ≤ d) (h2 : d' ≤ c') : Fre φ d d' := fun b hb hb' => h b (by omega) (by omega)
structure Tran (base : Nat) (w0 : World) (φ : Ph) (g : HF) (c : Nat) (w : World) (φ' : Ph) (g' : HF) (c' : Nat) (w' : World) : Prop where
  same : ∀ b, ¬ (c ≤ b ∧ b < c') → φ' b = φ b
  rel : Rel base w0 φ' g' w'
  chg : Chg w w' (Own φ g)
  new : ∀ x, Own φ' g' x → w.heap.size ≤ x ∨ Own φ g x
  cle : c ≤ c'
  keys : ∀ b, g' b ≠ none → g b ≠ none ∨ (c ≤ b ∧ b < c')
section
variable {base : Nat} {w0 : World} {φ φ' φ'' : Ph} {g g' g'' : HF} {c c' c'' : Nat} {w w' w'' : World}
theorem Rel.lt (R : Rel base w0 φ g w) {b x cap : Nat} (hb : g b ≠ none) (hx : φ b = some (x, cap)) : x < w.heap.size := by
  cases hg : g b with
  | none => exact absurd hg hb
  | some o =>
    obtain ⟨y, cp, h1, h2⟩ := R.obj b o hg
    rw [hx] at h1; injection h1 with h1; injection h1 with h1 _; subst h1
    have := h2.some
    rcases Nat.lt_or_ge x w.heap.size with h | h
    · exact h
    · rw [Array.getElem?_eq_none h] at this; exact absurd rfl this
theorem Rel.grow (R : Rel base w0 φ g w) (hc : Chg w w' (fun _ => False)) : Rel base w0 φ g w' := ⟨fun b o h => by
  obtain ⟨x, cap, h1, h2⟩ := R.obj b o h
  refine ⟨x, cap, h1, ?_⟩
  rw [hc.block x (R.lt (by rw [h]; simp) h1) (fun h => h)]; exact h2, R.inj, R.low, R.below.trans ⟨hc.os, hc.tape, hc.output, hc.size, fun k hk => hc.block k (Nat.lt_of_lt_of_le hk R.bsz) (fun h => h)⟩, Nat.le_trans R.bsz hc.size⟩
theorem Fre.le (hf : Fre φ c c') (h : ∀ b, ¬ (c ≤ b ∧ b < c') → φ' b = φ b) : PLe φ φ' := fun b p e => by
  rw [h b (fun hb => by rw [hf b hb.1 hb.2] at e; cases e)]; exact e
theorem Tran.le (T : Tran base w0 φ g c w φ' g' c' w') (hf : Fre φ c c') : PLe φ φ' := hf.le T.same
theorem Tran.refl (R : Rel base w0 φ g w) (c : Nat) : Tran base w0 φ g c w φ g c w := ⟨fun _ _ => rfl, R, Chg.refl w _, fun x h => .inr h, Nat.le_refl _, fun b h => .inl h⟩
theorem Tran.grow (R : Rel base w0 φ g w) (c : Nat) (hc : Chg w w' (fun _ => False)) : Tran base w0 φ g c w φ g c w' := ⟨fun _ _ => rfl, R.grow hc, hc.mono (fun _ h => h.elim), fun x h => .inr h, Nat.le_refl _, fun b h => .inl h⟩
theorem Tran.trans (T : Tran base w0 φ g c w φ' g' c' w') (T' : Tran base w0 φ' g' c' w' φ'' g'' c'' w'') : Tran base w0 φ g c w φ'' g'' c'' w'' := by
  have h1 := T.cle; have h2 := T'.cle
  refine ⟨fun b hb => (T'.same b (by omega)).trans (T.same b (by omega)), T'.rel, ⟨T'.chg.os.trans T.chg.os, T'.chg.tape.trans T.chg.tape, T'.chg.output.trans T.chg.output, Nat.le_trans T.chg.size T'.chg.size, fun x hx hn => ?_⟩, fun x hx => ?_, Nat.le_trans h1 h2, fun b hb => ?_⟩
  · refine (T'.chg.block x (Nat.lt_of_lt_of_le hx T.chg.size) (fun ho => ?_)).trans (T.chg.block x hx hn)
    rcases T.new x ho with h | h
    · omega
    · exact hn h
  · rcases T'.new x hx with h | h
    · exact .inl (Nat.le_trans T.chg.size h)
    · exact T.new x h
  · rcases T'.keys b hb with h | h
    · rcases T.keys b h with h | h
      · exact .inl h
      · exact .inr (by omega)
    · exact .inr (by omega)
theorem Fre.step (hf : Fre φ c c'') (T : Tran base w0 φ g c w φ' g' c' w') : Fre φ' c' c'' := fun b h1 h2 => by
  rw [T.same b (by omega)]; exact hf b (by have := T.cle; omega) h2
def mrg (g g1' : HF) (X : Nat → Prop) [DecidablePred X] : HF := fun b => if X b then g1' b else g b
theorem Tran.frame {g1 g1' : HF} {X : Nat → Prop} [DecidablePred X] (R : Rel base w0 φ g w) (hsub : ∀ b, g1 b ≠ none → g b = g1 b) (T : Tran base w0 φ g1 c w φ' g1' c' w') (hf : Fre φ c c')
    (hX : ∀ b, g1' b ≠ none → ¬ X b → g1' b = g b) (hX2 : ∀ b, g b ≠ none → g1 b = none → ¬ X b) (hX3 : ∀ b, g1 b ≠ none → ¬ X b → g1' b ≠ none) (hXr : ∀ b, c ≤ b → b < c' → X b) : Tran base w0 φ g c w φ' (mrg g g1' X) c' w' := by
  have hle := T.le hf
  have hgk : ∀ b, g b ≠ none → ¬ (c ≤ b ∧ b < c') := fun b hb hr => by
    cases hg : g b with
    | none => exact hb hg
    | some o => obtain ⟨x, cap, h1, _⟩ := R.obj b o hg; rw [hf b hr.1 hr.2] at h1; cases h1
  -- which are from where
  have hcase : ∀ b o, mrg g g1' X b = some o → (g1' b = some o) ∨ (g b = some o ∧ g1 b = none ∧ ¬ X b) := fun b o h => by
    unfold mrg at h
    split at h
    · exact .inl h
    · rename_i hx
      cases hg : g1 b with
      | none => exact .inr ⟨h, rfl, hx⟩
      | some o1 =>
        have h1 := hX3 b (by rw [hg]; simp) hx
        exact .inl ((hX b h1 hx).trans h)
  have hfar : ∀ b x cap, g b ≠ none → g1 b = none → φ b = some (x, cap) → ¬ Own φ g1 x := fun b x cap hb h1 hx ho => by
    obtain ⟨b0, cap0, h2, h3⟩ := ho
    have := R.inj b b0 x cap cap0 hb (by rw [hsub b0 h2]; exact h2) hx h3
    subst this; exact h2 h1
  refine ⟨T.same, ⟨fun b o h => ?_, fun b b' x y y' h h' hx hx' => ?_, fun b x y h hx => ?_, T.rel.below, T.rel.bsz⟩, T.chg.mono (fun x ho => ?_), fun x ho => ?_, T.cle, fun b h => ?_⟩
  · rcases hcase b o h with h1 | ⟨h1, h2, h3⟩
    · exact T.rel.obj b o h1
    · obtain ⟨x, cap, hx, ho⟩ := R.obj b o h1
      refine ⟨x, cap, hle b _ hx, ?_⟩
      rw [T.chg.block x (R.lt (by rw [h1]; simp) hx) (hfar b x cap (by rw [h1]; simp) h2 hx)]
      exact ho.mono hle
  · have side : ∀ b b' x y y', g1' b ≠ none → g b' ≠ none → g1 b' = none → φ' b = some (x, y) → φ' b' = some (x, y') → False := fun b b' x y y' h1 h2 h3 hx hx' => by
      have e' : φ b' = some (x, y') := by rw [← T.same b' (hgk b' h2)]; exact hx'
      rcases T.new x ⟨b, y, h1, hx⟩ with h | h
      · have := R.lt h2 e'; omega
      · exact hfar b' x y' h2 h3 e' h
    cases hb : mrg g g1' X b with
    | none => exact absurd hb h
    | some o =>
      cases hb' : mrg g g1' X b' with
      | none => exact absurd hb' h'
      | some o' =>
        rcases hcase b o hb with h1 | ⟨h1, h2, _⟩ <;> rcases hcase b' o' hb' with h3 | ⟨h3, h4, _⟩
        · exact T.rel.inj b b' x y y' (by rw [h1]; simp) (by rw [h3]; simp) hx hx'
        · exact (side b b' x y y' (by rw [h1]; simp) (by rw [h3]; simp) h4 hx hx').elim
        · exact (side b' b x y' y (by rw [h3]; simp) (by rw [h1]; simp) h2 hx' hx).elim
        · have e1 := (T.same b (hgk b (by rw [h1]; simp))).symm.trans hx
          have e2 := (T.same b' (hgk b' (by rw [h3]; simp))).symm.trans hx'
          exact R.inj b b' x y y' (by rw [h1]; simp) (by rw [h3]; simp) e1 e2
  · cases hb : mrg g g1' X b with
    | none => exact absurd hb h
    | some o =>
      rcases hcase b o hb with h1 | ⟨h1, h2, _⟩
      · exact T.rel.low b x y (by rw [h1]; simp) hx
      · exact R.low b x y (by rw [h1]; simp) ((T.same b (hgk b (by rw [h1]; simp))).symm.trans hx)
  · obtain ⟨b, cap, h1, h2⟩ := ho
    exact ⟨b, cap, by rw [hsub b h1]; exact h1, h2⟩
  · obtain ⟨b, cap, h1, h2⟩ := ho
    cases hb : mrg g g1' X b with
    | none => exact absurd hb h1
    | some o =>
      rcases hcase b o hb with h3 | ⟨h3, h4, _⟩
      · rcases T.new x ⟨b, cap, by rw [h3]; simp, h2⟩ with h | ⟨b0, cap0, h5, h6⟩
        · exact .inl h
        · exact .inr ⟨b0, cap0, by rw [hsub b0 h5]; exact h5, h6⟩
      · exact .inr ⟨b, cap, by rw [h3]; simp, by rw [← T.same b (hgk b (by rw [h3]; simp))]; exact h2⟩
  · cases hb : mrg g g1' X b with
    | none => exact absurd hb h
    | some o =>
      rcases hcase b o hb with h3 | ⟨h3, h4, _⟩
      · rcases T.keys b (by rw [h3]; simp) with h | h
        · exact .inl (by rw [hsub b h]; exact h)
        · exact .inr h
      · exact .inl (by rw [h3]; simp)
def pup (φ : Ph) (c : Nat) (p : Nat × Nat) : Ph := fun b => if b = c then some p else φ b
def gup (g : HF) (c : Nat) (o : Option BO) : HF := fun b => if b = c then o else g b
theorem tran_alloc (R : Rel base w0 φ g w) (hf : Fre φ c (c + 1)) {T m cap : Nat} {l : List AV} {vs arr : List Value} (hl : AV.cl φ l = some vs) (hs : arr.length = cap * m) (hpv : arr.take vs.length = vs) (hpl : vs.length ≤ arr.length) (hcap : cap ≤ maxLen) :
    Tran base w0 φ g c w (pup φ c (w.heap.size, cap)) (gup g c (some (.cells T m l))) (c + 1) (w.alloc (.cells arr.toArray T)) ∧ pup φ c (w.heap.size, cap) c = some (w.heap.size, cap) := by
  have hsame : ∀ b, ¬ (c ≤ b ∧ b < c + 1) → pup φ c (w.heap.size, cap) b = φ b := fun b hb => by unfold pup; rw [if_neg (by omega)]
  have hle : PLe φ (pup φ c (w.heap.size, cap)) := hf.le hsame
  have hgc : g c = none := by
    cases hg : g c with
    | none => rfl
    | some o => obtain ⟨x, y, h1, _⟩ := R.obj c o hg; rw [hf c (by omega) (by omega)] at h1; cases h1
  have hat : (w.alloc (.cells arr.toArray T)).heap[w.heap.size]? = some (.cells arr.toArray T) := by
    show (w.heap.push _)[w.heap.size]? = _
    simp
  have hold : ∀ x, x < w.heap.size → (w.alloc (.cells arr.toArray T)).heap[x]? = w.heap[x]? := fun x hx => (Chg.alloc w _).block x hx (fun h => h)
  refine ⟨⟨hsame, ⟨fun b o h => ?_, fun b b' x y y' h h' hx hx' => ?_, fun b x y h hx => ?_, R.below.trans ⟨rfl, rfl, rfl, (Chg.alloc w _).size, fun k hk => hold k (Nat.lt_of_lt_of_le hk R.bsz)⟩, Nat.le_trans R.bsz (Chg.alloc w _).size⟩, (Chg.alloc w _).mono (fun _ h => h.elim), fun x ho => ?_, by omega, fun b h => ?_⟩, by unfold pup; simp⟩
  · unfold gup at h
    by_cases hb : b = c
    · rw [if_pos hb] at h
      injection h with h
      subst h; subst hb
      refine ⟨w.heap.size, cap, by unfold pup; simp, hcap, arr.toArray, vs, hat, by simpa using hs, AV.cl_mono hle l vs hl, by simpa using hpl, hpv⟩
    · rw [if_neg hb] at h
      obtain ⟨x, y, h1, h2⟩ := R.obj b o h
      refine ⟨x, y, hle b _ h1, ?_⟩
      rw [hold x (R.lt (by rw [h]; simp) h1)]
      exact h2.mono hle
  · unfold gup at h h'; unfold pup at hx hx'
    by_cases hb : b = c <;> by_cases hb' : b' = c
    · omega
    · rw [if_pos hb] at hx; rw [if_neg hb'] at hx' h'
      injection hx with hx; injection hx with hx _
      have := R.lt h' hx'; omega
    · rw [if_neg hb] at hx h; rw [if_pos hb'] at hx'
      injection hx' with hx'; injection hx' with hx' _
      have := R.lt h hx; omega
    · rw [if_neg hb] at hx h; rw [if_neg hb'] at hx' h'
      exact R.inj b b' x y y' h h' hx hx'
  · unfold gup at h; unfold pup at hx
    by_cases hb : b = c
    · rw [if_pos hb] at hx; injection hx with hx; injection hx with hx _; have := R.bsz; omega
    · rw [if_neg hb] at h hx; exact R.low b x y h hx
  · obtain ⟨b, cp, h1, h2⟩ := ho
    unfold gup at h1; unfold pup at h2
    by_cases hb : b = c
    · rw [if_pos hb] at h2; injection h2 with h2; injection h2 with h2 _; exact .inl (by omega)
    · rw [if_neg hb] at h1 h2; exact .inr ⟨b, cp, h1, h2⟩
  · unfold gup at h
    by_cases hb : b = c
    · exact .inr (by omega)
    · rw [if_neg hb] at h; exact .inl h
theorem Rel.cell (R : Rel base w0 φ g w) {b T m x cap : Nat} {l : List AV} (hb : g b = some (.cells T m l)) (hx : φ b = some (x, cap)) : ∃ vs, AV.cl φ l = some vs ∧ ∀ j u, vs[j]? = some u → w.cell? ⟨x, j, none⟩ = some u := by
  obtain ⟨y, cp, h1, hc, arr, vs, h2, h3, h4, h5, h6⟩ := R.obj b _ hb
  rw [hx] at h1; injection h1 with h1; injection h1 with h1 _; subst h1
  refine ⟨vs, h4, fun j u hj => ?_⟩
  rw [← h6, List.getElem?_take] at hj
  split at hj
  · simp only [World.cell?, h2]; simpa using hj
  · cases hj
theorem Rel.seg (R : Rel base w0 φ g w) {b T m x cap off n : Nat} {l : List AV} {vs : List Value} (hb : g b = some (.cells T m l)) (hx : φ b = some (x, cap)) (hv : AV.cl φ ((l.drop off).take n) = some vs) : CF ⟨x, off, none⟩ vs w := fun j u hj => by
  obtain ⟨ws, h1, h2⟩ := R.cell hb hx
  have h3 := AV.cl_take n (AV.cl_drop off h1)
  rw [hv] at h3; injection h3 with h3; subst h3
  have hadd : (⟨x, off, none⟩ : Addr).add j = ⟨x, off + j, none⟩ := by unfold Addr.add; split <;> simp_all
  rw [hadd]
  rw [List.getElem?_take] at hj
  split at hj
  · rw [List.getElem?_drop] at hj; exact h2 _ _ hj
  · cases hj
def putL (l : List AV) (off : Nat) (new : List AV) : List AV := l.take off ++ (new ++ l.drop (off + new.length))
theorem tran_store {P : Program} (R : Rel base w0 φ g w) {b T E m x cap off n b' : Nat} {gg : Bool} {z : Option Value} {l new : List AV} {v : Value} {nv : List Value} (hb : g b = some (.cells E m l)) (hx : φ b = some (x, cap)) (ht : tyInfo P T = some (n, b', gg, z))
    (hn : AV.cl φ new = some nv) (hvc : v.cells = nv.toArray) (hln : new.length = n) (hfit : off + n ≤ l.length) (h1 : ∀ u ∈ nv, u.oneCell' = true) (c : Nat) :
    ∃ w', (storeVar T ⟨x, off, none⟩ v).run P w = .ok () w' ∧ Tran base w0 φ g c w φ (gup g b (some (.cells E m (putL l off new)))) c w' := by
  obtain ⟨y, cp, h2, hc, arr, vs, h3, h4, h5, h6, h7⟩ := R.obj b _ hb
  rw [hx] at h2; injection h2 with h2; injection h2 with h2 h2c; subst h2; subst h2c
  have hlt := R.lt (by rw [hb]; simp) hx
  have hvl := AV.cl_len h5
  have hnl := AV.cl_len hn
  have hh : w.heap[x]? = some (.cells arr.toList.toArray E (0, 0)) := by rw [h3]
  have hal : arr.toList.length = arr.size := Array.length_toList
  have hrun := run_storeVar_box (P := P) (v := v) (off := off) ht hh (by rw [hvc]; simp; omega) (by omega) (by rw [hvc]; simpa using h1)
  rw [hvc] at hrun
  have hk : ∀ q, gup g b (some (.cells E m (putL l off new))) q ≠ none → g q ≠ none := fun q hq => by
    unfold gup at hq
    by_cases e : q = b
    · rw [e, hb]; simp
    · rw [if_neg e] at hq; exact hq
  have hxb := R.low b x cap (by rw [hb]; simp) hx
  refine ⟨_, hrun, fun _ _ => rfl, ⟨fun b2 o h => ?_, fun p q y1 y2 y3 hp hq e1 e2 => ?_, fun q y1 y2 hq e1 => R.low q y1 y2 (hk q hq) e1, R.below.trans ⟨rfl, rfl, rfl, by rw [putBlock_size]; exact Nat.le_refl _, fun k hk2 => (putBlock_chg w x E _).block k (Nat.lt_of_lt_of_le hk2 R.bsz) (by omega)⟩, by rw [putBlock_size]; exact R.bsz⟩, (putBlock_chg w x E _).mono (fun q hq => by subst hq; exact ⟨b, cap, by rw [hb]; simp, hx⟩), fun y ho => .inr ?_, Nat.le_refl _, fun b2 h => .inl ?_⟩
  · unfold gup at h
    by_cases hb2 : b2 = b
    · rw [if_pos hb2] at h
      injection h with h
      subst h; subst hb2
      refine ⟨x, cap, hx, hc, (lput arr.toList off nv).toArray, vs.take off ++ (nv ++ vs.drop (off + new.length)), ?_, ?_, ?_, ?_, ?_⟩
      · have := putBlock_at hlt E (lput arr.toList off nv)
        simpa using this
      · simp [lput_length, h4]
      · exact AV.cl_app (AV.cl_take off h5) (AV.cl_app hn (AV.cl_drop _ h5))
      · simp only [List.length_append, List.length_take, List.length_drop, List.size_toArray, lput_length]; omega
      · apply List.ext_getElem?
        intro j
        rw [List.getElem?_take]
        simp only [List.length_append, List.length_take, List.length_drop]
        split
        · show (lput arr.toList off nv)[j]? = _
          rw [lput_get nv arr.toList off j (by omega)]
          by_cases hj1 : j < off
          · rw [if_neg (by omega), List.getElem?_append_left (by simp; omega), List.getElem?_take, if_pos hj1, ← h7, List.getElem?_take, if_pos (by omega)]
          · by_cases hj2 : j < off + nv.length
            · rw [if_pos (by omega), List.getElem?_append_right (by simp; omega), List.getElem?_append_left (by simp; omega)]
              congr 1
              simp; omega
            · rw [if_neg (by omega), List.getElem?_append_right (by simp; omega), List.getElem?_append_right (by simp; omega), List.getElem?_drop]
              have : off + new.length + (j - (List.take off vs).length - nv.length) = j := by simp; omega
              rw [this, ← h7, List.getElem?_take, if_pos (by omega)]
        · rw [List.getElem?_eq_none (by simp; omega)]
    · rw [if_neg hb2] at h
      obtain ⟨y, cp, e1, e2⟩ := R.obj b2 o h
      refine ⟨y, cp, e1, ?_⟩
      rw [(putBlock_chg w x E _).block y (R.lt (by rw [h]; simp) e1) (fun hy => ?_)]
      · exact e2
      · subst hy; exact hb2 (R.inj b2 b _ cp cap (by rw [h]; simp) (by rw [hb]; simp) e1 hx)
  · have k : ∀ q, gup g b (some (.cells E m (putL l off new))) q ≠ none → g q ≠ none := fun q hq => by
      unfold gup at hq
      by_cases e : q = b
      · rw [e, hb]; simp
      · rw [if_neg e] at hq; exact hq
    exact R.inj p q y1 y2 y3 (k p hp) (k q hq) e1 e2
  · obtain ⟨q, cp, e1, e2⟩ := ho
    refine ⟨q, cp, ?_, e2⟩
    unfold gup at e1
    by_cases e : q = b
    · rw [e, hb]; simp
    · rw [if_neg e] at e1; exact e1
  · unfold gup at h
    by_cases e : b2 = b
    · rw [e, hb]; simp
    · rw [if_neg e] at h; exact h
end
end Gw
namespace Gw
open Go Go.RowKit
set_option linter.unusedSimpArgs false
set_option linter.unusedVariables false
structure En where
  mask : Nat
  loc : List (Nat × AV)
  tr : Tr AV
def lookA (j : Nat) : List (Nat × AV) → Option (Option AV)
  | [] => none
  | (d, v) :: l => Bool.casesOn (motive := fun _ => Option (Option AV)) (Nat.beq d j) (lookA j l) (some (some v))
def bitA (m j : Nat) : Bool := Nat.beq (Nat.land (Nat.shiftRight m j) 1) 1
def En.get (ρ : En) (j : Nat) : Option AV := match ρ with
  | ⟨m, l, t⟩ => match lookA j l with
    | some r => r
    | none => Bool.casesOn (motive := fun _ => Option AV) (bitA m j) none (t.get j)
def En.put (ρ : En) (d : Nat) (v : AV) : En := match ρ with
  | ⟨m, l, t⟩ => ⟨m, (d, v) :: l, t⟩
theorem En.get_put {ρ : En} {d : Nat} {v : AV} (j : Nat) : (ρ.put d v).get j = if j = d then some v else ρ.get j := by
  obtain ⟨m, l, t⟩ := ρ
  unfold En.get En.put
  simp only [lookA]
  cases hb : Nat.beq d j with
  | true =>
    have := Nat.eq_of_beq_eq_true hb; subst this
    simp
  | false =>
    have : ¬ j = d := fun e => by subst e; simp at hb
    simp only [if_neg this]
def flushA (m : Nat) : List (Nat × AV) → Tr AV → Tr AV
  | [], t => t
  | (d, v) :: l, t => Bool.casesOn (motive := fun _ => Tr AV) (bitA m d) (flushA m l t) (Bool.casesOn (motive := fun _ => Tr AV) (smallK d) .nil ((flushA m l t).put d (some v)))
def En.flush (ρ : En) : En := match ρ with
  | ⟨m, l, t⟩ => ⟨m, [], flushA m l t⟩
theorem flushA_get {m : Nat} {t : Tr AV} {j : Nat} {v : AV} (hm : bitA m j = true) : ∀ {l : List (Nat × AV)}, (flushA m l t).get j = some v → (match lookA j l with
    | some r => r
    | none => t.get j) = some v
  | [], h => h
  | (d, u) :: l, h => by
    unfold flushA at h
    cases hb : bitA m d with
    | false =>
      rw [hb] at h; simp only at h
      have hne : Nat.beq d j = false := by
        cases hd : Nat.beq d j with
        | false => rfl
        | true => have := Nat.eq_of_beq_eq_true hd; subst this; rw [hm] at hb; cases hb
      simp only [lookA, hne]
      exact flushA_get hm h
    | true =>
      rw [hb] at h; simp only at h
      cases hs : smallK d with
      | false => rw [hs] at h; simp only [Tr.get_nil] at h; cases h
      | true =>
        rw [hs] at h; simp only at h
        rw [Tr.get_put _ j hs] at h
        cases hd : Nat.beq d j with
        | true =>
          have := Nat.eq_of_beq_eq_true hd; subst this
          rw [if_pos rfl] at h
          simp only [lookA, hd]; exact h
        | false =>
          have hne : ¬ j = d := fun e => by subst e; simp at hd
          rw [if_neg hne] at h
          simp only [lookA, hd]
          exact flushA_get hm h
theorem En.flush_get {ρ : En} {j : Nat} {v : AV} (h : ρ.flush.get j = some v) : ρ.get j = some v := by
  obtain ⟨m, l, t⟩ := ρ
  unfold En.get En.flush at h
  simp only [lookA] at h
  cases hm : bitA m j with
  | false => rw [hm] at h; cases h
  | true =>
    rw [hm] at h; simp only at h
    have := flushA_get hm h
    unfold En.get
    simp only [hm]; exact this
def Sem.pr {α : Type} (P : Program) : Sem α → Option α
  | .pure a => some a
  | .program k => Sem.pr P (k P)
  | .mark _ k => Sem.pr P k
  | _ => none
theorem pr_run {α : Type} {P : Program} : ∀ (s : Sem α) (a : α), Sem.pr P s = some a → ∀ w, s.run P w = .ok a w
  | .pure x, a, h, w => by unfold Sem.pr at h; injection h with h; subst h; rfl
  | .program k, a, h, w => by unfold Sem.pr at h; exact pr_run (k P) a h w
  | .mark m k, a, h, w => by unfold Sem.pr at h; exact pr_run k a h w
def en (a : Act) : Env := fun t => a.tmps.getD t undef
theorem act_eval (a : Act) : a.eval = ev (en a) := by funext x; cases x <;> rfl
def evalA (ρ : En) : Operand → Option AV
  | .tmp t => ρ.get t
  | .const v => some (ofV v)
  | .func f => some (.fn f [])
  | .global _ => none
def ERel (φ : Ph) (ρ : Nat → Option AV) (e : Env) (S : Nat → Prop) : Prop := ∀ t v, S t → ρ t = some v → v.c φ = some (e t)
def opS (S : Nat → Prop) : Operand → Prop
  | .tmp t => S t
  | _ => True
section
variable {P : Program} {base : Nat} {w0 : World} {φ : Ph} {ρ : En} {e : Env} {S : Nat → Prop} {w : World}
theorem evalA_ok (hρ : ERel φ ρ.get e S) {x : Operand} {v : AV} (hS : opS S x) (h : evalA ρ x = some v) : v.c φ = some (ev e x) := by
  cases x with
  | tmp t => exact hρ t v hS h
  | const y => unfold evalA at h; injection h with h; subst h; exact ofV_c φ y
  | func f => unfold evalA at h; injection h with h; subst h; unfold AV.c AV.cl; rfl
  | global _ => cases h
def evalL (ρ : En) : List Operand → Option (List AV)
  | [] => some []
  | x :: l => match evalA ρ x, evalL ρ l with
    | some a, some avs => some (a :: avs)
    | _, _ => none
theorem evalL_ok (hρ : ERel φ ρ.get e S) : ∀ {l : List Operand} {avs : List AV}, (∀ x ∈ l, opS S x) → evalL ρ l = some avs → AV.cl φ avs = some (l.map (ev e))
  | [], avs, _, h => by unfold evalL at h; injection h with h; subst h; unfold AV.cl; rfl
  | x :: l, avs, hS, h => by
    unfold evalL at h
    split at h
    · rename_i a bs h1 h2
      injection h with h; subst h
      exact AV.cl_mk (evalA_ok hρ (hS x (by simp)) h1) (evalL_ok hρ (fun y hy => hS y (by simp [hy])) h2)
    · cases h
def fll : List AV → Option (List Value)
  | [] => some []
  | .v x :: l => (fll l).map fun r => x :: r
  | _ :: _ => none
def AV.fl : AV → Option Value
  | .v x => some x
  | .agg l => (fll l).map fun vs => .agg vs.toArray
  | .tup l => (fll l).map fun vs => .tuple vs.toArray
  | _ => none
theorem fll_c : ∀ {l : List AV} {xs : List Value}, fll l = some xs → AV.cl φ l = some xs
  | [], xs, h => by unfold fll at h; injection h with h; subst h; unfold AV.cl; rfl
  | a :: l, xs, h => by
    cases a <;> unfold fll at h <;> try cases h
    simp only [Option.map_eq_some_iff] at h
    obtain ⟨r, h1, rfl⟩ := h
    exact AV.cl_mk (by unfold AV.c; rfl) (fll_c h1)
theorem fl_c {a : AV} {x : Value} (h : a.fl = some x) : a.c φ = some x := by
  cases a <;> unfold AV.fl at h <;> try cases h
  · unfold AV.c; rfl
  · simp only [Option.map_eq_some_iff] at h
    obtain ⟨vs, h1, rfl⟩ := h
    unfold AV.c; rw [fll_c h1]; rfl
  · simp only [Option.map_eq_some_iff] at h
    obtain ⟨vs, h1, rfl⟩ := h
    unfold AV.c; rw [fll_c h1]; rfl
def peA (ρ : En) (x : Operand) : Value := match evalA ρ x with
  | some a => match a.fl with
    | some v => v
    | none => undef
  | none => undef
def flatB (ρ : En) (x : Operand) : Bool := match evalA ρ x with
  | some a => match a.fl with
    | some _ => true
    | none => false
  | none => false
def noSel : Op → Bool
  | .select _ _ => false
  | _ => true
def pureA (P : Program) (ρ : En) (o : Oper) : Option AV :=
  if noSel o.op && o.op.operands.toList.all (flatB ρ) then match Sem.pr P (execOp (peA ρ) o) with
    | some (.value V) => some (ofV V)
    | _ => none
  else none
theorem pureA_ok (hρ : ERel φ ρ.get e S) {o : Oper} {v : AV} (hS : ∀ x ∈ o.op.operands, opS S x) (h : pureA P ρ o = some v) : ∃ V, (execOp (ev e) o).run P w = .ok (.value V) w ∧ v.c φ = some V := by
  unfold pureA at h
  split at h
  · rename_i hc
    rw [Bool.and_eq_true] at hc
    have hcong : execOp (peA ρ) o = execOp (ev e) o := by
      refine execOp_congr o (fun cs b h => by rw [h] at hc; exact absurd hc.1 (by simp [noSel])) (fun x hx => ?_)
      have h1 := List.all_eq_true.1 hc.2 x (by simpa using hx)
      unfold flatB at h1; unfold peA
      split at h1
      · rename_i a ha
        have h2 := evalA_ok hρ (hS x hx) ha
        split at h1
        · rename_i y hy
          have h3 := fl_c (φ := φ) hy
          rw [h2] at h3; injection h3 with h3; exact h3.symm
        · cases h1
      · cases h1
    split at h
    · rename_i V hV
      injection h with h; subst h
      rw [hcong] at hV
      exact ⟨V, pr_run _ _ hV w, ofV_c φ V⟩
    · cases h
  · cases h
def ldA (P : Program) (H : Tr BO) (T : Nat) (a : AV) : Option AV :=
  match a with
  | .ptr b off => match tyInfo P T, H.get b with
    | some (n, _, g, _), some (.cells _ _ l) =>
      if Nat.beq ((l.drop off).take n).length n then (cond g (some (.agg ((l.drop off).take n))) (match (l.drop off).take n with
        | [x] => some x
        | _ => none))
      else none
    | _, _ => none
  | _ => none
theorem c_ptr {b off : Nat} {A : Value} (h : (AV.ptr b off).c φ = some A) : ∃ x cap, φ b = some (x, cap) ∧ A = .pointer (some ⟨x, off, none⟩) := by
  unfold AV.c at h
  simp only [Option.map_eq_some_iff] at h
  obtain ⟨⟨x, cap⟩, h1, rfl⟩ := h
  exact ⟨x, cap, h1, rfl⟩
theorem ldA_ok {H : Tr BO} {T : Nat} {a v : AV} {A : Value} (R : Rel base w0 φ H.get w) (ha : a.c φ = some A) (h : ldA P H T a = some v) :
    ∃ n b' gg z ad seg, tyInfo P T = some (n, b', gg, z) ∧ A = .pointer (some ad) ∧ seg.length = n ∧ (gg = false → n = 1) ∧ CF ad seg w ∧ v.c φ = some (packV gg seg) := by
  unfold ldA at h
  split at h
  · rename_i b off
    split at h
    · rename_i n b' gg z E m l ht hg
      split at h
      · rename_i hn
        have hn' : ((l.drop off).take n).length = n := Nat.eq_of_beq_eq_true hn
        obtain ⟨x, cap, hx, rfl⟩ := c_ptr ha
        obtain ⟨vs, hv, _⟩ := R.cell hg hx
        have hs := AV.cl_take n (AV.cl_drop off hv)
        have hlen := AV.cl_len hs
        refine ⟨n, b', gg, z, _, _, ht, rfl, by rw [hlen, hn'], fun hgg => ?_, R.seg hg hx hs, ?_⟩
        · subst hgg
          simp only [cond_false] at h
          split at h
          · rename_i y hy; rw [hy] at hn'; simpa using hn'.symm
          · cases h
        · cases gg with
          | true =>
            simp only [cond_true, Option.some.injEq] at h
            subst h
            unfold AV.c; rw [hs]; rfl
          | false =>
            simp only [cond_false] at h
            split at h
            · rename_i y hy
              injection h with h; subst h
              rw [hy] at hs
              obtain ⟨u, us, e1, e2, e3⟩ := AV.cl_cons hs
              rw [e1]; exact e2
            · cases h
      · cases h
    · cases h
  · cases h
def noAgg : AV → Bool
  | .v (.agg _) => false
  | _ => true
theorem noAgg_ne {a : AV} (h : noAgg a = true) : ∀ cs, a ≠ .v (.agg cs) := fun cs e => by subst e; cases h
def stA (P : Program) (H : Tr BO) (T : Nat) (a v : AV) : Option (Tr BO) :=
  match a with
  | .ptr b off => match tyInfo P T, H.get b with
    | some (n, _, _, _), some (.cells E m l) =>
      if Nat.beq v.cells.length n && (Nat.ble (off + n) l.length && (v.cells.all AV.one && (noAgg v && smallK b))) then some (H.put b (some (.cells E m (putL l off v.cells)))) else none
    | _, _ => none
  | _ => none
theorem get_put_fun {H : Tr BO} {b : Nat} {o : Option BO} (h : smallK b = true) : (H.put b o).get = gup H.get b o := by
  funext j; rw [Tr.get_put o j h]; rfl
theorem stA_ok {H H' : Tr BO} {T : Nat} {a v : AV} {A V : Value} (R : Rel base w0 φ H.get w) (ha : a.c φ = some A) (hv : v.c φ = some V) (h : stA P H T a v = some H') (c : Nat) :
    ∃ ad w', A = .pointer (some ad) ∧ (storeVar T ad V).run P w = .ok () w' ∧ Tran base w0 φ H.get c w φ H'.get c w' := by
  unfold stA at h
  split at h
  · rename_i b off
    split at h
    · rename_i n b' gg z E m l ht hg
      split at h
      · rename_i hc
        simp only [Bool.and_eq_true] at hc
        obtain ⟨h1, h2, h3, h4, h5⟩ := hc
        obtain ⟨x, cap, hx, rfl⟩ := c_ptr ha
        obtain ⟨xs, e1, e2⟩ := AV.cells_c (noAgg_ne h4) hv
        injection h with h; subst h
        obtain ⟨w', hr, hT⟩ := tran_store R hg hx ht e1 e2 (Nat.eq_of_beq_eq_true h1) (Nat.le_of_ble_eq_true h2) (AV.one_l h3 e1) c
        exact ⟨_, w', rfl, hr, by rw [get_put_fun h5]; exact hT⟩
      · cases h
    · cases h
  · cases h
def nwA (H : Tr BO) (c T : Nat) (v : AV) : Option (Tr BO) :=
  if v.cells.all AV.one && (noAgg v && smallK c) then some (H.put c (some (.cells T v.cells.length v.cells))) else none
theorem nwA_ok {H H' : Tr BO} {c T : Nat} {v : AV} {V : Value} (R : Rel base w0 φ H.get w) (hf : Fre φ c (c + 1)) (hv : v.c φ = some V) (h : nwA H c T v = some H') :
    ∃ φ', (newVar T V).run P w = .ok (⟨w.heap.size, 0, none⟩ : Addr) (w.alloc (.cells V.cells T)) ∧ Tran base w0 φ H.get c w φ' H'.get (c + 1) (w.alloc (.cells V.cells T)) ∧ (AV.ptr c 0).c φ' = some (.pointer (some ⟨w.heap.size, 0, none⟩)) := by
  unfold nwA at h
  split at h
  · rename_i hc
    simp only [Bool.and_eq_true] at hc
    obtain ⟨h3, h4, h5⟩ := hc
    obtain ⟨xs, e1, e2⟩ := AV.cells_c (noAgg_ne h4) hv
    injection h with h; subst h
    have ht := tran_alloc R hf (T := T) (m := v.cells.length) (cap := 1) (arr := xs) e1 (by rw [AV.cl_len e1]; omega) (List.take_of_length_le (Nat.le_refl _)) (Nat.le_refl _) (by simp [maxLen])
    refine ⟨_, ?_, by rw [get_put_fun h5, e2]; exact ht.1, ?_⟩
    · simp only [newVar, newRow, newObj, Sem.run_bind]
      rfl
    · unfold AV.c; rw [ht.2]; rfl
  · cases h
end
end Gw
namespace Gw
open Go Go.RowKit
set_option linter.unusedSimpArgs false
set_option linter.unusedVariables false
section
variable {P : Program} {base : Nat} {w0 : World} {φ : Ph} {ρ : En} {e : Env} {S : Nat → Prop} {w : World}
theorem c_agg {l : List AV} {A : Value} (h : (AV.agg l).c φ = some A) : ∃ vs, AV.cl φ l = some vs ∧ A = .agg vs.toArray := by
  unfold AV.c at h; simp only [Option.map_eq_some_iff] at h
  obtain ⟨vs, h1, rfl⟩ := h; exact ⟨vs, h1, rfl⟩
theorem c_tup {l : List AV} {A : Value} (h : (AV.tup l).c φ = some A) : ∃ vs, AV.cl φ l = some vs ∧ A = .tuple vs.toArray := by
  unfold AV.c at h; simp only [Option.map_eq_some_iff] at h
  obtain ⟨vs, h1, rfl⟩ := h; exact ⟨vs, h1, rfl⟩
theorem c_fn {f : Nat} {l : List AV} {A : Value} (h : (AV.fn f l).c φ = some A) : ∃ vs, AV.cl φ l = some vs ∧ A = .func (.func f) #[] vs.toArray := by
  unfold AV.c at h; simp only [Option.map_eq_some_iff] at h
  obtain ⟨vs, h1, rfl⟩ := h; exact ⟨vs, h1, rfl⟩
theorem c_sl {b oc oe len : Nat} {A : Value} (h : (AV.sl b oc oe len).c φ = some A) : ∃ x cap, φ b = some (x, cap) ∧ A = .slice (some ⟨x, oc, none⟩) len (cap - oe) := by
  unfold AV.c at h; simp only [Option.map_eq_some_iff] at h
  obtain ⟨⟨x, cap⟩, h1, rfl⟩ := h; exact ⟨x, cap, h1, rfl⟩
theorem c_slx {b oc len cp : Nat} {A : Value} (h : (AV.slx b oc len cp).c φ = some A) : ∃ x cap, φ b = some (x, cap) ∧ A = .slice (some ⟨x, oc, none⟩) len cp := by
  unfold AV.c at h; simp only [Option.map_eq_some_iff] at h
  obtain ⟨⟨x, cap⟩, h1, rfl⟩ := h; exact ⟨x, cap, h1, rfl⟩
theorem c_v {x A : Value} (h : (AV.v x).c φ = some A) : A = x := by unfold AV.c at h; injection h with h; exact h.symm
def exA (a : AV) (i : Nat) : Option AV := match a with
  | .tup l => l[i]?
  | _ => none
theorem exA_ok {a v : AV} {A : Value} {i : Nat} (ha : a.c φ = some A) (h : exA a i = some v) : ∃ (vs : List Value) (V : Value), A = .tuple vs.toArray ∧ vs[i]? = some V ∧ v.c φ = some V := by
  unfold exA at h; split at h
  · obtain ⟨vs, h1, rfl⟩ := c_tup ha
    obtain ⟨V, h2, h3⟩ := AV.cl_get h1 h
    exact ⟨vs, V, rfl, h2, h3⟩
  · cases h
def fdA (P : Program) (T q : Nat) (a : AV) : Option AV := match a with
  | .agg l => match fieldInfo P T q with
    | some (o, ft) => match tyInfo P ft with
      | some (n, _, g, _) => if Nat.beq ((l.drop o).take n).length n then (cond g (some (.agg ((l.drop o).take n))) (match (l.drop o).take n with
        | [x] => some x
        | _ => none)) else none
      | none => none
    | none => none
  | _ => none
theorem fdA_ok {a v : AV} {A : Value} {T q : Nat} (ha : a.c φ = some A) (h : fdA P T q a = some v) :
    ∃ o ft n b' gg z cs V, fieldInfo P T q = some (o, ft) ∧ tyInfo P ft = some (n, b', gg, z) ∧ A = .agg (List.toArray cs) ∧ ((cs.drop o).take n).length = n ∧ (gg = false → n = 1) ∧ packV gg ((cs.drop o).take n) = V ∧ v.c φ = some V := by
  unfold fdA at h
  split at h
  · rename_i l
    split at h
    · rename_i o ft hf
      split at h
      · rename_i n b' gg z ht
        split at h
        · rename_i hn
          have hn' : ((l.drop o).take n).length = n := Nat.eq_of_beq_eq_true hn
          obtain ⟨vs, hv, rfl⟩ := c_agg ha
          have hs := AV.cl_take n (AV.cl_drop o hv)
          have hlen := AV.cl_len hs
          refine ⟨o, ft, n, b', gg, z, vs, _, hf, ht, rfl, by rw [hlen, hn'], fun hgg => ?_, rfl, ?_⟩
          · subst hgg
            simp only [cond_false] at h
            split at h
            · rename_i y hy; rw [hy] at hn'; simpa using hn'.symm
            · cases h
          · cases gg with
            | true =>
              simp only [cond_true, Option.some.injEq] at h
              subst h
              unfold AV.c; rw [hs]; rfl
            | false =>
              simp only [cond_false] at h
              split at h
              · rename_i y hy
                injection h with h; subst h
                rw [hy] at hs
                obtain ⟨u, us, e1, e2, e3⟩ := AV.cl_cons hs
                rw [e1]; exact e2
              · cases h
        · cases h
      · cases h
    · cases h
  · cases h
def faA (P : Program) (T q : Nat) (a : AV) : Option AV := match a with
  | .ptr b off => match fieldInfo P T q with
    | some (o, ft) => match tyInfo P ft with
      | some (n, _, _, _) => if Nat.blt 0 n then some (.ptr b (off + o)) else none
      | none => none
    | none => none
  | _ => none
theorem faA_ok {a v : AV} {A : Value} {T q : Nat} (ha : a.c φ = some A) (h : faA P T q a = some v) :
    ∃ o ft n b' gg z x off, fieldInfo P T q = some (o, ft) ∧ tyInfo P ft = some (n, b', gg, z) ∧ Nat.blt 0 n = true ∧ A = .pointer (some ⟨x, off, none⟩) ∧ v.c φ = some (.pointer (some ⟨x, off + o, none⟩)) := by
  unfold faA at h
  split at h
  · split at h
    · rename_i o ft hf
      split at h
      · rename_i n b' gg z ht
        split at h
        · rename_i hn
          obtain ⟨x, cap, hx, rfl⟩ := c_ptr ha
          injection h with h; subst h
          exact ⟨o, ft, n, b', gg, z, x, _, hf, ht, hn, rfl, by unfold AV.c; rw [hx]; rfl⟩
        · cases h
      · cases h
    · cases h
  · cases h
def posB : Int → Bool
  | .ofNat _ => true
  | .negSucc _ => false
theorem posB_ok {q : Int} (h : posB q = true) : 0 ≤ q := by cases q <;> first | exact Int.natCast_nonneg _ | cases h
def inB (q : Int) (len : Nat) : Bool := posB q && Nat.blt q.toNat len
theorem inB_ok {q : Int} {len : Nat} (h : inB q len = true) : 0 ≤ q ∧ q < (len : Int) := by
  unfold inB at h; rw [Bool.and_eq_true] at h
  have h0 := posB_ok h.1
  have h1 : q.toNat < len := by simpa [Nat.blt_eq] using h.2
  exact ⟨h0, by omega⟩
def iaA (P : Program) (T : Nat) (a i : AV) : Option AV := match i with
  | .v (.int _ q) => match P.underlying T with
    | some (.slice E) => match tyInfo P E with
      | some (n, _, _, _) => match a with
        | .sl b oc _ len => if inB q len then some (.ptr b (oc + q.toNat * n)) else none
        | .slx b oc len _ => if inB q len then some (.ptr b (oc + q.toNat * n)) else none
        | _ => none
      | none => none
    | some (.array len E) => match tyInfo P E with
      | some (n, _, _, _) => match a with
        | .ptr b off => if inB q len then some (.ptr b (off + q.toNat * n)) else none
        | _ => none
      | none => none
    | _ => none
  | _ => none
theorem iaA_ok {a i v : AV} {A I : Value} {T : Nat} {x y : Operand} (ha : a.c φ = some A) (hi : i.c φ = some I) (hx : ev e x = A) (hy : ev e y = I) (h : iaA P T a i = some v) {d : Option Tmp} {ty : TypeId} {pos : String} {af : Array Edge} {gd : Option (Nat × Bool)} :
    ∃ V, (execOp (ev e) ⟨d, .indexAddr T x y, ty, pos, af, gd⟩).run P w = .ok (.value V) w ∧ v.c φ = some V := by
  unfold iaA at h
  split at h
  · rename_i kk q
    have hI := c_v hi; subst hI
    split at h
    · rename_i E hT
      split at h
      · rename_i n b' gg z ht
        split at h
        · rename_i b oc oe len
          split at h
          · rename_i hq
            obtain ⟨h0, h1⟩ := inB_ok hq
            obtain ⟨X, cap, hX, rfl⟩ := c_sl ha
            injection h with h; subst h
            refine ⟨_, x_indexAddr_slice hT ht hx hy h0 h1, ?_⟩
            unfold AV.c; rw [hX]
            unfold Addr.add; split <;> simp_all
          · cases h
        · rename_i b oc len cp
          split at h
          · rename_i hq
            obtain ⟨h0, h1⟩ := inB_ok hq
            obtain ⟨X, cap, hX, rfl⟩ := c_slx ha
            injection h with h; subst h
            refine ⟨_, x_indexAddr_slice hT ht hx hy h0 h1, ?_⟩
            unfold AV.c; rw [hX]
            unfold Addr.add; split <;> simp_all
          · cases h
        · cases h
      · cases h
    · rename_i len E hT
      split at h
      · rename_i n b' gg z ht
        split at h
        · rename_i b off
          split at h
          · rename_i hq
            obtain ⟨h0, h1⟩ := inB_ok hq
            obtain ⟨X, cap, hX, rfl⟩ := c_ptr ha
            injection h with h; subst h
            refine ⟨_, x_indexAddr_arr hT ht hx hy h0 h1, ?_⟩
            unfold AV.c; rw [hX]; rfl
          · cases h
        · cases h
      · cases h
    · cases h
  · cases h
def lnA (P : Program) (T : Nat) (a : AV) : Option AV := match P.underlying T with
  | some (.slice _) => match a with
    | .sl _ _ _ len => some (.v (.int .i64 len))
    | .slx _ _ len _ => some (.v (.int .i64 len))
    | _ => none
  | _ => none
theorem lnA_ok {a v : AV} {A : Value} {T : Nat} {x : Operand} (ha : a.c φ = some A) (hx : ev e x = A) (h : lnA P T a = some v) {d : Option Tmp} {ty : TypeId} {pos : String} {af : Array Edge} {gd : Option (Nat × Bool)} :
    ∃ V, (execOp (ev e) ⟨d, .call ⟨.builtin .len, #[x], #[T]⟩, ty, pos, af, gd⟩).run P w = .ok (.value V) w ∧ v.c φ = some V := by
  unfold lnA at h
  split at h
  · rename_i E hT
    split at h
    · obtain ⟨X, cap, hX, rfl⟩ := c_sl ha
      injection h with h; subst h
      exact ⟨_, x_len_slice hT hx, by unfold AV.c; rfl⟩
    · obtain ⟨X, cap, hX, rfl⟩ := c_slx ha
      injection h with h; subst h
      exact ⟨_, x_len_slice hT hx, by unfold AV.c; rfl⟩
    · cases h
  · cases h
def nlA (P : Program) (op : BinOp) (T : Nat) (a b : AV) : Option AV :=
  match op, b, P.underlying T with
  | .eql, .v (.slice none 0 0), some (.slice _) => match a with
    | .sl _ _ _ _ => some (.v (.bool false))
    | .slx _ _ _ _ => some (.v (.bool false))
    | _ => none
  | .neq, .v (.slice none 0 0), some (.slice _) => match a with
    | .sl _ _ _ _ => some (.v (.bool true))
    | .slx _ _ _ _ => some (.v (.bool true))
    | _ => none
  | .eql, .v (.pointer none), some (.pointer _) => match a with
    | .ptr _ _ => some (.v (.bool false))
    | _ => none
  | .neq, .v (.pointer none), some (.pointer _) => match a with
    | .ptr _ _ => some (.v (.bool true))
    | _ => none
  | _, _, _ => none
theorem nlA_ok {a b v : AV} {A B : Value} {T t2 : Nat} {op : BinOp} {x y : Operand} (ha : a.c φ = some A) (hb : b.c φ = some B) (hx : ev e x = A) (hy : ev e y = B) (h : nlA P op T a b = some v) {d : Option Tmp} {ty : TypeId} {pos : String} {af : Array Edge} {gd : Option (Nat × Bool)} :
    ∃ V, (execOp (ev e) ⟨d, .binOp op T x y t2, ty, pos, af, gd⟩).run P w = .ok (.value V) w ∧ v.c φ = some V := by
  unfold nlA at h
  split at h
  · rename_i E hT
    have hB := c_v hb; subst hB
    split at h
    · obtain ⟨X, cap, hX, rfl⟩ := c_sl ha
      injection h with h; subst h
      exact ⟨_, x_eql_nil hT hx hy, by unfold AV.c; rfl⟩
    · obtain ⟨X, cap, hX, rfl⟩ := c_slx ha
      injection h with h; subst h
      exact ⟨_, x_eql_nil hT hx hy, by unfold AV.c; rfl⟩
    · cases h
  · rename_i E hT
    have hB := c_v hb; subst hB
    split at h
    · obtain ⟨X, cap, hX, rfl⟩ := c_sl ha
      injection h with h; subst h
      exact ⟨_, x_neq_nil hT hx hy, by unfold AV.c; rfl⟩
    · obtain ⟨X, cap, hX, rfl⟩ := c_slx ha
      injection h with h; subst h
      exact ⟨_, x_neq_nil hT hx hy, by unfold AV.c; rfl⟩
    · cases h
  · rename_i E hT
    have hB := c_v hb; subst hB
    split at h
    · obtain ⟨X, cap, hX, rfl⟩ := c_ptr ha
      injection h with h; subst h
      exact ⟨_, x_eql_ptr hT hx hy, by unfold AV.c; rfl⟩
    · cases h
  · rename_i E hT
    have hB := c_v hb; subst hB
    split at h
    · obtain ⟨X, cap, hX, rfl⟩ := c_ptr ha
      injection h with h; subst h
      exact ⟨_, x_neq_ptr hT hx hy, by unfold AV.c; rfl⟩
    · cases h
  · cases h
def ncA (a : AV) : Option AV := match a with
  | .ptr b o => some (.ptr b o)
  | .fn f l => some (.fn f l)
  | _ => none
theorem ncA_ok {a v : AV} {A : Value} {x : Operand} (ha : a.c φ = some A) (hx : ev e x = A) (h : ncA a = some v) {d : Option Tmp} {ty : TypeId} {pos : String} {af : Array Edge} {gd : Option (Nat × Bool)} :
    ∃ V, (execOp (ev e) ⟨d, .nilCheck x, ty, pos, af, gd⟩).run P w = .ok (.value V) w ∧ v.c φ = some V := by
  unfold ncA at h
  split at h
  · injection h with h; subst h
    have ha' := ha
    obtain ⟨X, cap, hX, rfl⟩ := c_ptr ha
    exact ⟨_, x_nilCheck hx, ha'⟩
  · injection h with h; subst h
    have ha' := ha
    obtain ⟨vs, hX, rfl⟩ := c_fn ha
    exact ⟨_, by simp only [execOp, hx]; rfl, ha'⟩
  · cases h
def bndA : Option AV → Option (Option Int)
  | none => some none
  | some (.v (.int _ q)) => some (some q)
  | _ => none
theorem bndA_ok {o : Option AV} {r : Option Int} {O : Option Value} (ho : ∀ a, o = some a → ∃ V, O = some V ∧ a.c φ = some V) (hn : o = none → O = none) (h : bndA o = some r) :
    (r = none ∧ O = none) ∨ ∃ k q, r = some q ∧ O = some (.int k q) := by
  unfold bndA at h
  split at h
  · injection h with h; subst h; exact .inl ⟨rfl, hn rfl⟩
  · rename_i k q
    injection h with h; subst h
    obtain ⟨V, h1, h2⟩ := ho _ rfl
    have := c_v h2; subst this
    exact .inr ⟨k, q, rfl, h1⟩
  · cases h
theorem run_cut {T E : Nat} {n b' : Nat} {gg : Bool} {z : Option Value} {A : Option Addr} {len cap l h : Nat} {lo hi : Option Value} (hT : P.underlying T = some (.slice E)) (ht : tyInfo P E = some (n, b', gg, z))
    (hl : (lo = none ∧ l = 0) ∨ ∃ k, lo = some (.int k (l : Int))) (hh : (hi = none ∧ h = len) ∨ ∃ k, hi = some (.int k (h : Int))) (h1 : l ≤ h) (h2 : h ≤ cap) :
    (Instr.sliceAt T (.slice A len cap) lo hi none).run P w = .ok (.slice (if cap = l then A else A.map (·.add (l * n))) (h - l) (cap - l)) w := by
  obtain ⟨ii, d2, hii, hd2, hsz, _, _, _⟩ := tyInfo_parts ht
  have i1 : (0 : Int) ≤ (l : Int) := by omega
  have i2 : (0 : Int) ≤ (h : Int) := by omega
  have i3 : (l : Int) ≤ (h : Int) := by omega
  have i4 : (h : Int) ≤ (cap : Int) := by omega
  have n1 : ¬ h < l := by omega
  have n2 : ¬ cap < h := by omega
  rcases hl with ⟨rfl, rfl⟩ | ⟨k, rfl⟩ <;> rcases hh with ⟨rfl, rfl⟩ | ⟨k', rfl⟩ <;>
    simp [Instr.sliceAt, run_underlying hT, Instr.slice, Instr.sliceBounds, Instr.sliceBound, asIntOf, i1, i2, i3, i4, n1, n2, h1, h2, rn_sizeOf hii, hsz, go_sem]
theorem run_cut3 {T E : Nat} {n b' : Nat} {gg : Bool} {z : Option Value} {A : Option Addr} {len cap l h m : Nat} {lo : Option Value} {k2 k3 : IntKind} (hT : P.underlying T = some (.slice E)) (ht : tyInfo P E = some (n, b', gg, z))
    (hl : (lo = none ∧ l = 0) ∨ ∃ k, lo = some (.int k (l : Int))) (h1 : l ≤ h) (h2 : h ≤ m) (h3 : m ≤ cap) :
    (Instr.sliceAt T (.slice A len cap) lo (some (.int k2 (h : Int))) (some (.int k3 (m : Int)))).run P w = .ok (.slice (if m = l then A else A.map (·.add (l * n))) (h - l) (m - l)) w := by
  obtain ⟨ii, d2, hii, hd2, hsz, _, _, _⟩ := tyInfo_parts ht
  have i1 : (0 : Int) ≤ (l : Int) := by omega
  have i2 : (0 : Int) ≤ (h : Int) := by omega
  have i3 : (l : Int) ≤ (h : Int) := by omega
  have i4 : (h : Int) ≤ (m : Int) := by omega
  have i5 : (m : Int) ≤ (cap : Int) := by omega
  have i6 : (0 : Int) ≤ (m : Int) := by omega
  have n1 : ¬ h < l := by omega
  have n2 : ¬ m < h := by omega
  have n3 : ¬ cap < m := by omega
  rcases hl with ⟨rfl, rfl⟩ | ⟨k, rfl⟩ <;>
    simp [Instr.sliceAt, run_underlying hT, Instr.slice, Instr.sliceBounds, Instr.sliceBound, asIntOf, i1, i2, i3, i4, i5, i6, n1, n2, n3, h1, h2, h3, rn_sizeOf hii, hsz, go_sem]
end
end Gw
namespace Gw
open Go Go.RowKit
set_option linter.unusedSimpArgs false
set_option linter.unusedVariables false
section
variable {P : Program} {base : Nat} {w0 : World} {φ : Ph} {ρ : En} {e : Env} {S : Nat → Prop} {w : World}
def oN (o : Option Int) (d : Nat) : Option Nat := match o with
  | none => some d
  | some (.ofNat q) => some q
  | some (.negSucc _) => none
theorem oN_ok {o : Option Int} {d l : Nat} (h : oN o d = some l) : (o = none ∧ l = d) ∨ o = some (l : Int) := by
  unfold oN at h; split at h
  · injection h with h; exact .inl ⟨rfl, h.symm⟩
  · injection h with h; subst h; exact .inr rfl
  · cases h
def cutA (P : Program) (H : Tr BO) (T : Nat) (a : AV) (lo hi mx : Option Int) : Option AV :=
  match P.underlying T with
  | some (.slice E) => match tyInfo P E with
    | some (n, _, _, _) => match a with
      | .sl b oc oe len => match oN lo 0, oN hi len, mx with
        | some l, some h, none =>
          if Nat.ble l h && Nat.ble h len then
            if Nat.beq l 0 then some (.sl b oc oe h) else match H.get b with
              | some (.cells _ m cs) => if Nat.beq m n && Nat.blt ((oe + l) * n) cs.length then some (.sl b (oc + l * n) (oe + l) (h - l)) else none
              | none => none
          else none
        | some l, some h, some (.ofNat m) =>
          if Nat.ble l h && (Nat.ble h m && (Nat.ble m len && hi.isSome)) then some (.slx b (cond (Nat.beq m l) oc (oc + l * n)) (h - l) (m - l)) else none
        | _, _, _ => none
      | .slx b oc len cap => match oN lo 0, oN hi len, mx with
        | some l, some h, none => if Nat.ble l h && Nat.ble h cap then some (.slx b (cond (Nat.beq cap l) oc (oc + l * n)) (h - l) (cap - l)) else none
        | _, _, _ => none
      | _ => none
    | none => none
  | _ => none
theorem add_at (x oc n : Nat) : (⟨x, oc, none⟩ : Addr).add n = ⟨x, oc + n, none⟩ := by unfold Addr.add; split <;> simp_all
theorem Rel.sl_cap {H : HF} (R : Rel base w0 φ H w) {b x cap T m : Nat} {cs : List AV} (hb : H b = some (.cells T m cs)) (hx : φ b = some (x, cap)) : cs.length ≤ cap * m ∧ cap ≤ maxLen := by
  obtain ⟨y, cp, h1, hc, arr, vs, h2, h3, h4, h5, h6⟩ := R.obj b _ hb
  rw [hx] at h1; injection h1 with h1; injection h1 with h1 h1c; subst h1; subst h1c
  have := AV.cl_len h4
  exact ⟨by omega, hc⟩
theorem cutA_ok {H : Tr BO} (R : Rel base w0 φ H.get w) {T : Nat} {a v : AV} {A : Value} {lo hi mx : Option Int} {LO HI MX : Option Value} (ha : a.c φ = some A) (hcap : ∀ b oc oe len x cap, a = .sl b oc oe len → φ b = some (x, cap) → len + oe ≤ cap)
    (hlo : (lo = none ∧ LO = none) ∨ ∃ k q, lo = some q ∧ LO = some (.int k q)) (hhi : (hi = none ∧ HI = none) ∨ ∃ k q, hi = some q ∧ HI = some (.int k q)) (hmx : (mx = none ∧ MX = none) ∨ ∃ k q, mx = some q ∧ MX = some (.int k q))
    (h : cutA P H T a lo hi mx = some v) : ∃ V, (Instr.sliceAt T A LO HI MX).run P w = .ok V w ∧ v.c φ = some V := by
  have hL : ∀ {l : Nat}, oN lo 0 = some l → (LO = none ∧ l = 0) ∨ ∃ k, LO = some (.int k (l : Int)) := fun {l} hl => by
    rcases oN_ok hl with ⟨h1, h2⟩ | h1
    · rcases hlo with ⟨_, h3⟩ | ⟨k, q, h3, h4⟩
      · exact .inl ⟨h3, h2⟩
      · rw [h1] at h3; cases h3
    · rcases hlo with ⟨h3, _⟩ | ⟨k, q, h3, h4⟩
      · rw [h1] at h3; cases h3
      · rw [h1] at h3; injection h3 with h3; subst h3; exact .inr ⟨k, h4⟩
  have hH : ∀ {l d : Nat}, oN hi d = some l → (HI = none ∧ l = d) ∨ ∃ k, HI = some (.int k (l : Int)) := fun {l d} hl => by
    rcases oN_ok hl with ⟨h1, h2⟩ | h1
    · rcases hhi with ⟨_, h3⟩ | ⟨k, q, h3, h4⟩
      · exact .inl ⟨h3, h2⟩
      · rw [h1] at h3; cases h3
    · rcases hhi with ⟨h3, _⟩ | ⟨k, q, h3, h4⟩
      · rw [h1] at h3; cases h3
      · rw [h1] at h3; injection h3 with h3; subst h3; exact .inr ⟨k, h4⟩
  unfold cutA at h
  split at h
  · rename_i E hT
    split at h
    · rename_i n b' gg z ht
      split at h
      · rename_i b oc oe len
        obtain ⟨X, cap, hX, rfl⟩ := c_sl ha
        have hcp := hcap b oc oe len X cap rfl hX
        split at h
        · rename_i l hh hl hhh
          rcases hmx with ⟨_, rfl⟩ | ⟨k, q, h3, _⟩
          case inr => cases h3
          split at h
          · rename_i hc
            rw [Bool.and_eq_true] at hc
            have h1 := Nat.le_of_ble_eq_true hc.1
            have h2 := Nat.le_of_ble_eq_true hc.2
            have hr := run_cut (w := w) (A := some ⟨X, oc, none⟩) (cap := cap - oe) hT ht (hL hl) (hH hhh) h1 (by omega)
            split at h
            · rename_i h0
              have h0' := Nat.eq_of_beq_eq_true h0
              injection h with h; subst h
              refine ⟨_, hr, ?_⟩
              subst h0'
              unfold AV.c; rw [hX]
              simp [add_at]
            · split at h
              · rename_i TT m cs hg
                split at h
                · rename_i hc2
                  rw [Bool.and_eq_true] at hc2
                  have e1 := Nat.eq_of_beq_eq_true hc2.1
                  have e2 : (oe + l) * n < cs.length := by simpa [Nat.blt_eq] using hc2.2
                  injection h with h; subst h
                  refine ⟨_, hr, ?_⟩
                  obtain ⟨h5, _⟩ := R.sl_cap hg hX
                  have hne : ¬ cap - oe = l := fun e => by
                    have : (oe + l) * n < cap * n := Nat.lt_of_lt_of_le e2 (by rw [← e1]; exact h5)
                    have := Nat.lt_of_mul_lt_mul_right this
                    omega
                  unfold AV.c; rw [hX, if_neg hne]
                  simp only [Option.map_some, add_at]
                  rw [show cap - oe - l = cap - (oe + l) by omega]
                · cases h
              · cases h
          · cases h
        · rename_i l hh m hl hhh
          split at h
          · rename_i hc
            simp only [Bool.and_eq_true] at hc
            have h1 := Nat.le_of_ble_eq_true hc.1
            have h2 := Nat.le_of_ble_eq_true hc.2.1
            have h3 := Nat.le_of_ble_eq_true hc.2.2.1
            rcases hmx with ⟨h4, _⟩ | ⟨k3, q, h4, rfl⟩
            · cases h4
            injection h4 with h4; subst h4
            rcases hH hhh with ⟨e1, e2⟩ | ⟨k2, rfl⟩
            · rcases hhi with ⟨e3, _⟩ | ⟨_, _, e3, e4⟩
              · rw [e3] at hc; simp at hc
              · rw [e1] at e4; cases e4
            have hr := run_cut3 (w := w) (A := some ⟨X, oc, none⟩) (len := len) (cap := cap - oe) (k2 := k2) (k3 := k3) hT ht (hL hl) h1 h2 (by omega)
            injection h with h; subst h
            refine ⟨_, hr, ?_⟩
            unfold AV.c; rw [hX]
            cases hb : Nat.beq m l with
            | true => have := Nat.eq_of_beq_eq_true hb; subst this; simp
            | false =>
              have hne : ¬ m = l := fun e => by subst e; simp at hb
              simp [hne, add_at]
          · cases h
        · cases h
      · rename_i b oc len cp
        obtain ⟨X, cap, hX, rfl⟩ := c_slx ha
        split at h
        · rename_i l hh hl hhh
          rcases hmx with ⟨_, rfl⟩ | ⟨k, q, h3, _⟩
          case inr => cases h3
          split at h
          · rename_i hc
            rw [Bool.and_eq_true] at hc
            have h1 := Nat.le_of_ble_eq_true hc.1
            have h2 := Nat.le_of_ble_eq_true hc.2
            have hr := run_cut (w := w) (A := some ⟨X, oc, none⟩) (cap := cp) hT ht (hL hl) (hH hhh) h1 h2
            injection h with h; subst h
            refine ⟨_, hr, ?_⟩
            unfold AV.c; rw [hX]
            cases hb : Nat.beq cp l with
            | true => have := Nat.eq_of_beq_eq_true hb; subst this; simp
            | false =>
              have hne : ¬ cp = l := fun e => by subst e; simp at hb
              simp [hne, add_at]
          · cases h
        · cases h
      · cases h
    · cases h
  · cases h
end
end Gw
namespace Gw
open Go Go.RowKit
set_option linter.unusedSimpArgs false
set_option linter.unusedVariables false
section
variable {P : Program} {base : Nat} {w0 : World} {φ : Ph} {ρ : En} {e : Env} {S : Nat → Prop} {w : World}
def liveB (H : Tr BO) (a : AV) : Bool := match a with
  | .sl b _ oe len => match H.get b with
    | some (.cells _ m cs) => Nat.blt 0 m && Nat.ble ((oe + len) * m) cs.length
    | none => false
  | _ => true
theorem liveB_ok {H : Tr BO} (R : Rel base w0 φ H.get w) {a : AV} (h : liveB H a = true) : ∀ b oc oe len x cap, a = .sl b oc oe len → φ b = some (x, cap) → len + oe ≤ cap := by
  intro b oc oe len x cap ha hx
  subst ha
  unfold liveB at h
  simp only at h
  split at h
  · rename_i T m cs hg
    rw [Bool.and_eq_true] at h
    have h1 : 0 < m := by simpa [Nat.blt_eq] using h.1
    have h2 := Nat.le_of_ble_eq_true h.2
    obtain ⟨h3, _⟩ := R.sl_cap hg hx
    have := Nat.le_of_mul_le_mul_right (Nat.le_trans h2 h3) h1
    omega
  · cases h
def fillA (place : Nat → Option (Nat × Nat)) : List (Nat × AV) → List AV → Option (List AV)
  | [], cells => some cells
  | (i, v) :: r, cells => match place i with
    | none => none
    | some (off, size) => if Nat.beq v.cells.length size && (Nat.ble (off + size) cells.length && noAgg v) then fillA place r (putL cells off v.cells) else none
def PV (φ : Ph) : List (Nat × AV) → List (Nat × Value) → Prop
  | [], ps => ps = []
  | (i, a) :: r, ps => ∃ V rs, ps = (i, V) :: rs ∧ a.c φ = some V ∧ PV φ r rs
theorem fillA_ok {place : Nat → Option (Nat × Nat)} : ∀ {ps : List (Nat × AV)} {cells out : List AV} {cs : List Value} {pv : List (Nat × Value)}, fillA place ps cells = some out → AV.cl φ cells = some cs → PV φ ps pv →
    ∃ os, AV.cl φ out = some os ∧ Instr.fill place cs.toArray pv = some os.toArray
  | [], cells, out, cs, pv, h, hc, hp => by
    unfold fillA at h; injection h with h; subst h
    unfold PV at hp; subst hp
    exact ⟨cs, hc, rfl⟩
  | (i, v) :: r, cells, out, cs, pv, h, hc, hp => by
    unfold fillA at h
    obtain ⟨V, rs, rfl, hV, hr⟩ := hp
    split at h
    · cases h
    · rename_i off size hpl
      split at h
      · rename_i hcond
        simp only [Bool.and_eq_true] at hcond
        have h1 := Nat.eq_of_beq_eq_true hcond.1
        have h2 := Nat.le_of_ble_eq_true hcond.2.1
        obtain ⟨xs, e1, e2⟩ := AV.cells_c (noAgg_ne hcond.2.2) hV
        have hl1 := AV.cl_len e1
        have hl2 := AV.cl_len hc
        have hput : AV.cl φ (putL cells off v.cells) = some (lput cs off xs) := by
          rw [lput_eq xs cs off (by omega)]
          unfold putL
          rw [List.append_assoc, hl1]
          exact AV.cl_app (AV.cl_take off hc) (AV.cl_app e1 (AV.cl_drop _ hc))
        obtain ⟨os, e3, e4⟩ := fillA_ok h hput hr
        exact ⟨os, e3, fill_any hpl e2 (by omega) (by simp [Nat.ble_eq]; omega) (by simpa using e4)⟩
      · cases h
def evalPs (ρ : En) : List (Nat × Operand) → Option (List (Nat × AV))
  | [] => some []
  | (i, x) :: l => match evalA ρ x, evalPs ρ l with
    | some a, some r => some ((i, a) :: r)
    | _, _ => none
theorem evalPs_ok (hρ : ERel φ ρ.get e S) : ∀ {l : List (Nat × Operand)} {r : List (Nat × AV)}, (∀ p ∈ l, opS S p.2) → evalPs ρ l = some r → PV φ r (l.map fun p => (p.1, ev e p.2))
  | [], r, _, h => by unfold evalPs at h; injection h with h; subst h; unfold PV; rfl
  | (i, x) :: l, r, hS, h => by
    unfold evalPs at h
    split at h
    · rename_i a r' h1 h2
      injection h with h; subst h
      exact ⟨_, _, rfl, evalA_ok hρ (hS (i, x) (by simp)) h1, evalPs_ok hρ (fun p hp => hS p (by simp [hp])) h2⟩
    · cases h
def buA (P : Program) (T : Nat) (ps : List (Nat × AV)) : Option AV :=
  match tyInfo P T with
  | some (n, _, _, some zv) => match P.underlying T with
    | some (.struct _) => match placesInfo P T with
      | some pl => (fillA (fun i => pl[i]?) ps (zv.cells.toList.map .v)).map .agg
      | none => none
    | some (.array k E) => match tyInfo P E with
      | some (m, _, _, _) => if Nat.beq n (k * m) then (fillA (fun i => some (i * m, m)) ps (zv.cells.toList.map .v)).map .agg else none
      | none => none
    | _ => none
  | _ => none
theorem buA_ok {T : Nat} {ps : List (Nat × AV)} {pv : List (Nat × Value)} {v : AV} (hp : PV φ ps pv) (h : buA P T ps = some v) : ∃ V, (Instr.build T pv.toArray).run P w = .ok V w ∧ v.c φ = some V := by
  unfold buA at h
  split at h
  · rename_i n b' gg zv ht
    split at h
    · rename_i fs hT
      split at h
      · rename_i pl hpl
        simp only [Option.map_eq_some_iff] at h
        obtain ⟨out, h1, rfl⟩ := h
        obtain ⟨os, e1, e2⟩ := fillA_ok h1 (AV.cl_v φ zv.cells.toList) hp
        have hpe : (fun i : Nat => (pl[i]? : Option (Nat × Nat))) = fun i : Nat => pl.toArray[i]? := by funext i; simp
        rw [hpe] at e2
        refine ⟨_, run_build_struct hpl ht rfl (by simpa using e2), ?_⟩
        unfold AV.c; rw [e1]; rfl
      · cases h
    · rename_i k E hT
      split at h
      · rename_i m b2 g2 z2 hE
        split at h
        · rename_i hn
          have hn' := Nat.eq_of_beq_eq_true hn
          subst hn'
          simp only [Option.map_eq_some_iff] at h
          obtain ⟨out, h1, rfl⟩ := h
          obtain ⟨os, e1, e2⟩ := fillA_ok h1 (AV.cl_v φ zv.cells.toList) hp
          refine ⟨_, run_build_array hT hE ht (by simpa using e2), ?_⟩
          unfold AV.c; rw [e1]; rfl
        · cases h
      · cases h
    · cases h
  · cases h
def zerosL (z : List Value) : Nat → List AV
  | 0 => []
  | n + 1 => z.map .v ++ zerosL z n
theorem made_succ (z : List Value) (n : Nat) (h : 0 < z.length) : (madeCells z.toArray ((n + 1) * z.length)).toList = z ++ (madeCells z.toArray (n * z.length)).toList := by
  apply List.ext_getElem?
  intro i
  by_cases hi : i < (n + 1) * z.length
  · simp only [madeCells, Array.toList_map, Array.toList_range, List.getElem?_map, List.getElem?_range hi, Option.map_some, List.size_toArray]
    by_cases h1 : i < z.length
    · rw [List.getElem?_append_left h1, Nat.mod_eq_of_lt h1]
      simp [h1]
    · rw [List.getElem?_append_right (by omega), List.getElem?_map, List.getElem?_range (by rw [Nat.succ_mul] at hi; omega)]
      simp only [Option.map_some]
      rw [show i % z.length = (i - z.length) % z.length by rw [← Nat.mod_eq_sub_mod (by omega)]]
  · rw [List.getElem?_eq_none (by simp [madeCells]; omega), List.getElem?_eq_none (by simp [madeCells]; rw [Nat.succ_mul] at hi; omega)]
theorem zerosL_c (z : List Value) (h : 0 < z.length) : ∀ (n : Nat), AV.cl φ (zerosL z n) = some (madeCells z.toArray (n * z.length)).toList
  | 0 => by unfold zerosL AV.cl; simp [madeCells]
  | n + 1 => by
    unfold zerosL
    rw [made_succ z n h]
    exact AV.cl_app (AV.cl_v φ z) (zerosL_c z h n)
def bsA (P : Program) (H : Tr BO) (c T len : Nat) (ps : List (Nat × AV)) : Option (AV × Tr BO) :=
  match P.underlying T with
  | some (.slice E) => match tyInfo P E with
    | some (m, _, _, some zv) =>
      if Nat.beq zv.cells.toList.length m && (Nat.blt 0 m && (Nat.ble (len * m) 100000 && smallK c)) then match fillA (fun i => some (i * m, m)) ps (zerosL zv.cells.toList len) with
        | some out => if out.all AV.one && Nat.beq out.length (len * m) then some (.sl c 0 0 len, H.put c (some (.cells E m out))) else none
        | none => none
      else none
    | _ => none
  | _ => none
theorem bsA_ok {H H' : Tr BO} {c T len : Nat} {ps : List (Nat × AV)} {pv : List (Nat × Value)} {v : AV} (R : Rel base w0 φ H.get w) (hf : Fre φ c (c + 1)) (hp : PV φ ps pv) (h : bsA P H c T len ps = some (v, H')) :
    ∃ V φ' w', (Instr.buildSlice T len pv.toArray).run P w = .ok V w' ∧ Tran base w0 φ H.get c w φ' H'.get (c + 1) w' ∧ v.c φ' = some V := by
  unfold bsA at h
  split at h
  · rename_i E hT
    split at h
    · rename_i m b' gg zv ht
      split at h
      · rename_i hc
        simp only [Bool.and_eq_true] at hc
        have h1 := Nat.eq_of_beq_eq_true hc.1
        have h2 : 0 < m := by simpa [Nat.blt_eq] using hc.2.1
        have h3 := Nat.le_of_ble_eq_true hc.2.2.1
        split at h
        · rename_i out hout
          split at h
          · rename_i hc2
            rw [Bool.and_eq_true] at hc2
            have h5 := Nat.eq_of_beq_eq_true hc2.2
            injection h with h; injection h with h h'; subst h; subst h'
            obtain ⟨os, e1, e2⟩ := fillA_ok hout (zerosL_c zv.cells.toList (by omega) len) hp
            have hol := AV.cl_len e1
            have hz : (if len * m = 0 then (#[] : Array Value) else zv.cells) = (if len * m = 0 then #[] else zv.cells) := rfl
            have hr := run_build_slice (w := w) (len := len) (pv := pv) (cs := os) hT ht h3 rfl (by
              rw [← e2]
              congr 1
              simp only [madeCells, h1]
              by_cases h0 : len * m = 0
              · rw [h0]; simp
              · rw [if_neg h0])
            have htr := tran_alloc (T := E) (m := m) (cap := len) (arr := os) R hf e1 (by omega) (List.take_of_length_le (Nat.le_refl _)) (Nat.le_refl _) (by simp only [maxLen]; have : len ≤ len * m := Nat.le_mul_of_pos_right _ h2; omega)
            refine ⟨_, _, _, hr, by rw [get_put_fun hc.2.2.2]; exact htr.1, ?_⟩
            unfold AV.c; rw [htr.2]; rfl
          · cases h
        · cases h
      · cases h
    · cases h
  · cases h
def mkA (P : Program) (H : Tr BO) (c T : Nat) (a b : AV) : Option (AV × Tr BO) :=
  match P.underlying T, a, b with
  | some (.slice E), .v (.int _ (.ofNat l)), .v (.int _ (.ofNat k)) => match tyInfo P E with
    | some (m, by', _, some zv) =>
      if Nat.beq zv.cells.toList.length m && (Nat.blt 0 m && (Nat.ble l k && (Nat.ble (by' * k) 281474976710656 && (Nat.ble k 9223372036854775807 && (smallK c && zv.cells.toList.all Value.oneCell'))))) then some (.sl c 0 0 l, H.put c (some (.cells E m (zerosL zv.cells.toList l)))) else none
    | _ => none
  | _, _, _ => none
theorem mkA_ok {H H' : Tr BO} {c T : Nat} {a b v : AV} {A B : Value} (R : Rel base w0 φ H.get w) (hf : Fre φ c (c + 1)) (ha : a.c φ = some A) (hb : b.c φ = some B) (h : mkA P H c T a b = some (v, H')) :
    ∃ V φ' w', (Instr.makeSlice T A B).run P w = .ok V w' ∧ Tran base w0 φ H.get c w φ' H'.get (c + 1) w' ∧ v.c φ' = some V := by
  unfold mkA at h
  split at h
  · rename_i E k1 l k2 k hT
    have := c_v ha; subst this
    have := c_v hb; subst this
    split at h
    · rename_i m by' gg zv ht
      split at h
      · rename_i hc
        simp only [Bool.and_eq_true] at hc
        have h1 := Nat.eq_of_beq_eq_true hc.1
        have h2 : 0 < m := by simpa [Nat.blt_eq] using hc.2.1
        have h3 := Nat.le_of_ble_eq_true hc.2.2.1
        have h4 := Nat.le_of_ble_eq_true hc.2.2.2.1
        have h5 := Nat.le_of_ble_eq_true hc.2.2.2.2.1
        injection h with h; injection h with h h'; subst h; subst h'
        obtain ⟨ii, dd, hi, _, hs, hby, _, hzz⟩ := tyInfo_parts ht
        have hr := run_make (P := P) w T E ii zv hT hi hzz k1 k2 (l : Int) (k : Int) (by omega) (by omega) (by rw [hby]; exact Int.ofNat_le.2 h4) (by omega)
        simp only [Int.toNat_natCast, hs] at hr
        have hzc := zerosL_c (φ := φ) zv.cells.toList (by omega) l
        have htr := tran_alloc (T := E) (m := m) (cap := k) (arr := (madeCells zv.cells (k * m)).toList) R hf hzc (by rw [Array.length_toList, size_madeCells]) (by
            apply List.ext_getElem?
            intro i
            rw [List.getElem?_take]
            have hs1 : zv.cells.size = m := by rw [← h1]; simp
            simp only [Array.length_toList, size_madeCells, hs1, Array.toArray_toList]
            split
            · rename_i hi2
              have hi3 : i < k * m := Nat.lt_of_lt_of_le hi2 (Nat.mul_le_mul_right _ h3)
              simp only [madeCells, Array.toList_map, Array.toList_range, List.getElem?_map, List.getElem?_range hi2, List.getElem?_range hi3]
            · rw [List.getElem?_eq_none (by simp [madeCells]; omega)]) (by
            have hs1 : zv.cells.size = m := by rw [← h1]; simp
            simp only [Array.length_toList, size_madeCells, hs1]; exact Nat.mul_le_mul_right _ h3) (by simp only [maxLen]; omega)
        refine ⟨_, _, _, hr, by rw [get_put_fun hc.2.2.2.2.2.1]; exact htr.1, ?_⟩
        unfold AV.c; rw [htr.2]; rfl
      · cases h
    · cases h
  · cases h
end
end Gw
namespace Gw
open Go Go.RowKit
set_option linter.unusedSimpArgs false
set_option linter.unusedVariables false
section
variable {P : Program} {base : Nat} {w0 : World} {φ : Ph} {ρ : En} {e : Env} {S : Nat → Prop} {w : World}
theorem run_append_zero {B : Nat} {t ty E : TypeId} {ii : TypeInfo} {sz n : Nat} {v : Value} {cs : List Value} (ht : P.underlying t = some (.slice E)) (hi : P.info? E = some ii) (hown : w.ownsRow B E sz v n cs) (A : Option Addr) (c : Nat) : (Builtin.append_ #[t, t] ty #[v, .slice A 0 c]).run P w = .ok v w := by
  cases A with
  | none => exact run_append_nothing ht hi hown c
  | some a =>
    rcases hown.2 with ⟨rfl, rfl⟩ | ⟨g, cap, cur, rfl, _, _, hnc, _⟩
    · simp [Builtin.append_, run_underlying ht, Go.sizeOf, typeInfo, hi, Builtin.lenOf, Builtin.firstCells, loadCells, loadCellsFrom, go_sem]
    · simp [Builtin.append_, run_underlying ht, Go.sizeOf, typeInfo, hi, Builtin.lenOf, Builtin.firstCells, hnc, storeCells, loadCells, loadCellsFrom, go_sem]
def rowA (H : Tr BO) (E m : Nat) (a : AV) : Option (Option Nat × Nat × List AV) := match a with
  | .v (.slice none 0 0) => some (none, 0, [])
  | .sl b 0 0 len => match H.get b with
    | some (.cells E' m' l) => if Nat.beq E' E && (Nat.beq m' m && (Nat.ble (len * m) l.length && smallK b)) then some (some b, len, l.take (len * m)) else none
    | none => none
  | _ => none
theorem rowA_ok {H : Tr BO} (R : Rel base w0 φ H.get w) {E m : Nat} (hm : 0 < m) {a : AV} {A : Value} {r : Option Nat × Nat × List AV} (ha : a.c φ = some A) (h : rowA H E m a = some r) :
    ∃ vs, AV.cl φ r.2.2 = some vs ∧ w.ownsRow 0 E m A r.2.1 vs ∧ ((r.1 = none ∧ A = .slice none 0 0 ∧ r.2.1 = 0) ∨ ∃ b x cap, r.1 = some b ∧ H.get b ≠ none ∧ φ b = some (x, cap) ∧ A = .slice (some ⟨x, 0, none⟩) r.2.1 cap ∧ smallK b = true) := by
  unfold rowA at h
  split at h
  · injection h with h; subst h
    have := c_v ha; subst this
    exact ⟨[], by unfold AV.cl; rfl, World.ownsRow_nil _ _ _ _, .inl ⟨rfl, rfl, rfl⟩⟩
  · rename_i b len
    split at h
    · rename_i E' m' l hg
      split at h
      · rename_i hc
        simp only [Bool.and_eq_true] at hc
        have h1 := Nat.eq_of_beq_eq_true hc.1; have h2 := Nat.eq_of_beq_eq_true hc.2.1; have h3 := Nat.le_of_ble_eq_true hc.2.2.1
        injection h with h; subst h
        subst h1; subst h2
        obtain ⟨x, cap, hx, hcp, arr, vs, e1, e2, e3, e4, e5⟩ := R.obj b _ hg
        obtain ⟨x', cap', hx', rfl⟩ := c_sl ha
        rw [hx] at hx'; injection hx' with hx'; injection hx' with hxa hxb; subst hxa; subst hxb
        have hvl := AV.cl_len e3
        refine ⟨vs.take (len * m'), AV.cl_take _ e3, ⟨by show (vs.take (len * m')).length = len * m'; rw [List.length_take, Nat.min_eq_left (by omega)], ?_⟩, .inr ⟨b, x, cap, rfl, by rw [hg]; simp, hx, rfl, hc.2.2.2⟩⟩
        have : len ≤ cap := Nat.le_of_mul_le_mul_right (show len * m' ≤ cap * m' by omega) hm
        exact .inr ⟨x, cap, arr, rfl, Nat.zero_le _, e1, this, hcp, e2, by rw [← e5, List.take_take, Nat.min_eq_left (by omega)]⟩
      · cases h
    · cases h
  · cases h
def elsA (H : Tr BO) (m : Nat) (a : AV) : Option (Nat × List AV) := match a with
  | .v (.slice none 0 _) => some (0, [])
  | .sl b oc _ len => match H.get b with
    | some (.cells _ _ l) => if Nat.beq ((l.drop oc).take (len * m)).length (len * m) then some (len, (l.drop oc).take (len * m)) else none
    | none => none
  | .slx b oc len _ => match H.get b with
    | some (.cells _ _ l) => if Nat.beq ((l.drop oc).take (len * m)).length (len * m) then some (len, (l.drop oc).take (len * m)) else none
    | none => none
  | _ => none
theorem elsA_ok {H : Tr BO} (R : Rel base w0 φ H.get w) {m : Nat} {a : AV} {A : Value} {r : Nat × List AV} (ha : a.c φ = some A) (h : elsA H m a = some r) :
    ∃ ys Ad c, AV.cl φ r.2 = some ys ∧ A = .slice Ad r.1 c ∧ ys.length = r.1 * m ∧ ((Ad = none ∧ r.1 = 0) ∨ ∃ ad, Ad = some ad ∧ CF ad ys w) := by
  unfold elsA at h
  split at h
  · injection h with h; subst h
    have := c_v ha; subst this
    exact ⟨[], none, _, by unfold AV.cl; rfl, rfl, by simp, .inl ⟨rfl, rfl⟩⟩
  · rename_i b oc oe len
    split at h
    · rename_i E' m' l hg
      split at h
      · rename_i hc
        have h1 := Nat.eq_of_beq_eq_true hc
        injection h with h; subst h
        obtain ⟨x, cap, hx, rfl⟩ := c_sl ha
        obtain ⟨vs, hv, _⟩ := R.cell hg hx
        have hs := AV.cl_take (len * m) (AV.cl_drop oc hv)
        exact ⟨_, _, _, hs, rfl, by rw [AV.cl_len hs, h1], .inr ⟨_, rfl, R.seg hg hx hs⟩⟩
      · cases h
    · cases h
  · rename_i b oc len cp
    split at h
    · rename_i E' m' l hg
      split at h
      · rename_i hc
        have h1 := Nat.eq_of_beq_eq_true hc
        injection h with h; subst h
        obtain ⟨x, cap, hx, rfl⟩ := c_slx ha
        obtain ⟨vs, hv, _⟩ := R.cell hg hx
        have hs := AV.cl_take (len * m) (AV.cl_drop oc hv)
        exact ⟨_, _, _, hs, rfl, by rw [AV.cl_len hs, h1], .inr ⟨_, rfl, R.seg hg hx hs⟩⟩
      · cases h
    · cases h
  · cases h
def goneO (H : Tr BO) : Option Nat → Tr BO
  | none => H
  | some b => H.put b none
def apA (P : Program) (H : Tr BO) (c T : Nat) (a b : AV) : Option (AV × Tr BO × Nat) :=
  match P.underlying T with
  | some (.slice E) => match tyInfo P E with
    | some (m, by', _, some zv) =>
      if Nat.beq zv.cells.size m && (Nat.blt 0 m && smallK c) then match rowA H E m a, elsA H m b with
        | some r, some s =>
          if Nat.beq s.1 0 then some (a, H, c)
          else if s.2.all AV.one && (Nat.ble ((r.2.1 + s.1) * by') 140737488355328 && Nat.ble (r.2.1 + s.1) 9223372036854775807) then some (.sl c 0 0 (r.2.1 + s.1), (goneO H r.1).put c (some (.cells E m (r.2.2 ++ s.2))), c + 1) else none
        | _, _ => none
      else none
    | _ => none
  | _ => none
theorem apA_ok {H H' : Tr BO} {c c' T : Nat} {a b v : AV} {A B : Value} {ty : TypeId} (R : Rel base w0 φ H.get w) (ha : a.c φ = some A) (hb : b.c φ = some B) (h : apA P H c T a b = some (v, H', c')) (hf : Fre φ c c') :
    ∃ V φ' w', (Builtin.append_ #[T, T] ty #[A, B]).run P w = .ok V w' ∧ Tran base w0 φ H.get c w φ' H'.get c' w' ∧ v.c φ' = some V := by
  unfold apA at h
  split at h
  · rename_i E hT
    split at h
    · rename_i m by' gg zv ht
      obtain ⟨ii, dd, hi, _, hs, hby, _, hzz⟩ := tyInfo_parts ht
      split at h
      · rename_i hc
        simp only [Bool.and_eq_true] at hc
        have hz := Nat.eq_of_beq_eq_true hc.1
        have hm : 0 < m := by simpa [Nat.blt_eq] using hc.2.1
        split at h
        · rename_i r s hr hse
          obtain ⟨xs, hxs, hown, hrow⟩ := rowA_ok R hm ha hr
          obtain ⟨ys, Ad, cp, hys, rfl, hyl, hAd⟩ := elsA_ok R hb hse
          split at h
          · rename_i h0
            have h0' := Nat.eq_of_beq_eq_true h0
            injection h with h; injection h with h h2; injection h2 with h2 h3; subst h; subst h2; subst h3
            rw [h0']
            exact ⟨A, φ, w, run_append_zero hT hi hown Ad cp, Tran.refl R _, ha⟩
          · rename_i h0
            have h0' : ¬ s.1 = 0 := fun e => h0 (by rw [e]; rfl)
            split at h
            · rename_i hc2
              simp only [Bool.and_eq_true] at hc2
              have hb1 := Nat.le_of_ble_eq_true hc2.2.1
              have hb2 := Nat.le_of_ble_eq_true hc2.2.2
              injection h with h; injection h with h h2; injection h2 with h2 h3; subst h; subst h2; subst h3
              rcases hAd with ⟨_, e⟩ | ⟨ad, rfl, hcf⟩
              · exact absurd e h0'
              obtain ⟨v', w', hrun, hown', hg, hnil, hblk⟩ := run_append_own_at (P := P) w 0 T ty E ii zv m by' hT hi hzz hs hby hz hm A r.2.1 xs hown ad s.1 cp ys hyl hcf (AV.one_l hc2.1 hys) (by simp only [maxLen]; omega) hb1 (Nat.zero_le _)
              rcases hown'.2 with ⟨hv', e0⟩ | ⟨G, cap', cur, hv', _, hheap, hle, hcm, hsz, htk⟩
              · omega
              have hGlt : G < w'.heap.size := (Array.getElem?_eq_some_iff.1 hheap).1
              have hcc : smallK c = true := hc.2.2
              have hfc := hf c (Nat.le_refl _) (by omega)
              have hgc : H.get c = none := by
                cases hgc : H.get c with
                | none => rfl
                | some o => obtain ⟨x, y, h1, _⟩ := R.obj c o hgc; rw [hfc] at h1; cases h1
              -- the names that stay
              have hget : ((goneO H r.1).put c (some (.cells E m (r.2.2 ++ s.2)))).get = fun q => if q = c then some (.cells E m (r.2.2 ++ s.2)) else if r.1 = some q then none else H.get q := by
                funext q
                rw [Tr.get_put _ q hcc]
                split
                · rfl
                · rcases hrow with ⟨e1, _⟩ | ⟨b0, x, cp0, e1, _, _, _, e2⟩
                  · rw [e1]; simp [goneO]
                  · rw [e1]; simp only [goneO, Option.some.injEq]
                    rw [Tr.get_put none q e2]
                    by_cases e : q = b0
                    · simp [e]
                    · rw [if_neg e, if_neg (fun h => e h.symm)]
              have hchg : Chg w w' (fun x => A.ownBlock = some x) := Chg.grown hg
              have hAown : ∀ x, A.ownBlock = some x → ∃ b0 cp0, r.1 = some b0 ∧ H.get b0 ≠ none ∧ φ b0 = some (x, cp0) := fun x hx => by
                rcases hrow with ⟨_, e, _⟩ | ⟨b0, x', cp0, e1, e2, e3, e4, _⟩
                · rw [e] at hx; cases hx
                · rw [e4] at hx; simp only [Value.ownBlock, Option.some.injEq] at hx; subst hx
                  exact ⟨b0, cp0, e1, e2, e3⟩
              have hchg2 : Chg w w' (Own φ H.get) := hchg.mono fun x hx => by
                obtain ⟨b0, cp0, _, h2, h3⟩ := hAown x hx
                exact ⟨b0, cp0, h2, h3⟩
              have hG : G = w.heap.size ∨ ∃ b0 cp0, r.1 = some b0 ∧ H.get b0 ≠ none ∧ φ b0 = some (G, cp0) := by
                rcases hblk with e | e
                · right; refine hAown G ?_; rw [← e, hv']; rfl
                · left; rw [hv'] at e; simpa [Value.ownBlock] using e
              have hsame : ∀ q, ¬ (c ≤ q ∧ q < c + 1) → pup φ c (G, cap') q = φ q := fun q hq => by unfold pup; rw [if_neg (by omega)]
              have hplc : pup φ c (G, cap') c = some (G, cap') := by unfold pup; simp
              have hle' : PLe φ (pup φ c (G, cap')) := hf.le hsame
              have hbelow : Below base w w' := ⟨hchg.os, hchg.tape, hchg.output, hchg.size, fun k hk => hchg2.block k (Nat.lt_of_lt_of_le hk R.bsz) (fun ho => by
                obtain ⟨b0, cp0, h1, h2⟩ := ho
                have := R.low b0 k cp0 h1 h2; omega)⟩
              have hGlow : base ≤ G := by
                rcases hG with e | ⟨b0, cp0, _, h2, h3⟩
                · rw [e]; exact R.bsz
                · exact R.low b0 G cp0 h2 h3
              -- an old name does not stand for the new block
              have hno : ∀ q x cp0, r.1 ≠ some q → H.get q ≠ none → φ q = some (x, cp0) → x ≠ G := fun q x cp0 h1 h2 h3 e => by
                subst e
                rcases hG with e | ⟨b0, cp1, h4, h5, h6⟩
                · have := R.lt h2 h3; omega
                · have := R.inj q b0 x cp0 cp1 h2 h5 h3 h6
                  subst this; exact h1 h4
              refine ⟨v', pup φ c (G, cap'), w', hrun, ⟨hsame, ⟨fun q o hq => ?_, fun p q x y y' hp hq h1 h2 => ?_, fun q x y hq h1 => ?_, R.below.trans hbelow, Nat.le_trans R.bsz hchg.size⟩, hchg2, fun x ho => ?_, by omega, fun q hq => ?_⟩, ?_⟩
              · rw [hget] at hq
                simp only at hq
                by_cases e : q = c
                · rw [if_pos e] at hq; injection hq with hq; subst hq; subst e
                  refine ⟨G, cap', hplc, hcm, cur, xs ++ ys, hheap, hsz, AV.cl_mono hle' _ _ (AV.cl_app hxs hys), ?_, ?_⟩
                  · rw [hown'.1, hsz]; exact Nat.mul_le_mul_right _ hle
                  · rw [hown'.1]; exact htk
                · rw [if_neg e] at hq
                  split at hq
                  · cases hq
                  · rename_i hr1
                    obtain ⟨x, cp0, h1, h2⟩ := R.obj q o hq
                    refine ⟨x, cp0, hle' q _ h1, ?_⟩
                    rw [hchg.block x (R.lt (by rw [hq]; simp) h1) (fun hx => by
                      obtain ⟨b0, cp1, h4, h5, h6⟩ := hAown x hx
                      have := R.inj q b0 x cp0 cp1 (by rw [hq]; simp) h5 h1 h6
                      subst this; exact hr1 h4)]
                    exact h2.mono hle'
              · rw [hget] at hp hq
                simp only at hp hq
                unfold pup at h1 h2
                by_cases e1 : p = c <;> by_cases e2 : q = c
                · omega
                · rw [if_pos e1] at h1; rw [if_neg e2] at h2 hq
                  injection h1 with h1; injection h1 with h1 _; subst h1
                  split at hq
                  · exact absurd rfl hq
                  · rename_i hr1; exact absurd rfl (hno q _ y' hr1 hq h2)
                · rw [if_pos e2] at h2; rw [if_neg e1] at h1 hp
                  injection h2 with h2; injection h2 with h2 _; subst h2
                  split at hp
                  · exact absurd rfl hp
                  · rename_i hr1; exact absurd rfl (hno p _ y hr1 hp h1)
                · rw [if_neg e1] at h1 hp; rw [if_neg e2] at h2 hq
                  split at hp
                  · exact absurd rfl hp
                  · split at hq
                    · exact absurd rfl hq
                    · exact R.inj p q x y y' hp hq h1 h2
              · rw [hget] at hq
                simp only at hq
                unfold pup at h1
                by_cases e1 : q = c
                · rw [if_pos e1] at h1; injection h1 with h1; injection h1 with h1 _; subst h1; exact hGlow
                · rw [if_neg e1] at h1 hq
                  split at hq
                  · exact absurd rfl hq
                  · exact R.low q x y hq h1
              · obtain ⟨q, cp0, h1, h2⟩ := ho
                rw [hget] at h1
                simp only at h1
                unfold pup at h2
                by_cases e1 : q = c
                · rw [if_pos e1] at h2; injection h2 with h2; injection h2 with h2 _; subst h2
                  rcases hG with e | ⟨b0, cp1, _, h5, h6⟩
                  · left; omega
                  · right; exact ⟨b0, cp1, h5, h6⟩
                · rw [if_neg e1] at h1 h2
                  split at h1
                  · exact absurd rfl h1
                  · right; exact ⟨q, cp0, h1, h2⟩
              · rw [hget] at hq
                simp only at hq
                by_cases e1 : q = c
                · right; omega
                · rw [if_neg e1] at hq
                  split at hq
                  · exact absurd rfl hq
                  · exact .inl hq
              · unfold AV.c; rw [hplc, hv']; rfl
            · cases h
        · cases h
      · cases h
    · cases h
  · cases h
end
end Gw
