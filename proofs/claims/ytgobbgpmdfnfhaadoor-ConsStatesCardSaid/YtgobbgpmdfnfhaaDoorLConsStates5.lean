/- My own library for walks through the translated code, and the walks of the functions that the law ConsStates comes to, part 6; no conditions but those that each contract tells. -/
import Derived.Test.YtgobbgpmdfnfhaaDoorTie
import Derived.Test.YtgobbgpmdfnfhaaDoorCards
import Derived.LaidMore
import Derived.Stop.Joined
import Derived.MakeChecks
import Derived.Test.YtgobbgpmdfnfhaaDoorLConsStates4
set_option linter.unusedSectionVars false
set_option linter.unusedVariables false
set_option linter.unusedSimpArgs false
namespace Go.Proofs.YtgobbgpmdfnfhaaDoor
open Go Go.RowKit Gx
set_option linter.unusedVariables false
set_option linter.unusedSimpArgs false
set_option maxRecDepth 8000
noncomputable def con_consStates : Con σF where
  args := [.fl 10, .int .u64, .int .u8]
  items := []
  res := .bool
  pre := fun ads ids => match ads, ids with
    | [.fl 10 t, .int _ q, .int _ b], [] => []
    | _, _ => []
  fact := fun ads ids => match ads, ids with
    | [.fl 10 t, .int _ q, .int _ b], [] => []
    | _, _ => []
  spec := fun ads ids => match ads, ids with
    | [.fl 10 t, .int _ q, .int _ b], [] => some (.bool true, [])
    | _, _ => none
noncomputable def lh_consStates_13 (ads ids : List SF) : LoopH σF where
  slots := [11, 14]
  shs := [.row 64 15, .int .i64]
  drop := [6, 50, 51, 52, 53, 54, 55, 56, 57, 58, 59, 60, 61, 62, 63, 64, 65, 66, 67, 68, 69, 70, 71, 72, 73, 74, 75, 76, 77, 78, 79, 80, 81, 82, 83, 84]
  ns := []
  its := [.row 37 5]
  see := []
  inv := fun see c0 cs => match ads, ids, see, c0, cs with
    | [.fl 10 t, .int _ q, .int _ b], [], _, _, [.rs 5 ss, .rs 15 l, .int _ i] => [ss = List.replicate i.toNat 0 ++ (MadeM.sets (ofM t)).drop i.toNat, l = placesL (MadeM.sets (ofM t)) (MadeM.follow (ofM t)) i.toNat, 0 ≤ i, i ≤ (MadeM.sets (ofM t)).length]
    | _, _, _, _, _ => []
  meas := fun see c0 cs => match ads, ids, see, c0, cs with
    | [.fl 10 t, .int _ q, .int _ b], [], _, _, [.rs 5 ss, .rs 15 l, .int _ i] => (MadeM.sets (ofM t)).length - i.toNat
    | _, _, _, _, _ => 0
  nsl := [13]
noncomputable def lh_consStates_21 (ads ids : List SF) : LoopH σF where
  slots := [12, 15, 16]
  shs := [.int .u64, .bool, .int .i64]
  drop := [17, 85, 86, 87, 88, 89, 90, 91, 92, 93, 94, 95, 96, 97, 98, 99, 100, 101, 102, 103, 104, 105, 106, 107, 108, 109, 110, 111, 112, 113, 114, 115, 116, 117, 118, 119, 120, 121, 122, 123]
  ns := []
  its := []
  see := []
  inv := fun see c0 cs => match ads, ids, see, c0, cs with
    | [.fl 10 t, .int _ q, .int _ b], [], _, _, [.int _ f, .bool g, .int _ i] => [f = ors ((MadeM.first (ofM t)).take i.toNat), g = goodTo (consM (ofM t)) q i.toNat, 0 ≤ i, i ≤ (MadeM.first (ofM t)).length]
    | _, _, _, _, _ => []
  meas := fun see c0 cs => match ads, ids, see, c0, cs with
    | [.fl 10 t, .int _ q, .int _ b], [], _, _, [.int _ f, .bool g, .int _ i] => (MadeM.first (ofM t)).length - i.toNat
    | _, _, _, _, _ => 0
  nsl := []
noncomputable def hn_consStates (ads ids : List SF) : Hn σF := ⟨fun t => memB t [], fun t => memB t [], fun i => cond (Nat.beq i 13) (some (lh_consStates_13 ads ids)) (cond (Nat.beq i 21) (some (lh_consStates_21 ads ids)) (none)), fun i => none⟩
noncomputable def cs_consStates (ads ids : List SF) : List (Nat × Con σF) := [(18, con_great), (30, con_aw09), (28, con_newT), (28, con_newF), (12, con_of), (26, con_csets), (29, con_cplaces), (22, con_cnext), (31, con_rnext), (23, con_cstart), (24, con_cgood)]
noncomputable def vt_consStates : VT := vcF XC (fun ads ids g => lookC g (cs_consStates ads ids)) hn_consStates 200 Tryd.f7 con_consStates
theorem vc_consStates : ∀ (v0 : TreeM) (n1 n2 : Int), True ∧ (wt10 v0 → inK .u64 n1 → inK .u8 n2 → bif decide ((700 : Nat) < List.length (TreeM.nodes v0) ∨ (30 : Nat) < List.length (TreeM.parts v0)) then true = true ∧ True else bif decide (ofE v0 = (0 : Int)) then ofE v0 = (0 : Int) ∧ List.length (MadeM.sets (ConsM.made (consM (ofM v0)))) ≤ (1000 : Nat) ∧ bif !decide ((↑(List.length (MadeM.sets (ConsM.made (consM (ofM v0))))) : Int) = (↑(List.length (MadeM.sets (ofM v0))) : Int)) then false = true ∧ True else List.length (MadeM.sets (ConsM.made (consM (ofM v0)))) ≤ (1000 : Nat) ∧ bif !decide ((↑(List.length (MadeM.sets (ConsM.made (consM (ofM v0))))) : Int) = (↑(List.length (MadeM.sets (ofM v0))) : Int)) then false = true ∧ True else MadeM.sets (ConsM.made (consM (ofM v0))) = List.replicate (Int.toNat (0 : Int)) (0 : BSet) ++ List.drop (Int.toNat (0 : Int)) (MadeM.sets (ofM v0)) ∧ [] = placesL (MadeM.sets (ofM v0)) (MadeM.follow (ofM v0)) (Int.toNat (0 : Int)) ∧ (0 : Int) ≤ (0 : Int) ∧ (0 : Int) ≤ (↑(List.length (MadeM.sets (ofM v0))) : Int) ∧ ∀ (xs3 : List BSet) (xs4 : List PlaceM) (n5 : Int), xs3 = List.replicate (Int.toNat n5) (0 : BSet) ++ List.drop (Int.toNat n5) (MadeM.sets (ofM v0)) → xs4 = placesL (MadeM.sets (ofM v0)) (MadeM.follow (ofM v0)) (Int.toNat n5) → (0 : Int) ≤ n5 → n5 ≤ (↑(List.length (MadeM.sets (ofM v0))) : Int) → wtLs wt5 xs3 → wtLs wt15 xs4 → inK .i64 n5 → bif decide (n5 < (↑(List.length (MadeM.sets (ofM v0))) : Int)) then (0 : Int) ≤ n5 ∧ n5 < (↑(List.length xs3) : Int) ∧ (0 : Int) ≤ n5 ∧ n5 < (↑(List.length (MadeM.sets (ofM v0))) : Int) ∧ bif !decide (at_ xs3 n5 = at_ (MadeM.sets (ofM v0)) n5) then false = true ∧ True else (0 : Int) ≤ n5 ∧ n5 < (↑(List.length xs3) : Int) ∧ (0 : Int) ≤ n5 ∧ n5 < (↑(List.length (MadeM.sets (ofM v0))) : Int) ∧ (0 : Int) ≤ n5 ∧ n5 < (↑(List.length (MadeM.follow (ofM v0))) : Int) ∧ ((↑(List.length xs4) : Int) + (1 : Int)) * (40 : Int) ≤ (140737488355328 : Int) ∧ (↑(List.length xs4) : Int) + (1 : Int) ≤ (9223372036854775807 : Int) ∧ inK .i64 (n5 + (1 : Int)) ∧ List.set xs3 (Int.toNat n5) (0 : BSet) = List.replicate (Int.toNat (n5 + (1 : Int))) (0 : BSet) ++ List.drop (Int.toNat (n5 + (1 : Int))) (MadeM.sets (ofM v0)) ∧ xs4 ++ [{ set := at_ (MadeM.sets (ofM v0)) n5, fol := at_ (MadeM.follow (ofM v0)) n5 : PlaceM }] = placesL (MadeM.sets (ofM v0)) (MadeM.follow (ofM v0)) (Int.toNat (n5 + (1 : Int))) ∧ (0 : Int) ≤ n5 + (1 : Int) ∧ n5 + (1 : Int) ≤ (↑(List.length (MadeM.sets (ofM v0))) : Int) ∧ List.length (MadeM.sets (ofM v0)) - Int.toNat (n5 + (1 : Int)) < List.length (MadeM.sets (ofM v0)) - Int.toNat n5 ∧ True else (0 : Int) = ors (List.take (Int.toNat (0 : Int)) (MadeM.first (ofM v0))) ∧ true = goodTo (consM (ofM v0)) n1 (Int.toNat (0 : Int)) ∧ (0 : Int) ≤ (0 : Int) ∧ (0 : Int) ≤ (↑(List.length (MadeM.first (ofM v0))) : Int) ∧ ∀ (n6 : Int) (b7 : Bool) (n8 : Int), n6 = ors (List.take (Int.toNat n8) (MadeM.first (ofM v0))) → b7 = goodTo (consM (ofM v0)) n1 (Int.toNat n8) → (0 : Int) ≤ n8 → n8 ≤ (↑(List.length (MadeM.first (ofM v0))) : Int) → inK .u64 n6 → inK .i64 n8 → bif decide (n8 < (↑(List.length (MadeM.first (ofM v0))) : Int)) then (0 : Int) ≤ n8 ∧ n8 < (↑(List.length (MadeM.first (ofM v0))) : Int) ∧ (0 : Int) ≤ n8 ∧ n8 < (↑(List.length (MadeM.last (ofM v0))) : Int) ∧ bif decide (n1 = (9223372036854775808 : Int)) then (0 : Int) ≤ n8 ∧ n8 < (↑(List.length (MadeM.empty (ofM v0))) : Int) ∧ bif b7 then (0 : Int) ≤ n8 ∧ n8 < (↑(List.length (MadeM.not_ (ofM v0))) : Int) ∧ inK .i64 (n8 + (1 : Int)) ∧ ior n6 (at_ (MadeM.first (ofM v0)) n8) = ors (List.take (Int.toNat (n8 + (1 : Int))) (MadeM.first (ofM v0))) ∧ (!decide (at_ (MadeM.empty (ofM v0)) n8 = at_ (MadeM.not_ (ofM v0)) n8)) = goodTo (consM (ofM v0)) n1 (Int.toNat (n8 + (1 : Int))) ∧ (0 : Int) ≤ n8 + (1 : Int) ∧ n8 + (1 : Int) ≤ (↑(List.length (MadeM.first (ofM v0))) : Int) ∧ List.length (MadeM.first (ofM v0)) - Int.toNat (n8 + (1 : Int)) < List.length (MadeM.first (ofM v0)) - Int.toNat n8 ∧ True else inK .i64 (n8 + (1 : Int)) ∧ ior n6 (at_ (MadeM.first (ofM v0)) n8) = ors (List.take (Int.toNat (n8 + (1 : Int))) (MadeM.first (ofM v0))) ∧ false = goodTo (consM (ofM v0)) n1 (Int.toNat (n8 + (1 : Int))) ∧ (0 : Int) ≤ n8 + (1 : Int) ∧ n8 + (1 : Int) ≤ (↑(List.length (MadeM.first (ofM v0))) : Int) ∧ List.length (MadeM.first (ofM v0)) - Int.toNat (n8 + (1 : Int)) < List.length (MadeM.first (ofM v0)) - Int.toNat n8 ∧ True else bif b7 then (0 : Int) ≤ n8 ∧ n8 < (↑(List.length (MadeM.not_ (ofM v0))) : Int) ∧ inK .i64 (n8 + (1 : Int)) ∧ ior n6 (at_ (MadeM.first (ofM v0)) n8) = ors (List.take (Int.toNat (n8 + (1 : Int))) (MadeM.first (ofM v0))) ∧ (!decide ((!decide (iand n1 (at_ (MadeM.last (ofM v0)) n8) = (0 : Int))) = at_ (MadeM.not_ (ofM v0)) n8)) = goodTo (consM (ofM v0)) n1 (Int.toNat (n8 + (1 : Int))) ∧ (0 : Int) ≤ n8 + (1 : Int) ∧ n8 + (1 : Int) ≤ (↑(List.length (MadeM.first (ofM v0))) : Int) ∧ List.length (MadeM.first (ofM v0)) - Int.toNat (n8 + (1 : Int)) < List.length (MadeM.first (ofM v0)) - Int.toNat n8 ∧ True else inK .i64 (n8 + (1 : Int)) ∧ ior n6 (at_ (MadeM.first (ofM v0)) n8) = ors (List.take (Int.toNat (n8 + (1 : Int))) (MadeM.first (ofM v0))) ∧ false = goodTo (consM (ofM v0)) n1 (Int.toNat (n8 + (1 : Int))) ∧ (0 : Int) ≤ n8 + (1 : Int) ∧ n8 + (1 : Int) ≤ (↑(List.length (MadeM.first (ofM v0))) : Int) ∧ List.length (MadeM.first (ofM v0)) - Int.toNat (n8 + (1 : Int)) < List.length (MadeM.first (ofM v0)) - Int.toNat n8 ∧ True else List.length (MadeM.follow (ConsM.made (consM (ofM v0)))) ≤ (63 : Nat) ∧ (∀ (x : Int), x ∈ MadeM.follow (ConsM.made (consM (ofM v0))) → inK .u64 x) ∧ List.length xs4 ≤ (63 : Nat) ∧ bif decide (nextV (consM (ofM v0)) n1 n2 = nextR xs4 n6 n1 n2) then List.length (MadeM.follow (ConsM.made (consM (ofM v0)))) ≤ (63 : Nat) ∧ (∀ (x : Int), x ∈ MadeM.follow (ConsM.made (consM (ofM v0))) → inK .u64 x) ∧ List.length xs4 ≤ (63 : Nat) ∧ bif decide (nextV (consM (ofM v0)) (9223372036854775808 : Int) n2 = nextR xs4 n6 (9223372036854775808 : Int) n2) then List.length (MadeM.not_ (ConsM.made (consM (ofM v0)))) ≤ (1000 : Nat) ∧ List.length (MadeM.last (ConsM.made (consM (ofM v0)))) = List.length (MadeM.not_ (ConsM.made (consM (ofM v0)))) ∧ List.length (MadeM.empty (ConsM.made (consM (ofM v0)))) = List.length (MadeM.not_ (ConsM.made (consM (ofM v0)))) ∧ bif decide (goodV (consM (ofM v0)) n1 = b7) then true = true ∧ True else false = true ∧ True else false = true ∧ True else false = true ∧ True else ¬ofE v0 = (0 : Int) ∧ bif !decide (ofE v0 = (0 : Int)) then true = true ∧ True else False) :=
 fun v0 => fun n1 => fun n2 => ⟨trivial,
 fun h0 => fun h1 => have k1 := b_u64 h1; fun h2 => have k2 := b_u8 h2; condD (fun h3 => ⟨(by rfl),
 trivial⟩) (fun h3 => condD (fun h4 => ⟨(by assumption), ⟨(by obtain ⟨R, T, A⟩ := of_ok h4; have sl := A.sets; have fl := A.fol; have l1 := A.first; have l2 := A.last; have l3 := A.empty; have l4 := A.not_; have p20 := R.p20; show List.length (MadeM.sets (ofM v0)) ≤ 1000; omega),
 condN (fun h5 => ⟨(by exact absurd rfl h5),
 trivial⟩) (fun h5 => ⟨(by obtain ⟨R, T, A⟩ := of_ok h4; have sl := A.sets; have fl := A.fol; have l1 := A.first; have l2 := A.last; have l3 := A.empty; have l4 := A.not_; have p20 := R.p20; show List.length (MadeM.sets (ofM v0)) ≤ 1000; omega),
 condN (fun h6 => ⟨(by omega),
 trivial⟩) (fun h6 => ⟨(by rfl), ⟨(by rfl), ⟨(by omega), ⟨(by omega),
 fun xs3 => fun xs4 => fun n5 => fun h7 => fun h8 => fun h9 => fun h10 => fun h11 => have k11 := b_len h11; fun h12 => have k12 := b_len h12; fun h13 => have k13 := b_i64 h13; condD (fun h14 => ⟨(by assumption), ⟨(by grind), ⟨(by assumption), ⟨(by assumption),
 condN (fun h15 => ⟨(by grind),
 trivial⟩) (fun h15 => ⟨(by assumption), ⟨(by grind), ⟨(by assumption), ⟨(by assumption), ⟨(by assumption), ⟨(by obtain ⟨R, T, A⟩ := of_ok h4; have sl := A.sets; have fl := A.fol; have l1 := A.first; have l2 := A.last; have l3 := A.empty; have l4 := A.not_; have p20 := R.p20; omega), ⟨(by obtain ⟨R, T, A⟩ := of_ok h4; have sl := A.sets; have fl := A.fol; have l1 := A.first; have l2 := A.last; have l3 := A.empty; have l4 := A.not_; have p20 := R.p20; have e := congrArg List.length h8; rw [placesL_len] at e; omega), ⟨(by obtain ⟨R, T, A⟩ := of_ok h4; have sl := A.sets; have fl := A.fol; have l1 := A.first; have l2 := A.last; have l3 := A.empty; have l4 := A.not_; have p20 := R.p20; have e := congrArg List.length h8; rw [placesL_len] at e; omega), ⟨(by grind), ⟨(by rw [h7]; exact clear_next _ _ h9 h14), ⟨(by rw [h8, show (n5 + 1).toNat = n5.toNat + 1 by omega, placesL_next, Int.toNat_of_nonneg h9]), ⟨(by omega), ⟨(by assumption), ⟨(by omega),
 trivial⟩⟩⟩⟩⟩⟩⟩⟩⟩⟩⟩⟩⟩⟩)⟩⟩⟩⟩) (fun h14 => ⟨(by rfl), ⟨(by rfl), ⟨(by omega), ⟨(by omega),
 fun n6 => fun b7 => fun n8 => fun h16 => fun h17 => fun h18 => fun h19 => fun h20 => have k20 := b_u64 h20; fun h21 => have k21 := b_i64 h21; condD (fun h22 => ⟨(by assumption), ⟨(by assumption), ⟨(by assumption), ⟨(by obtain ⟨R, T, A⟩ := of_ok h4; have sl := A.sets; have fl := A.fol; have l1 := A.first; have l2 := A.last; have l3 := A.empty; have l4 := A.not_; have p20 := R.p20; omega),
 condD (fun h23 => ⟨(by assumption), ⟨(by obtain ⟨R, T, A⟩ := of_ok h4; have sl := A.sets; have fl := A.fol; have l1 := A.first; have l2 := A.last; have l3 := A.empty; have l4 := A.not_; have p20 := R.p20; omega),
 condI (fun h24 => ⟨(by assumption), ⟨(by obtain ⟨R, T, A⟩ := of_ok h4; have sl := A.sets; have fl := A.fol; have l1 := A.first; have l2 := A.last; have l3 := A.empty; have l4 := A.not_; have p20 := R.p20; omega), ⟨(by obtain ⟨R, T, A⟩ := of_ok h4; have sl := A.sets; have fl := A.fol; have l1 := A.first; have l2 := A.last; have l3 := A.empty; have l4 := A.not_; have p20 := R.p20; exact in_i64 (by omega) (by omega)), ⟨(by rw [h16]; exact (ors_next _ h18 h22).symm), ⟨(by rw [show (n8 + 1).toNat = n8.toNat + 1 by omega, good_next, ← h17, h24]; unfold inV consM; simp [Int.toNat_of_nonneg h18, h23]), ⟨(by omega), ⟨(by assumption), ⟨(by omega),
 trivial⟩⟩⟩⟩⟩⟩⟩⟩) (fun h24 => ⟨(by obtain ⟨R, T, A⟩ := of_ok h4; have sl := A.sets; have fl := A.fol; have l1 := A.first; have l2 := A.last; have l3 := A.empty; have l4 := A.not_; have p20 := R.p20; exact in_i64 (by omega) (by omega)), ⟨(by rw [h16]; exact (ors_next _ h18 h22).symm), ⟨(by rw [show (n8 + 1).toNat = n8.toNat + 1 by omega, good_next, ← h17, h24]; rfl), ⟨(by omega), ⟨(by assumption), ⟨(by omega),
 trivial⟩⟩⟩⟩⟩⟩)⟩⟩) (fun h23 => condI (fun h25 => ⟨(by assumption), ⟨(by obtain ⟨R, T, A⟩ := of_ok h4; have sl := A.sets; have fl := A.fol; have l1 := A.first; have l2 := A.last; have l3 := A.empty; have l4 := A.not_; have p20 := R.p20; omega), ⟨(by obtain ⟨R, T, A⟩ := of_ok h4; have sl := A.sets; have fl := A.fol; have l1 := A.first; have l2 := A.last; have l3 := A.empty; have l4 := A.not_; have p20 := R.p20; exact in_i64 (by omega) (by omega)), ⟨(by rw [h16]; exact (ors_next _ h18 h22).symm), ⟨(by rw [show (n8 + 1).toNat = n8.toNat + 1 by omega, good_next, ← h17, h25]; unfold inV consM; simp [Int.toNat_of_nonneg h18, h23]), ⟨(by omega), ⟨(by assumption), ⟨(by omega),
 trivial⟩⟩⟩⟩⟩⟩⟩⟩) (fun h25 => ⟨(by obtain ⟨R, T, A⟩ := of_ok h4; have sl := A.sets; have fl := A.fol; have l1 := A.first; have l2 := A.last; have l3 := A.empty; have l4 := A.not_; have p20 := R.p20; exact in_i64 (by omega) (by omega)), ⟨(by rw [h16]; exact (ors_next _ h18 h22).symm), ⟨(by rw [show (n8 + 1).toNat = n8.toNat + 1 by omega, good_next, ← h17, h25]; rfl), ⟨(by omega), ⟨(by assumption), ⟨(by omega),
 trivial⟩⟩⟩⟩⟩⟩))⟩⟩⟩⟩) (fun h22 => ⟨(by obtain ⟨R, T, A⟩ := of_ok h4; have sl := A.sets; have fl := A.fol; have l1 := A.first; have l2 := A.last; have l3 := A.empty; have l4 := A.not_; have p20 := R.p20; show List.length (MadeM.follow (ofM v0)) ≤ 63; omega), ⟨(by exact (of_ok h4).2.2.ifo), ⟨(by obtain ⟨R, T, A⟩ := of_ok h4; have sl := A.sets; have fl := A.fol; have l1 := A.first; have l2 := A.last; have l3 := A.empty; have l4 := A.not_; have p20 := R.p20; have e := congrArg List.length h8; rw [placesL_len] at e; omega),
 condD (fun h26 => ⟨(by obtain ⟨R, T, A⟩ := of_ok h4; have sl := A.sets; have fl := A.fol; have l1 := A.first; have l2 := A.last; have l3 := A.empty; have l4 := A.not_; have p20 := R.p20; show List.length (MadeM.follow (ofM v0)) ≤ 63; omega), ⟨(by exact (of_ok h4).2.2.ifo), ⟨(by obtain ⟨R, T, A⟩ := of_ok h4; have sl := A.sets; have fl := A.fol; have l1 := A.first; have l2 := A.last; have l3 := A.empty; have l4 := A.not_; have p20 := R.p20; have e := congrArg List.length h8; rw [placesL_len] at e; omega),
 condD (fun h27 => ⟨(by obtain ⟨R, T, A⟩ := of_ok h4; have sl := A.sets; have fl := A.fol; have l1 := A.first; have l2 := A.last; have l3 := A.empty; have l4 := A.not_; have p20 := R.p20; show List.length (MadeM.not_ (ofM v0)) ≤ 1000; omega), ⟨(by obtain ⟨R, T, A⟩ := of_ok h4; have sl := A.sets; have fl := A.fol; have l1 := A.first; have l2 := A.last; have l3 := A.empty; have l4 := A.not_; have p20 := R.p20; show List.length (MadeM.last (ofM v0)) = List.length (MadeM.not_ (ofM v0)); omega), ⟨(by obtain ⟨R, T, A⟩ := of_ok h4; have sl := A.sets; have fl := A.fol; have l1 := A.first; have l2 := A.last; have l3 := A.empty; have l4 := A.not_; have p20 := R.p20; show List.length (MadeM.empty (ofM v0)) = List.length (MadeM.not_ (ofM v0)); omega),
 condD (fun h28 => ⟨(by rfl),
 trivial⟩) (fun h28 => ⟨(by obtain ⟨R, T, A⟩ := of_ok h4; have sl := A.sets; have fl := A.fol; have l1 := A.first; have l2 := A.last; have l3 := A.empty; have l4 := A.not_; have p20 := R.p20; have e : goodV (consM (ofM v0)) n1 = b7 := (by rw [h17]; unfold goodV; congr 1; show List.length (MadeM.not_ (ofM v0)) = _; omega); first | exact absurd e h28 | exact absurd e.symm h28),
 trivial⟩)⟩⟩⟩) (fun h27 => ⟨(by obtain ⟨R, T, A⟩ := of_ok h4; have sl := A.sets; have fl := A.fol; have l1 := A.first; have l2 := A.last; have l3 := A.empty; have l4 := A.not_; have p20 := R.p20; have e4 : xs4 = placesL (MadeM.sets (ofM v0)) (MadeM.follow (ofM v0)) (MadeM.sets (ofM v0)).length := (by rw [h8]; congr 1; omega); have e6 : n6 = ors (MadeM.first (ofM v0)) := (by rw [h16, List.take_of_length_le (by omega)]); rw [e4, e6] at h27; exact absurd (next_eq (ofM v0) A.fol 9223372036854775808 k2.1 (by omega)) h27),
 trivial⟩)⟩⟩⟩) (fun h26 => ⟨(by obtain ⟨R, T, A⟩ := of_ok h4; have sl := A.sets; have fl := A.fol; have l1 := A.first; have l2 := A.last; have l3 := A.empty; have l4 := A.not_; have p20 := R.p20; have e4 : xs4 = placesL (MadeM.sets (ofM v0)) (MadeM.follow (ofM v0)) (MadeM.sets (ofM v0)).length := (by rw [h8]; congr 1; omega); have e6 : n6 = ors (MadeM.first (ofM v0)) := (by rw [h16, List.take_of_length_le (by omega)]); rw [e4, e6] at h26; exact absurd (next_eq (ofM v0) A.fol n1 k2.1 (by omega)) h26),
 trivial⟩)⟩⟩⟩)⟩⟩⟩⟩)⟩⟩⟩⟩)⟩)⟩⟩) (fun h4 => ⟨(by assumption),
 condN (fun h29 => ⟨(by rfl),
 trivial⟩) (fun h29 => (by first | contradiction | omega | (simp_all; done)))⟩))⟩
theorem ok_consStates : ConOK PX DF_ TabG 7 con_consStates := con_ok XC.mixed tab_mono (fn := Tryd.f7) (by kernel_rfl) (lookC_ok (l := cs_consStates [] []) (alls_cons ok_great (alls_cons ok_aw09 (alls_cons ok_newT (alls_cons ok_newF (alls_cons ok_of (alls_cons ok_csets (alls_cons ok_cplaces (alls_cons ok_cnext (alls_cons ok_rnext (alls_cons ok_cstart (alls_cons ok_cgood (alls_nil))))))))))))) (vc_eq (show VT.H vt_consStates = _ by kernel_rfl) vc_consStates)
end Go.Proofs.YtgobbgpmdfnfhaaDoor
namespace Gx
open Go Go.RowKit
set_option linter.unusedSimpArgs false
set_option linter.unusedVariables false
def OpensAt {α : Type} (P : Program) (k : Kd α) (t : TypeId) (o : Nat) : Prop :=
  ∀ {H : Type} {enc : TypeId × Value → H} {w : World} {spare : Nat → Bool} {held : Bool} {fuel : Nat} {cs : List Value} {x : DataW H × List MemPlace}, DataW.trod enc P w 0 spare held fuel t cs = some x → ∃ m, k.rep (hp w) m ((cs.drop o).take k.sz)
section
variable {P : Program} {t : TypeId} {α β : Type} {a : Kd α} {b : Kd β}
theorem OpensAt.field {q o ft : Nat} (hf : fieldInfo P t q = some (o, ft)) (hc : P.cellsOf ft = a.sz) (ho : Opens P a ft) : OpensAt P a t o := fun h => trod_field hf hc ho h
theorem take_add_ {cs : List Value} {o m n : Nat} : (cs.drop o).take (m + n) = (cs.drop o).take m ++ (cs.drop (o + m)).take n := by
  rw [List.take_add, List.drop_drop]
theorem OpensAt.pair {o o2 : Nat} (ha : OpensAt P a t o) (hb : OpensAt P b t o2) (ho : o2 = o + a.sz) : OpensAt P (Kd.pair a b) t o := fun h => by
  obtain ⟨x, hx⟩ := ha h
  obtain ⟨y, hy⟩ := hb h
  subst ho
  exact ⟨(x, y), _, _, take_add_, hx, hy⟩
theorem Opens.of {q o ft : Nat} (hf : fieldInfo P t q = some (o, ft)) (hc : P.cellsOf t = a.sz) (ha : OpensAt P a t 0) : Opens P a t := fun h => by
  obtain ⟨x, hx⟩ := ha h
  have hl := trod_len hf h
  rw [List.drop_zero, List.take_of_length_le (by omega)] at hx
  exact ⟨x, hx⟩
theorem Opens.iso {g : β → α} (f : α → β) (hfg : ∀ x, g (f x) = x) (ha : Opens P a t) : Opens P (Kd.iso a g) t := fun h => by
  obtain ⟨x, hx⟩ := ha h
  exact ⟨f x, show a.rep _ (g (f x)) _ by rw [hfg]; exact hx⟩
end
theorem v_start (w : World) : VRel DF_.kd ⟨fun _ => False, hp w⟩ w (fun _ => none) (hp w) noH w :=
  ⟨0, fun _ _ => rfl, ⟨Chg.refl w _, Nat.le_refl _, Le.refl _, ⟨Le.refl _, fun b o h => .inl h⟩, ⟨fun _ _ => False, fun i A h => by simp [LN] at h, fun i j h => by simp [LN] at h⟩⟩⟩
theorem v_bool {P : Program} {Tab : Ghost → Prop} {f : Nat} {con : Con σF} {ads : List SF} {w : World} {Vs : List Value} (hc : ConOK P DF_ Tab f con) (ht : Tab (hp w)) (h1 : okCs con [] ads = true) (h2 : ConIn con [] ads = some (ads, [], 0, true)) (h3 : con.spec ads [] = some (.bool true, [])) (h4 : Holds (con.pre ads [])) (h5 : ConOut con (.bool true) [] 0 = some (.bool true, [], 0))
    (hv : LR DF_.kd (fun _ => none) (hp w) ads Vs) : Calls P f Vs.toArray w fun e w' => e = .returned (.bool true) ∧ Below w.heap.size w w' := by
  refine ((hc [] ads ads [] 0 true (.bool true) [] h1 h2 h3 h4).2 (.bool true) [] 0 h5 w (hp w) (fun _ => False) (fun _ => none) Vs ht (v_start w) hv (fun _ _ => rfl)).mono fun e w' he => ?_
  obtain ⟨φ', h', V, rfl, R, hV, _⟩ := he
  rw [VR] at hV; subst hV
  obtain ⟨N, _, S⟩ := R.st
  exact ⟨rfl, S.below.below⟩
theorem lr_cons {v : SF} {l : List SF} {V : Value} {Vs : List Value} {φ : Ph} {h : Ghost} (hv : VR DF_.kd φ h v V) (hl : LR DF_.kd φ h l Vs) : LR DF_.kd φ h (v :: l) (V :: Vs) := LR_cons.2 ⟨V, Vs, rfl, hv, hl⟩
theorem lr_nil {φ : Ph} {h : Ghost} : LR DF_.kd φ h [] [] := LR_nil.2 rfl
theorem vr_int {k : IntKind} {n : Int} {φ : Ph} {h : Ghost} (hn : inK k n) : VR DF_.kd φ h (.int k n) (.int k n) := by rw [VR]; exact ⟨rfl, hn⟩
theorem vr_fl {i : Nat} {x : TyF i} {a : Array Value} {φ : Ph} {h : Ghost} (hx : (kdF i).rep h x a.toList) : VR DF_.kd φ h (.fl i x) (.agg a) := by rw [VR]; exact ⟨a.toList, by simp, hx⟩
end Gx
namespace Go.Proofs.YtgobbgpmdfnfhaaDoor
open Go Go.ChangeShapes Go.WideShapes Go.ChangeAt Go.RowKit Gx
set_option linter.unusedVariables false
theorem own : ownKnob Tryd.prog.godebug = none := by kernel_rfl
theorem laidOut : laidOutB Tryd.prog = true := by kernel_rfl
def laid : List (String × DataW Unit) := [("math/bits.deBruijn64tab", Rows.laid_math_bits_deBruijn64tab)]
theorem gTab : Tryd.prog.globalNamed "math/bits.deBruijn64tab" = some 0 := by kernel_rfl
theorem tTab : (Tryd.prog.globals[0]?).map (·.type) = some 110 := by kernel_rfl
theorem door_met (os : Os) (args : Array Value) : laidMetH Tryd.prog laid ((World.doorLaid Tryd.prog 4000 os).forCall (fun _ _ => 0) ⟨#[], args, []⟩).memory :=
  laidMetH_of_parts3 (fuel := 8) (laidMet_of_run' 8 (by kernel_rfl) (by kernel_rfl)) (by kernel_rfl) (by kernel_rfl)
set_option maxRecDepth 20000 in
theorem tab_of_laid {W : World} (h : laidMetH Tryd.prog laid W) : TabG (hp W) := by
  rw [MakeChecks.laidMetH_plain _ _ _ (by kernel_rfl)] at h
  obtain ⟨ps, ⟨g0, t0, cs0, f0, p0, q0, hg0, ht0, hv0, hd0, _⟩, _, _⟩ := h
  obtain rfl := Option.some.inj (gTab.symm.trans hg0)
  obtain rfl := Option.some.inj (tTab.symm.trans ht0)
  obtain ⟨xs, m, _, hx, hl, hn, hel⟩ := DataW.trod_array (n := 64) (e := 5) (by kernel_rfl) hd0
  have c5 : Tryd.prog.cellsOf 5 = 1 := by kernel_rfl
  have c70 : Tryd.prog.cellsOf 110 = 64 := by kernel_rfl
  rw [c70] at hl
  intro j hj64
  show W.cell? ⟨0, j, none⟩ = _
  rw [World.var?_cell hg0 hv0 j]
  have h2 := hel j hj64
  rw [c5, Nat.mul_one, List.getElem?_eq_getElem (by omega)] at h2
  obtain ⟨z, hz, hzx, _⟩ := DataW.trod_int (k := .u8) (by kernel_rfl) h2
  have h3 := congrArg (fun l : List Value => l[0]?) hz
  simp only [List.getElem?_take, List.getElem?_drop, List.getElem?_cons_zero, Nat.add_zero] at h3
  have h4 : cs0[j]? = some (.int .u8 z) := by rw [← Array.getElem?_toList]; simpa using h3
  rw [h4]
  simp only [Prod.mk.injEq] at hx
  have h6 : (xs.map (·.1))[j]? = some (.lit (.int .u8 z)) := by rw [List.getElem?_map, List.getElem?_eq_getElem (by omega), Option.map_some, hzx]
  have h7 : Rows.laid_math_bits_deBruijn64tab (H := Unit) = .agg (tzTab.map fun v => match v with | .int k n => .lit (.int k n) | _ => .nil) := by kernel_rfl
  rw [h7] at hx
  injection hx.1 with h8
  rw [← h8] at h6
  have h9 : ∀ j, j < 64 → ∃ n, tzTab[j]? = some (.int .u8 n) := fun j hj => ⟨_, by unfold tzTab; rw [List.getElem?_map, List.getElem?_eq_getElem (by exact hj)]; rfl⟩
  obtain ⟨n, hn9⟩ := h9 j hj64
  rw [List.getElem?_map, hn9] at h6
  simp at h6
  rw [hn9, h6]
end Go.Proofs.YtgobbgpmdfnfhaaDoor
