/-
  No cell of these rows narrows 'for every input' (looked for: loops, veiled, ifaces, maps, wideKeys, modest, calm, conditions, laid).
  DERIVED. THE GIVEN ROWS OF THIS SEAT. 6 by the template 'for every input the law returns true; each argument reads behind the call as it read before'; 0 by the template 'total and deterministic' (their statements: YtpdanfggijmnmaaTotals.lean).
  GIVEN WITH THE SEED: the statements are not yours to turn. If you find one false, say at which input.
  Laid BY PROGRAM, IN A SANDBOX (cutbox-rows.mjs): the forced cells as the released guide's own fill.sh prints them over the translation 5061cc9c017c02ef… (all of the seat's roots in one cut). By AI agents, Wed Nov 11 2026. No macro, syntax, notation, axiom, sorry.
-/
import Derived.Test.YtpdanfggijmnmaaChecked
import GoSem.Claim
import GoSem.ClaimJoined
import GoSem.ClaimMapViews
import Derived.JoinedTies
import Derived.KernelRfl
namespace Go.Proofs.Ytpdanfggijmnmaa
/- THE CELL 'sum', in the pinned program and in every row, IS THE sha256 OF THE DUMP (.gsa) THAT YtpdanfggijmnmaaProg.lean LOADS. Nothing in Lean hashes anything: it is a label: what it is worth is what the hold of that sum in a sandbox is worth. -/
noncomputable def Try.pinned : Pinned := { name := "ytpdanfggijmnmaa", sum := "5061cc9c017c02ef71bf315d3bb194df67fd9ad74bdefe5e3223e2eb6b86be89", checked := Try.checked }
namespace Rows
def none {H : Type} : Left H := { results := [], args := [] }

/-- 'shibbolethlaw14.FstMarks': WHATEVER THE INPUT: true; the input reads as it did. -/
def fstMarksSpec : ChangeSpec := { name := "fstMarks", fn := fun _ => fun
  | [d1, d2] => { results := [.lit (.bool true)], args := [d1, d2] }
  | _ => none }
def fstMarksRow : OpenClaim := { program := "ytpdanfggijmnmaa", sum := "5061cc9c017c02ef71bf315d3bb194df67fd9ad74bdefe5e3223e2eb6b86be89", func := "shibboleth/shibbolethlaw14.FstMarks", spec := "fstMarks", unfollowed := true, recurses := true, plainKeys := false, apart := false }
def FstMarksSaid : Prop := fstMarksRow.holds Try.pinned (OpenSpec.ofChange fstMarksSpec)

/-- ITS FALSE NEIGHBOUR: 'it returns false'. Refute it at one input. -/
def fstMarksWrong : ChangeSpec := { name := "fstMarks", fn := fun _ => fun
  | [d1, d2] => { results := [.lit (.bool false)], args := [d1, d2] }
  | _ => none }
def FstMarksWrongFalsely : Prop := fstMarksRow.holds Try.pinned (OpenSpec.ofChange fstMarksWrong)

/-- 'shibbolethlaw14.FstSingle': WHATEVER THE INPUT: true; the input reads as it did. -/
def fstSingleSpec : ChangeSpec := { name := "fstSingle", fn := fun _ => fun
  | [d] => { results := [.lit (.bool true)], args := [d] }
  | _ => none }
def fstSingleRow : OpenClaim := { program := "ytpdanfggijmnmaa", sum := "5061cc9c017c02ef71bf315d3bb194df67fd9ad74bdefe5e3223e2eb6b86be89", func := "shibboleth/shibbolethlaw14.FstSingle", spec := "fstSingle", unfollowed := true, recurses := true, plainKeys := false, apart := false }
def FstSingleSaid : Prop := fstSingleRow.holds Try.pinned (OpenSpec.ofChange fstSingleSpec)

/-- ITS FALSE NEIGHBOUR: 'it returns false'. Refute it at one input. -/
def fstSingleWrong : ChangeSpec := { name := "fstSingle", fn := fun _ => fun
  | [d] => { results := [.lit (.bool false)], args := [d] }
  | _ => none }
def FstSingleWrongFalsely : Prop := fstSingleRow.holds Try.pinned (OpenSpec.ofChange fstSingleWrong)

/-- 'shibbolethlaw14.FstKnown': WHATEVER THE INPUT: true; the input reads as it did. -/
def fstKnownSpec : ChangeSpec := { name := "fstKnown", fn := fun _ => fun
  | [] => { results := [.lit (.bool true)], args := [] }
  | _ => none }
def fstKnownRow : OpenClaim := { program := "ytpdanfggijmnmaa", sum := "5061cc9c017c02ef71bf315d3bb194df67fd9ad74bdefe5e3223e2eb6b86be89", func := "shibboleth/shibbolethlaw14.FstKnown", spec := "fstKnown", unfollowed := true, recurses := true, plainKeys := false, apart := false }
def FstKnownSaid : Prop := fstKnownRow.holds Try.pinned (OpenSpec.ofChange fstKnownSpec)

/-- ITS FALSE NEIGHBOUR: 'it returns false'. Refute it at one input. -/
def fstKnownWrong : ChangeSpec := { name := "fstKnown", fn := fun _ => fun
  | [] => { results := [.lit (.bool false)], args := [] }
  | _ => none }
def FstKnownWrongFalsely : Prop := fstKnownRow.holds Try.pinned (OpenSpec.ofChange fstKnownWrong)

/-- 'shibbolethlaw14.FstAll': WHATEVER THE INPUT: true; the input reads as it did. -/
def fstAllSpec : ChangeSpec := { name := "fstAll", fn := fun _ => fun
  | [d1, d2, d3] => { results := [.lit (.bool true)], args := [d1, d2, d3] }
  | _ => none }
def fstAllRow : OpenClaim := { program := "ytpdanfggijmnmaa", sum := "5061cc9c017c02ef71bf315d3bb194df67fd9ad74bdefe5e3223e2eb6b86be89", func := "shibboleth/shibbolethlaw14.FstAll", spec := "fstAll", unfollowed := true, recurses := true, plainKeys := false, apart := false }
def FstAllSaid : Prop := fstAllRow.holds Try.pinned (OpenSpec.ofChange fstAllSpec)

/-- ITS FALSE NEIGHBOUR: 'it returns false'. Refute it at one input. -/
def fstAllWrong : ChangeSpec := { name := "fstAll", fn := fun _ => fun
  | [d1, d2, d3] => { results := [.lit (.bool false)], args := [d1, d2, d3] }
  | _ => none }
def FstAllWrongFalsely : Prop := fstAllRow.holds Try.pinned (OpenSpec.ofChange fstAllWrong)

/-- 'shibbolethlaw14.FstFields': WHATEVER THE INPUT: true; the input reads as it did. -/
def fstFieldsSpec : ChangeSpec := { name := "fstFields", fn := fun _ => fun
  | [d1, d2] => { results := [.lit (.bool true)], args := [d1, d2] }
  | _ => none }
def fstFieldsRow : OpenClaim := { program := "ytpdanfggijmnmaa", sum := "5061cc9c017c02ef71bf315d3bb194df67fd9ad74bdefe5e3223e2eb6b86be89", func := "shibboleth/shibbolethlaw14.FstFields", spec := "fstFields", unfollowed := true, recurses := true, plainKeys := false, apart := false }
def FstFieldsSaid : Prop := fstFieldsRow.holds Try.pinned (OpenSpec.ofChange fstFieldsSpec)

/-- ITS FALSE NEIGHBOUR: 'it returns false'. Refute it at one input. -/
def fstFieldsWrong : ChangeSpec := { name := "fstFields", fn := fun _ => fun
  | [d1, d2] => { results := [.lit (.bool false)], args := [d1, d2] }
  | _ => none }
def FstFieldsWrongFalsely : Prop := fstFieldsRow.holds Try.pinned (OpenSpec.ofChange fstFieldsWrong)

/-- 'shibbolethlaw14.FstTrims': WHATEVER THE INPUT: true; the input reads as it did. -/
def fstTrimsSpec : ChangeSpec := { name := "fstTrims", fn := fun _ => fun
  | [d1, d2] => { results := [.lit (.bool true)], args := [d1, d2] }
  | _ => none }
def fstTrimsRow : OpenClaim := { program := "ytpdanfggijmnmaa", sum := "5061cc9c017c02ef71bf315d3bb194df67fd9ad74bdefe5e3223e2eb6b86be89", func := "shibboleth/shibbolethlaw14.FstTrims", spec := "fstTrims", unfollowed := true, recurses := true, plainKeys := false, apart := false }
def FstTrimsSaid : Prop := fstTrimsRow.holds Try.pinned (OpenSpec.ofChange fstTrimsSpec)

/-- ITS FALSE NEIGHBOUR: 'it returns false'. Refute it at one input. -/
def fstTrimsWrong : ChangeSpec := { name := "fstTrims", fn := fun _ => fun
  | [d1, d2] => { results := [.lit (.bool false)], args := [d1, d2] }
  | _ => none }
def FstTrimsWrongFalsely : Prop := fstTrimsRow.holds Try.pinned (OpenSpec.ofChange fstTrimsWrong)

/- THE SECOND FORM. 'bulk': how many values and letters a reading holds, each counted each time it is reached (what is shared counts as often as it is met; a slice's spare places count too). A statement '..UptoSaid' is the law's where the arguments, and the package variables that the reading takes, are together of bulk at most 1048576: NARROWER than '..Said'. Prove '..Said' where nothing that the law and all that it calls make is longer than what came in: it says more and counts as full. Else prove '..UptoSaid'. A law counts once. -/
mutual
def uptoBulk {H : Type} : DataW H → Nat
  | .lit (.string bytes) => bytes.length + 1
  | .lit _ => 1
  | .nil => 1
  | .ptr d => uptoBulk d + 1
  | .slice elems spare => uptoBulkAll elems + uptoBulkAll spare + 1
  | .agg parts => uptoBulkAll parts + 1
  | .iface _ d => uptoBulk d + 1
  | .map entries => uptoBulkEntries entries + 1
  | .held _ => 1
def uptoBulkAll {H : Type} : List (DataW H) → Nat
  | [] => 0
  | d :: r => uptoBulk d + uptoBulkAll r
def uptoBulkEntries {H : Type} : List (Lit × DataW H) → Nat
  | [] => 0
  | x :: r => uptoBulkEntry x + uptoBulkEntries r
def uptoBulkEntry {H : Type} : Lit × DataW H → Nat
  | (.string bytes, d) => bytes.length + uptoBulk d + 1
  | (_, d) => uptoBulk d + 1
 end
def uptoSmall : (H : Type) → List (DataW H) → Bool := fun _ ds => decide (uptoBulkAll ds ≤ 1048576)
def OpenSpec.upto (s : _root_.Go.ChangeSpec) : _root_.Go.OpenSpec := { _root_.Go.OpenSpec.ofChange s with cond := some uptoSmall }

/-- 'shibbolethlaw14.FstMarks', WHERE WHAT IT READS IS OF BULK AT MOST 1048576: true; the input reads as it did. -/
def fstMarksUptoRow : OpenClaim := { program := "ytpdanfggijmnmaa", sum := "5061cc9c017c02ef71bf315d3bb194df67fd9ad74bdefe5e3223e2eb6b86be89", func := "shibboleth/shibbolethlaw14.FstMarks", spec := "fstMarks", unfollowed := true, recurses := true, plainKeys := false, apart := false, narrowed := true }
def FstMarksUptoSaid : Prop := fstMarksUptoRow.holds Try.pinned (OpenSpec.upto fstMarksSpec)

/-- 'shibbolethlaw14.FstSingle', WHERE WHAT IT READS IS OF BULK AT MOST 1048576: true; the input reads as it did. -/
def fstSingleUptoRow : OpenClaim := { program := "ytpdanfggijmnmaa", sum := "5061cc9c017c02ef71bf315d3bb194df67fd9ad74bdefe5e3223e2eb6b86be89", func := "shibboleth/shibbolethlaw14.FstSingle", spec := "fstSingle", unfollowed := true, recurses := true, plainKeys := false, apart := false, narrowed := true }
def FstSingleUptoSaid : Prop := fstSingleUptoRow.holds Try.pinned (OpenSpec.upto fstSingleSpec)

/-- 'shibbolethlaw14.FstKnown', WHERE WHAT IT READS IS OF BULK AT MOST 1048576: true; the input reads as it did. -/
def fstKnownUptoRow : OpenClaim := { program := "ytpdanfggijmnmaa", sum := "5061cc9c017c02ef71bf315d3bb194df67fd9ad74bdefe5e3223e2eb6b86be89", func := "shibboleth/shibbolethlaw14.FstKnown", spec := "fstKnown", unfollowed := true, recurses := true, plainKeys := false, apart := false, narrowed := true }
def FstKnownUptoSaid : Prop := fstKnownUptoRow.holds Try.pinned (OpenSpec.upto fstKnownSpec)

/-- 'shibbolethlaw14.FstAll', WHERE WHAT IT READS IS OF BULK AT MOST 1048576: true; the input reads as it did. -/
def fstAllUptoRow : OpenClaim := { program := "ytpdanfggijmnmaa", sum := "5061cc9c017c02ef71bf315d3bb194df67fd9ad74bdefe5e3223e2eb6b86be89", func := "shibboleth/shibbolethlaw14.FstAll", spec := "fstAll", unfollowed := true, recurses := true, plainKeys := false, apart := false, narrowed := true }
def FstAllUptoSaid : Prop := fstAllUptoRow.holds Try.pinned (OpenSpec.upto fstAllSpec)

/-- 'shibbolethlaw14.FstFields', WHERE WHAT IT READS IS OF BULK AT MOST 1048576: true; the input reads as it did. -/
def fstFieldsUptoRow : OpenClaim := { program := "ytpdanfggijmnmaa", sum := "5061cc9c017c02ef71bf315d3bb194df67fd9ad74bdefe5e3223e2eb6b86be89", func := "shibboleth/shibbolethlaw14.FstFields", spec := "fstFields", unfollowed := true, recurses := true, plainKeys := false, apart := false, narrowed := true }
def FstFieldsUptoSaid : Prop := fstFieldsUptoRow.holds Try.pinned (OpenSpec.upto fstFieldsSpec)

/-- 'shibbolethlaw14.FstTrims', WHERE WHAT IT READS IS OF BULK AT MOST 1048576: true; the input reads as it did. -/
def fstTrimsUptoRow : OpenClaim := { program := "ytpdanfggijmnmaa", sum := "5061cc9c017c02ef71bf315d3bb194df67fd9ad74bdefe5e3223e2eb6b86be89", func := "shibboleth/shibbolethlaw14.FstTrims", spec := "fstTrims", unfollowed := true, recurses := true, plainKeys := false, apart := false, narrowed := true }
def FstTrimsUptoSaid : Prop := fstTrimsUptoRow.holds Try.pinned (OpenSpec.upto fstTrimsSpec)

end Rows
end Go.Proofs.Ytpdanfggijmnmaa
