/-
  No cell of these rows narrows 'for every input' (looked for: loops, veiled, ifaces, maps, wideKeys, modest, calm, conditions, laid).
  DERIVED. THE GIVEN ROWS OF THIS SEAT. 6 by the template 'for every input the law returns true; each argument reads behind the call as it read before'; 0 by the template 'total and deterministic' (their statements: YtgpkkkekmimoeaaTotals.lean).
  GIVEN WITH THE SEED: the statements are not yours to turn. If you find one false, say at which input.
  Laid BY PROGRAM, IN A SANDBOX (cutbox-rows.mjs): the forced cells as the released guide's own fill.sh prints them over the translation b0e3446981c05e82… (all of the seat's roots in one cut). By AI agents, Wed Nov 11 2026. No macro, syntax, notation, axiom, sorry.
-/
import Derived.Test.YtgpkkkekmimoeaaChecked
import GoSem.Claim
import GoSem.ClaimJoined
import GoSem.ClaimMapViews
import Derived.JoinedTies
import Derived.KernelRfl
namespace Go.Proofs.Ytgpkkkekmimoeaa
/- THE CELL 'sum', in the pinned program and in every row, IS THE sha256 OF THE DUMP (.gsa) THAT YtgpkkkekmimoeaaProg.lean LOADS. Nothing in Lean hashes anything: it is a label: what it is worth is what the hold of that sum in a sandbox is worth. -/
noncomputable def Try.pinned : Pinned := { name := "ytgpkkkekmimoeaa", sum := "b0e3446981c05e82a583ef73a3e734ed90366ee9cd292b5bfa23156bbc5e7d25", checked := Try.checked }
namespace Rows
def none {H : Type} : Left H := { results := [], args := [] }

/-- 'shibbolethlaw17.ShapeMakes': WHATEVER THE INPUT: true; the input reads as it did. -/
def shapeMakesSpec : ChangeSpec := { name := "shapeMakes", fn := fun _ => fun
  | [d1, d2] => { results := [.lit (.bool true)], args := [d1, d2] }
  | _ => none }
def shapeMakesRow : OpenClaim := { program := "ytgpkkkekmimoeaa", sum := "b0e3446981c05e82a583ef73a3e734ed90366ee9cd292b5bfa23156bbc5e7d25", func := "shibboleth/shibbolethlaw17.ShapeMakes", spec := "shapeMakes", unfollowed := true, recurses := true, apart := false }
def ShapeMakesSaid : Prop := shapeMakesRow.holds Try.pinned (OpenSpec.ofChange shapeMakesSpec)

/-- ITS FALSE NEIGHBOUR: 'it returns false'. Refute it at one input. -/
def shapeMakesWrong : ChangeSpec := { name := "shapeMakes", fn := fun _ => fun
  | [d1, d2] => { results := [.lit (.bool false)], args := [d1, d2] }
  | _ => none }
def ShapeMakesWrongFalsely : Prop := shapeMakesRow.holds Try.pinned (OpenSpec.ofChange shapeMakesWrong)

/-- 'shibbolethlaw17.ShapeThree': WHATEVER THE INPUT: true; the input reads as it did. -/
def shapeThreeSpec : ChangeSpec := { name := "shapeThree", fn := fun _ => fun
  | [d1, d2, d3] => { results := [.lit (.bool true)], args := [d1, d2, d3] }
  | _ => none }
def shapeThreeRow : OpenClaim := { program := "ytgpkkkekmimoeaa", sum := "b0e3446981c05e82a583ef73a3e734ed90366ee9cd292b5bfa23156bbc5e7d25", func := "shibboleth/shibbolethlaw17.ShapeThree", spec := "shapeThree", unfollowed := true, recurses := true, apart := false }
def ShapeThreeSaid : Prop := shapeThreeRow.holds Try.pinned (OpenSpec.ofChange shapeThreeSpec)

/-- ITS FALSE NEIGHBOUR: 'it returns false'. Refute it at one input. -/
def shapeThreeWrong : ChangeSpec := { name := "shapeThree", fn := fun _ => fun
  | [d1, d2, d3] => { results := [.lit (.bool false)], args := [d1, d2, d3] }
  | _ => none }
def ShapeThreeWrongFalsely : Prop := shapeThreeRow.holds Try.pinned (OpenSpec.ofChange shapeThreeWrong)

/-- 'shibbolethlaw15.WrapLeft': WHATEVER THE INPUT: true; the input reads as it did. -/
def wrapLeftSpec : ChangeSpec := { name := "wrapLeft", fn := fun _ => fun
  | [d1, d2, d3, d4] => { results := [.lit (.bool true)], args := [d1, d2, d3, d4] }
  | _ => none }
def wrapLeftRow : OpenClaim := { program := "ytgpkkkekmimoeaa", sum := "b0e3446981c05e82a583ef73a3e734ed90366ee9cd292b5bfa23156bbc5e7d25", func := "shibboleth/shibbolethlaw15.WrapLeft", spec := "wrapLeft", unfollowed := true, recurses := true, apart := false }
def WrapLeftSaid : Prop := wrapLeftRow.holds Try.pinned (OpenSpec.ofChange wrapLeftSpec)

/-- ITS FALSE NEIGHBOUR: 'it returns false'. Refute it at one input. -/
def wrapLeftWrong : ChangeSpec := { name := "wrapLeft", fn := fun _ => fun
  | [d1, d2, d3, d4] => { results := [.lit (.bool false)], args := [d1, d2, d3, d4] }
  | _ => none }
def WrapLeftWrongFalsely : Prop := wrapLeftRow.holds Try.pinned (OpenSpec.ofChange wrapLeftWrong)

/-- 'shibbolethlaw15.WrapTakes': WHATEVER THE INPUT: true; the input reads as it did. -/
def wrapTakesSpec : ChangeSpec := { name := "wrapTakes", fn := fun _ => fun
  | [d1, d2, d3, d4, d5] => { results := [.lit (.bool true)], args := [d1, d2, d3, d4, d5] }
  | _ => none }
def wrapTakesRow : OpenClaim := { program := "ytgpkkkekmimoeaa", sum := "b0e3446981c05e82a583ef73a3e734ed90366ee9cd292b5bfa23156bbc5e7d25", func := "shibboleth/shibbolethlaw15.WrapTakes", spec := "wrapTakes", unfollowed := true, recurses := true, apart := false }
def WrapTakesSaid : Prop := wrapTakesRow.holds Try.pinned (OpenSpec.ofChange wrapTakesSpec)

/-- ITS FALSE NEIGHBOUR: 'it returns false'. Refute it at one input. -/
def wrapTakesWrong : ChangeSpec := { name := "wrapTakes", fn := fun _ => fun
  | [d1, d2, d3, d4, d5] => { results := [.lit (.bool false)], args := [d1, d2, d3, d4, d5] }
  | _ => none }
def WrapTakesWrongFalsely : Prop := wrapTakesRow.holds Try.pinned (OpenSpec.ofChange wrapTakesWrong)

/-- 'shibbolethlaw15.WrapKnown': WHATEVER THE INPUT: true; the input reads as it did. -/
def wrapKnownSpec : ChangeSpec := { name := "wrapKnown", fn := fun _ => fun
  | [] => { results := [.lit (.bool true)], args := [] }
  | _ => none }
def wrapKnownRow : OpenClaim := { program := "ytgpkkkekmimoeaa", sum := "b0e3446981c05e82a583ef73a3e734ed90366ee9cd292b5bfa23156bbc5e7d25", func := "shibboleth/shibbolethlaw15.WrapKnown", spec := "wrapKnown", unfollowed := true, recurses := true, apart := false }
def WrapKnownSaid : Prop := wrapKnownRow.holds Try.pinned (OpenSpec.ofChange wrapKnownSpec)

/-- ITS FALSE NEIGHBOUR: 'it returns false'. Refute it at one input. -/
def wrapKnownWrong : ChangeSpec := { name := "wrapKnown", fn := fun _ => fun
  | [] => { results := [.lit (.bool false)], args := [] }
  | _ => none }
def WrapKnownWrongFalsely : Prop := wrapKnownRow.holds Try.pinned (OpenSpec.ofChange wrapKnownWrong)

/-- 'shibbolethlaw17.ShapeKnown': WHATEVER THE INPUT: true; the input reads as it did. -/
def shapeKnownSpec : ChangeSpec := { name := "shapeKnown", fn := fun _ => fun
  | [] => { results := [.lit (.bool true)], args := [] }
  | _ => none }
def shapeKnownRow : OpenClaim := { program := "ytgpkkkekmimoeaa", sum := "b0e3446981c05e82a583ef73a3e734ed90366ee9cd292b5bfa23156bbc5e7d25", func := "shibboleth/shibbolethlaw17.ShapeKnown", spec := "shapeKnown", unfollowed := true, recurses := true, apart := false }
def ShapeKnownSaid : Prop := shapeKnownRow.holds Try.pinned (OpenSpec.ofChange shapeKnownSpec)

/-- ITS FALSE NEIGHBOUR: 'it returns false'. Refute it at one input. -/
def shapeKnownWrong : ChangeSpec := { name := "shapeKnown", fn := fun _ => fun
  | [] => { results := [.lit (.bool false)], args := [] }
  | _ => none }
def ShapeKnownWrongFalsely : Prop := shapeKnownRow.holds Try.pinned (OpenSpec.ofChange shapeKnownWrong)

/- THE SECOND FORM. 'bulk': how many values and letters a reading holds, each counted each time it is reached (what is shared counts as often as it is met; a slice's spare places count too). A statement '..UptoSaid' is the law's where the arguments, and the package variables that the reading takes, are together of bulk at most 1048576: NARROWER than '..Said'. Prove '..Said' where nothing that the law and all that it calls make is longer than what came in: it says more and counts as full. Else prove '..UptoSaid'. A law counts once. -/
mutual
def uptoBulk {H : Type} : DataW H → Nat
  | .lit (.string bytes) => bytes.length + 1
  | .lit _ => 1
  | .nil => 1
  | .ptr d => uptoBulk d + 1
  | .slice elems spare => uptoBulkAll elems + uptoBulkAll spare + 1
  | .agg parts => uptoBulkAll parts + 1
  | .iface _ d => uptoBulk d + 1
  | .map entries => uptoBulkEntries entries + 1
  | .held _ => 1
def uptoBulkAll {H : Type} : List (DataW H) → Nat
  | [] => 0
  | d :: r => uptoBulk d + uptoBulkAll r
def uptoBulkEntries {H : Type} : List (Lit × DataW H) → Nat
  | [] => 0
  | x :: r => uptoBulkEntry x + uptoBulkEntries r
def uptoBulkEntry {H : Type} : Lit × DataW H → Nat
  | (.string bytes, d) => bytes.length + uptoBulk d + 1
  | (_, d) => uptoBulk d + 1
 end
def uptoSmall : (H : Type) → List (DataW H) → Bool := fun _ ds => decide (uptoBulkAll ds ≤ 1048576)
def OpenSpec.upto (s : _root_.Go.ChangeSpec) : _root_.Go.OpenSpec := { _root_.Go.OpenSpec.ofChange s with cond := some uptoSmall }

/-- 'shibbolethlaw17.ShapeMakes', WHERE WHAT IT READS IS OF BULK AT MOST 1048576: true; the input reads as it did. -/
def shapeMakesUptoRow : OpenClaim := { program := "ytgpkkkekmimoeaa", sum := "b0e3446981c05e82a583ef73a3e734ed90366ee9cd292b5bfa23156bbc5e7d25", func := "shibboleth/shibbolethlaw17.ShapeMakes", spec := "shapeMakes", unfollowed := true, recurses := true, apart := false, narrowed := true }
def ShapeMakesUptoSaid : Prop := shapeMakesUptoRow.holds Try.pinned (OpenSpec.upto shapeMakesSpec)

/-- 'shibbolethlaw17.ShapeThree', WHERE WHAT IT READS IS OF BULK AT MOST 1048576: true; the input reads as it did. -/
def shapeThreeUptoRow : OpenClaim := { program := "ytgpkkkekmimoeaa", sum := "b0e3446981c05e82a583ef73a3e734ed90366ee9cd292b5bfa23156bbc5e7d25", func := "shibboleth/shibbolethlaw17.ShapeThree", spec := "shapeThree", unfollowed := true, recurses := true, apart := false, narrowed := true }
def ShapeThreeUptoSaid : Prop := shapeThreeUptoRow.holds Try.pinned (OpenSpec.upto shapeThreeSpec)

/-- 'shibbolethlaw15.WrapLeft', WHERE WHAT IT READS IS OF BULK AT MOST 1048576: true; the input reads as it did. -/
def wrapLeftUptoRow : OpenClaim := { program := "ytgpkkkekmimoeaa", sum := "b0e3446981c05e82a583ef73a3e734ed90366ee9cd292b5bfa23156bbc5e7d25", func := "shibboleth/shibbolethlaw15.WrapLeft", spec := "wrapLeft", unfollowed := true, recurses := true, apart := false, narrowed := true }
def WrapLeftUptoSaid : Prop := wrapLeftUptoRow.holds Try.pinned (OpenSpec.upto wrapLeftSpec)

/-- 'shibbolethlaw15.WrapTakes', WHERE WHAT IT READS IS OF BULK AT MOST 1048576: true; the input reads as it did. -/
def wrapTakesUptoRow : OpenClaim := { program := "ytgpkkkekmimoeaa", sum := "b0e3446981c05e82a583ef73a3e734ed90366ee9cd292b5bfa23156bbc5e7d25", func := "shibboleth/shibbolethlaw15.WrapTakes", spec := "wrapTakes", unfollowed := true, recurses := true, apart := false, narrowed := true }
def WrapTakesUptoSaid : Prop := wrapTakesUptoRow.holds Try.pinned (OpenSpec.upto wrapTakesSpec)

/-- 'shibbolethlaw15.WrapKnown', WHERE WHAT IT READS IS OF BULK AT MOST 1048576: true; the input reads as it did. -/
def wrapKnownUptoRow : OpenClaim := { program := "ytgpkkkekmimoeaa", sum := "b0e3446981c05e82a583ef73a3e734ed90366ee9cd292b5bfa23156bbc5e7d25", func := "shibboleth/shibbolethlaw15.WrapKnown", spec := "wrapKnown", unfollowed := true, recurses := true, apart := false, narrowed := true }
def WrapKnownUptoSaid : Prop := wrapKnownUptoRow.holds Try.pinned (OpenSpec.upto wrapKnownSpec)

/-- 'shibbolethlaw17.ShapeKnown', WHERE WHAT IT READS IS OF BULK AT MOST 1048576: true; the input reads as it did. -/
def shapeKnownUptoRow : OpenClaim := { program := "ytgpkkkekmimoeaa", sum := "b0e3446981c05e82a583ef73a3e734ed90366ee9cd292b5bfa23156bbc5e7d25", func := "shibboleth/shibbolethlaw17.ShapeKnown", spec := "shapeKnown", unfollowed := true, recurses := true, apart := false, narrowed := true }
def ShapeKnownUptoSaid : Prop := shapeKnownUptoRow.holds Try.pinned (OpenSpec.upto shapeKnownSpec)

end Rows
end Go.Proofs.Ytgpkkkekmimoeaa
