/-
  No cell of these rows narrows 'for every input' (looked for: loops, veiled, ifaces, maps, wideKeys, modest, calm, conditions, laid).
  DERIVED. THE GIVEN ROWS OF THIS SEAT. 4 by the template 'for every input the law returns true; each argument reads behind the call as it read before'; 0 by the template 'total and deterministic' (their statements: YtlcmimjdnhjeoaaTotals.lean).
  GIVEN WITH THE SEED: the statements are not yours to turn. If you find one false, say at which input.
  Laid BY PROGRAM, IN A SANDBOX (cutbox-rows.mjs): the forced cells as the released guide's own fill.sh prints them over the translation fd626bbc518738aa… (all of the seat's roots in one cut). By AI agents, Wed Nov 11 2026. No macro, syntax, notation, axiom, sorry.
-/
import Derived.Test.YtlcmimjdnhjeoaaChecked
import GoSem.Claim
import GoSem.ClaimJoined
import GoSem.ClaimMapViews
import Derived.JoinedTies
import Derived.KernelRfl
namespace Go.Proofs.Ytlcmimjdnhjeoaa
/- THE CELL 'sum', in the pinned program and in every row, IS THE sha256 OF THE DUMP (.gsa) THAT YtlcmimjdnhjeoaaProg.lean LOADS. Nothing in Lean hashes anything: it is a label: what it is worth is what the hold of that sum in a sandbox is worth. -/
noncomputable def Try.pinned : Pinned := { name := "ytlcmimjdnhjeoaa", sum := "fd626bbc518738aa19274f50acab26a3b82e14580f0c12f422f95b59b6ca7f44", checked := Try.checked }
namespace Rows
def none {H : Type} : Left H := { results := [], args := [] }

/-- 'shibbolethlaw10.NfaRuns': WHATEVER THE INPUT: true; the input reads as it did. -/
def nfaRunsSpec : ChangeSpec := { name := "nfaRuns", fn := fun _ => fun
  | [d1, d2] => { results := [.lit (.bool true)], args := [d1, d2] }
  | _ => none }
def nfaRunsRow : OpenClaim := { program := "ytlcmimjdnhjeoaa", sum := "fd626bbc518738aa19274f50acab26a3b82e14580f0c12f422f95b59b6ca7f44", func := "shibboleth/shibbolethlaw10.NfaRuns", spec := "nfaRuns", unfollowed := true, recurses := true, apart := false }
def NfaRunsSaid : Prop := nfaRunsRow.holds Try.pinned (OpenSpec.ofChange nfaRunsSpec)

/-- ITS FALSE NEIGHBOUR: 'it returns false'. Refute it at one input. -/
def nfaRunsWrong : ChangeSpec := { name := "nfaRuns", fn := fun _ => fun
  | [d1, d2] => { results := [.lit (.bool false)], args := [d1, d2] }
  | _ => none }
def NfaRunsWrongFalsely : Prop := nfaRunsRow.holds Try.pinned (OpenSpec.ofChange nfaRunsWrong)

/-- 'shibbolethlaw10.NfaOwn': WHATEVER THE INPUT: true; the input reads as it did. -/
def nfaOwnSpec : ChangeSpec := { name := "nfaOwn", fn := fun _ => fun
  | [d] => { results := [.lit (.bool true)], args := [d] }
  | _ => none }
def nfaOwnRow : OpenClaim := { program := "ytlcmimjdnhjeoaa", sum := "fd626bbc518738aa19274f50acab26a3b82e14580f0c12f422f95b59b6ca7f44", func := "shibboleth/shibbolethlaw10.NfaOwn", spec := "nfaOwn", unfollowed := true, recurses := true, apart := false }
def NfaOwnSaid : Prop := nfaOwnRow.holds Try.pinned (OpenSpec.ofChange nfaOwnSpec)

/-- ITS FALSE NEIGHBOUR: 'it returns false'. Refute it at one input. -/
def nfaOwnWrong : ChangeSpec := { name := "nfaOwn", fn := fun _ => fun
  | [d] => { results := [.lit (.bool false)], args := [d] }
  | _ => none }
def NfaOwnWrongFalsely : Prop := nfaOwnRow.holds Try.pinned (OpenSpec.ofChange nfaOwnWrong)

/-- 'shibbolethlaw10.NfaKnown': WHATEVER THE INPUT: true; the input reads as it did. -/
def nfaKnownSpec : ChangeSpec := { name := "nfaKnown", fn := fun _ => fun
  | [] => { results := [.lit (.bool true)], args := [] }
  | _ => none }
def nfaKnownRow : OpenClaim := { program := "ytlcmimjdnhjeoaa", sum := "fd626bbc518738aa19274f50acab26a3b82e14580f0c12f422f95b59b6ca7f44", func := "shibboleth/shibbolethlaw10.NfaKnown", spec := "nfaKnown", unfollowed := true, recurses := true, apart := false }
def NfaKnownSaid : Prop := nfaKnownRow.holds Try.pinned (OpenSpec.ofChange nfaKnownSpec)

/-- ITS FALSE NEIGHBOUR: 'it returns false'. Refute it at one input. -/
def nfaKnownWrong : ChangeSpec := { name := "nfaKnown", fn := fun _ => fun
  | [] => { results := [.lit (.bool false)], args := [] }
  | _ => none }
def NfaKnownWrongFalsely : Prop := nfaKnownRow.holds Try.pinned (OpenSpec.ofChange nfaKnownWrong)

/-- 'shibbolethlaw10.NfaTrims': WHATEVER THE INPUT: true; the input reads as it did. -/
def nfaTrimsSpec : ChangeSpec := { name := "nfaTrims", fn := fun _ => fun
  | [d1, d2] => { results := [.lit (.bool true)], args := [d1, d2] }
  | _ => none }
def nfaTrimsRow : OpenClaim := { program := "ytlcmimjdnhjeoaa", sum := "fd626bbc518738aa19274f50acab26a3b82e14580f0c12f422f95b59b6ca7f44", func := "shibboleth/shibbolethlaw10.NfaTrims", spec := "nfaTrims", unfollowed := true, recurses := true, apart := false }
def NfaTrimsSaid : Prop := nfaTrimsRow.holds Try.pinned (OpenSpec.ofChange nfaTrimsSpec)

/-- ITS FALSE NEIGHBOUR: 'it returns false'. Refute it at one input. -/
def nfaTrimsWrong : ChangeSpec := { name := "nfaTrims", fn := fun _ => fun
  | [d1, d2] => { results := [.lit (.bool false)], args := [d1, d2] }
  | _ => none }
def NfaTrimsWrongFalsely : Prop := nfaTrimsRow.holds Try.pinned (OpenSpec.ofChange nfaTrimsWrong)

/- THE SECOND FORM. 'bulk': how many values and letters a reading holds, each counted each time it is reached (what is shared counts as often as it is met; a slice's spare places count too). A statement '..UptoSaid' is the law's where the arguments, and the package variables that the reading takes, are together of bulk at most 1048576: NARROWER than '..Said'. Prove '..Said' where nothing that the law and all that it calls make is longer than what came in: it says more and counts as full. Else prove '..UptoSaid'. A law counts once. -/
mutual
def uptoBulk {H : Type} : DataW H → Nat
  | .lit (.string bytes) => bytes.length + 1
  | .lit _ => 1
  | .nil => 1
  | .ptr d => uptoBulk d + 1
  | .slice elems spare => uptoBulkAll elems + uptoBulkAll spare + 1
  | .agg parts => uptoBulkAll parts + 1
  | .iface _ d => uptoBulk d + 1
  | .map entries => uptoBulkEntries entries + 1
  | .held _ => 1
def uptoBulkAll {H : Type} : List (DataW H) → Nat
  | [] => 0
  | d :: r => uptoBulk d + uptoBulkAll r
def uptoBulkEntries {H : Type} : List (Lit × DataW H) → Nat
  | [] => 0
  | x :: r => uptoBulkEntry x + uptoBulkEntries r
def uptoBulkEntry {H : Type} : Lit × DataW H → Nat
  | (.string bytes, d) => bytes.length + uptoBulk d + 1
  | (_, d) => uptoBulk d + 1
 end
def uptoSmall : (H : Type) → List (DataW H) → Bool := fun _ ds => decide (uptoBulkAll ds ≤ 1048576)
def OpenSpec.upto (s : _root_.Go.ChangeSpec) : _root_.Go.OpenSpec := { _root_.Go.OpenSpec.ofChange s with cond := some uptoSmall }

/-- 'shibbolethlaw10.NfaRuns', WHERE WHAT IT READS IS OF BULK AT MOST 1048576: true; the input reads as it did. -/
def nfaRunsUptoRow : OpenClaim := { program := "ytlcmimjdnhjeoaa", sum := "fd626bbc518738aa19274f50acab26a3b82e14580f0c12f422f95b59b6ca7f44", func := "shibboleth/shibbolethlaw10.NfaRuns", spec := "nfaRuns", unfollowed := true, recurses := true, apart := false, narrowed := true }
def NfaRunsUptoSaid : Prop := nfaRunsUptoRow.holds Try.pinned (OpenSpec.upto nfaRunsSpec)

/-- 'shibbolethlaw10.NfaOwn', WHERE WHAT IT READS IS OF BULK AT MOST 1048576: true; the input reads as it did. -/
def nfaOwnUptoRow : OpenClaim := { program := "ytlcmimjdnhjeoaa", sum := "fd626bbc518738aa19274f50acab26a3b82e14580f0c12f422f95b59b6ca7f44", func := "shibboleth/shibbolethlaw10.NfaOwn", spec := "nfaOwn", unfollowed := true, recurses := true, apart := false, narrowed := true }
def NfaOwnUptoSaid : Prop := nfaOwnUptoRow.holds Try.pinned (OpenSpec.upto nfaOwnSpec)

/-- 'shibbolethlaw10.NfaKnown', WHERE WHAT IT READS IS OF BULK AT MOST 1048576: true; the input reads as it did. -/
def nfaKnownUptoRow : OpenClaim := { program := "ytlcmimjdnhjeoaa", sum := "fd626bbc518738aa19274f50acab26a3b82e14580f0c12f422f95b59b6ca7f44", func := "shibboleth/shibbolethlaw10.NfaKnown", spec := "nfaKnown", unfollowed := true, recurses := true, apart := false, narrowed := true }
def NfaKnownUptoSaid : Prop := nfaKnownUptoRow.holds Try.pinned (OpenSpec.upto nfaKnownSpec)

/-- 'shibbolethlaw10.NfaTrims', WHERE WHAT IT READS IS OF BULK AT MOST 1048576: true; the input reads as it did. -/
def nfaTrimsUptoRow : OpenClaim := { program := "ytlcmimjdnhjeoaa", sum := "fd626bbc518738aa19274f50acab26a3b82e14580f0c12f422f95b59b6ca7f44", func := "shibboleth/shibbolethlaw10.NfaTrims", spec := "nfaTrims", unfollowed := true, recurses := true, apart := false, narrowed := true }
def NfaTrimsUptoSaid : Prop := nfaTrimsUptoRow.holds Try.pinned (OpenSpec.upto nfaTrimsSpec)

end Rows
end Go.Proofs.Ytlcmimjdnhjeoaa
