/-
  No cell of these rows narrows 'for every input' (looked for: loops, veiled, ifaces, maps, wideKeys, modest, calm, conditions, laid).
  DERIVED. THE GIVEN ROWS OF THIS SEAT. 8 by the template 'for every input the law returns true; each argument reads behind the call as it read before'; 0 by the template 'total and deterministic' (their statements: YtijjdgmcjienlaaTotals.lean).
  GIVEN WITH THE SEED: the statements are not yours to turn. If you find one false, say at which input.
  Laid BY PROGRAM, IN A SANDBOX (cutbox-rows.mjs): the forced cells as the released guide's own fill.sh prints them over the translation 14fd3dd9b81e08ae… (all of the seat's roots in one cut). By AI agents, Wed Nov 11 2026. No macro, syntax, notation, axiom, sorry.
-/
import Derived.Test.YtijjdgmcjienlaaChecked
import GoSem.Claim
import GoSem.ClaimJoined
import GoSem.ClaimMapViews
import Derived.JoinedTies
import Derived.KernelRfl
namespace Go.Proofs.Ytijjdgmcjienlaa
/- THE CELL 'sum', in the pinned program and in every row, IS THE sha256 OF THE DUMP (.gsa) THAT YtijjdgmcjienlaaProg.lean LOADS. Nothing in Lean hashes anything: it is a label: what it is worth is what the hold of that sum in a sandbox is worth. -/
noncomputable def Try.pinned : Pinned := { name := "ytijjdgmcjienlaa", sum := "14fd3dd9b81e08aef503e3757b9b27c78dc3ab587d56678f0dbf2bcc8ba53784", checked := Try.checked }
namespace Rows
def none {H : Type} : Left H := { results := [], args := [] }

/-- 'batonlaw19.LeaseJudges': WHATEVER THE INPUT: true; the input reads as it did. -/
def leaseJudgesSpec : ChangeSpec := { name := "leaseJudges", fn := fun _ => fun
  | [d1, d2, d3, d4, d5, d6] => { results := [.lit (.bool true)], args := [d1, d2, d3, d4, d5, d6] }
  | _ => none }
def leaseJudgesRow : OpenClaim := { program := "ytijjdgmcjienlaa", sum := "14fd3dd9b81e08aef503e3757b9b27c78dc3ab587d56678f0dbf2bcc8ba53784", func := "baton/batonlaw19.LeaseJudges", spec := "leaseJudges", unfollowed := true, recurses := true, apart := false }
def LeaseJudgesSaid : Prop := leaseJudgesRow.holds Try.pinned (OpenSpec.ofChange leaseJudgesSpec)

/-- ITS FALSE NEIGHBOUR: 'it returns false'. Refute it at one input. -/
def leaseJudgesWrong : ChangeSpec := { name := "leaseJudges", fn := fun _ => fun
  | [d1, d2, d3, d4, d5, d6] => { results := [.lit (.bool false)], args := [d1, d2, d3, d4, d5, d6] }
  | _ => none }
def LeaseJudgesWrongFalsely : Prop := leaseJudgesRow.holds Try.pinned (OpenSpec.ofChange leaseJudgesWrong)

/-- 'batonlaw19.LeaseApart': WHATEVER THE INPUT: true; the input reads as it did. -/
def leaseApartSpec : ChangeSpec := { name := "leaseApart", fn := fun _ => fun
  | [d1, d2, d3, d4, d5, d6, d7, d8, d9, d10] => { results := [.lit (.bool true)], args := [d1, d2, d3, d4, d5, d6, d7, d8, d9, d10] }
  | _ => none }
def leaseApartRow : OpenClaim := { program := "ytijjdgmcjienlaa", sum := "14fd3dd9b81e08aef503e3757b9b27c78dc3ab587d56678f0dbf2bcc8ba53784", func := "baton/batonlaw19.LeaseApart", spec := "leaseApart", unfollowed := true, recurses := true, apart := false }
def LeaseApartSaid : Prop := leaseApartRow.holds Try.pinned (OpenSpec.ofChange leaseApartSpec)

/-- ITS FALSE NEIGHBOUR: 'it returns false'. Refute it at one input. -/
def leaseApartWrong : ChangeSpec := { name := "leaseApart", fn := fun _ => fun
  | [d1, d2, d3, d4, d5, d6, d7, d8, d9, d10] => { results := [.lit (.bool false)], args := [d1, d2, d3, d4, d5, d6, d7, d8, d9, d10] }
  | _ => none }
def LeaseApartWrongFalsely : Prop := leaseApartRow.holds Try.pinned (OpenSpec.ofChange leaseApartWrong)

/-- 'batonlaw19.LeaseGoes': WHATEVER THE INPUT: true; the input reads as it did. -/
def leaseGoesSpec : ChangeSpec := { name := "leaseGoes", fn := fun _ => fun
  | [d1, d2, d3, d4, d5, d6] => { results := [.lit (.bool true)], args := [d1, d2, d3, d4, d5, d6] }
  | _ => none }
def leaseGoesRow : OpenClaim := { program := "ytijjdgmcjienlaa", sum := "14fd3dd9b81e08aef503e3757b9b27c78dc3ab587d56678f0dbf2bcc8ba53784", func := "baton/batonlaw19.LeaseGoes", spec := "leaseGoes", unfollowed := true, recurses := true, apart := false }
def LeaseGoesSaid : Prop := leaseGoesRow.holds Try.pinned (OpenSpec.ofChange leaseGoesSpec)

/-- ITS FALSE NEIGHBOUR: 'it returns false'. Refute it at one input. -/
def leaseGoesWrong : ChangeSpec := { name := "leaseGoes", fn := fun _ => fun
  | [d1, d2, d3, d4, d5, d6] => { results := [.lit (.bool false)], args := [d1, d2, d3, d4, d5, d6] }
  | _ => none }
def LeaseGoesWrongFalsely : Prop := leaseGoesRow.holds Try.pinned (OpenSpec.ofChange leaseGoesWrong)

/-- 'batonlaw19.LeaseWhose': WHATEVER THE INPUT: true; the input reads as it did. -/
def leaseWhoseSpec : ChangeSpec := { name := "leaseWhose", fn := fun _ => fun
  | [d1, d2, d3, d4, d5] => { results := [.lit (.bool true)], args := [d1, d2, d3, d4, d5] }
  | _ => none }
def leaseWhoseRow : OpenClaim := { program := "ytijjdgmcjienlaa", sum := "14fd3dd9b81e08aef503e3757b9b27c78dc3ab587d56678f0dbf2bcc8ba53784", func := "baton/batonlaw19.LeaseWhose", spec := "leaseWhose", unfollowed := true, recurses := true, apart := false }
def LeaseWhoseSaid : Prop := leaseWhoseRow.holds Try.pinned (OpenSpec.ofChange leaseWhoseSpec)

/-- ITS FALSE NEIGHBOUR: 'it returns false'. Refute it at one input. -/
def leaseWhoseWrong : ChangeSpec := { name := "leaseWhose", fn := fun _ => fun
  | [d1, d2, d3, d4, d5] => { results := [.lit (.bool false)], args := [d1, d2, d3, d4, d5] }
  | _ => none }
def LeaseWhoseWrongFalsely : Prop := leaseWhoseRow.holds Try.pinned (OpenSpec.ofChange leaseWhoseWrong)

/-- 'batonlaw19.LeaseIdle': WHATEVER THE INPUT: true; the input reads as it did. -/
def leaseIdleSpec : ChangeSpec := { name := "leaseIdle", fn := fun _ => fun
  | [d1, d2, d3, d4, d5] => { results := [.lit (.bool true)], args := [d1, d2, d3, d4, d5] }
  | _ => none }
def leaseIdleRow : OpenClaim := { program := "ytijjdgmcjienlaa", sum := "14fd3dd9b81e08aef503e3757b9b27c78dc3ab587d56678f0dbf2bcc8ba53784", func := "baton/batonlaw19.LeaseIdle", spec := "leaseIdle", unfollowed := true, recurses := true, apart := false }
def LeaseIdleSaid : Prop := leaseIdleRow.holds Try.pinned (OpenSpec.ofChange leaseIdleSpec)

/-- ITS FALSE NEIGHBOUR: 'it returns false'. Refute it at one input. -/
def leaseIdleWrong : ChangeSpec := { name := "leaseIdle", fn := fun _ => fun
  | [d1, d2, d3, d4, d5] => { results := [.lit (.bool false)], args := [d1, d2, d3, d4, d5] }
  | _ => none }
def LeaseIdleWrongFalsely : Prop := leaseIdleRow.holds Try.pinned (OpenSpec.ofChange leaseIdleWrong)

/-- 'batonlaw19.LeaseNames': WHATEVER THE INPUT: true; the input reads as it did. -/
def leaseNamesSpec : ChangeSpec := { name := "leaseNames", fn := fun _ => fun
  | [] => { results := [.lit (.bool true)], args := [] }
  | _ => none }
def leaseNamesRow : OpenClaim := { program := "ytijjdgmcjienlaa", sum := "14fd3dd9b81e08aef503e3757b9b27c78dc3ab587d56678f0dbf2bcc8ba53784", func := "baton/batonlaw19.LeaseNames", spec := "leaseNames", unfollowed := true, recurses := true, apart := false }
def LeaseNamesSaid : Prop := leaseNamesRow.holds Try.pinned (OpenSpec.ofChange leaseNamesSpec)

/-- ITS FALSE NEIGHBOUR: 'it returns false'. Refute it at one input. -/
def leaseNamesWrong : ChangeSpec := { name := "leaseNames", fn := fun _ => fun
  | [] => { results := [.lit (.bool false)], args := [] }
  | _ => none }
def LeaseNamesWrongFalsely : Prop := leaseNamesRow.holds Try.pinned (OpenSpec.ofChange leaseNamesWrong)

/-- 'batonlaw19.LeaseConfigs': WHATEVER THE INPUT: true; the input reads as it did. -/
def leaseConfigsSpec : ChangeSpec := { name := "leaseConfigs", fn := fun _ => fun
  | [d1, d2, d3, d4, d5] => { results := [.lit (.bool true)], args := [d1, d2, d3, d4, d5] }
  | _ => none }
def leaseConfigsRow : OpenClaim := { program := "ytijjdgmcjienlaa", sum := "14fd3dd9b81e08aef503e3757b9b27c78dc3ab587d56678f0dbf2bcc8ba53784", func := "baton/batonlaw19.LeaseConfigs", spec := "leaseConfigs", unfollowed := true, recurses := true, apart := false }
def LeaseConfigsSaid : Prop := leaseConfigsRow.holds Try.pinned (OpenSpec.ofChange leaseConfigsSpec)

/-- ITS FALSE NEIGHBOUR: 'it returns false'. Refute it at one input. -/
def leaseConfigsWrong : ChangeSpec := { name := "leaseConfigs", fn := fun _ => fun
  | [d1, d2, d3, d4, d5] => { results := [.lit (.bool false)], args := [d1, d2, d3, d4, d5] }
  | _ => none }
def LeaseConfigsWrongFalsely : Prop := leaseConfigsRow.holds Try.pinned (OpenSpec.ofChange leaseConfigsWrong)

/-- 'batonlaw19.LeaseDraws': WHATEVER THE INPUT: true; the input reads as it did. -/
def leaseDrawsSpec : ChangeSpec := { name := "leaseDraws", fn := fun _ => fun
  | [d1, d2, d3, d4, d5] => { results := [.lit (.bool true)], args := [d1, d2, d3, d4, d5] }
  | _ => none }
def leaseDrawsRow : OpenClaim := { program := "ytijjdgmcjienlaa", sum := "14fd3dd9b81e08aef503e3757b9b27c78dc3ab587d56678f0dbf2bcc8ba53784", func := "baton/batonlaw19.LeaseDraws", spec := "leaseDraws", unfollowed := true, recurses := true, apart := false }
def LeaseDrawsSaid : Prop := leaseDrawsRow.holds Try.pinned (OpenSpec.ofChange leaseDrawsSpec)

/-- ITS FALSE NEIGHBOUR: 'it returns false'. Refute it at one input. -/
def leaseDrawsWrong : ChangeSpec := { name := "leaseDraws", fn := fun _ => fun
  | [d1, d2, d3, d4, d5] => { results := [.lit (.bool false)], args := [d1, d2, d3, d4, d5] }
  | _ => none }
def LeaseDrawsWrongFalsely : Prop := leaseDrawsRow.holds Try.pinned (OpenSpec.ofChange leaseDrawsWrong)

/- THE SECOND FORM. 'bulk': how many values and letters a reading holds, each counted each time it is reached (what is shared counts as often as it is met; a slice's spare places count too). A statement '..UptoSaid' is the law's where the arguments, and the package variables that the reading takes, are together of bulk at most 1048576: NARROWER than '..Said'. Prove '..Said' where nothing that the law and all that it calls make is longer than what came in: it says more and counts as full. Else prove '..UptoSaid'. A law counts once. -/
mutual
def uptoBulk {H : Type} : DataW H → Nat
  | .lit (.string bytes) => bytes.length + 1
  | .lit _ => 1
  | .nil => 1
  | .ptr d => uptoBulk d + 1
  | .slice elems spare => uptoBulkAll elems + uptoBulkAll spare + 1
  | .agg parts => uptoBulkAll parts + 1
  | .iface _ d => uptoBulk d + 1
  | .map entries => uptoBulkEntries entries + 1
  | .held _ => 1
def uptoBulkAll {H : Type} : List (DataW H) → Nat
  | [] => 0
  | d :: r => uptoBulk d + uptoBulkAll r
def uptoBulkEntries {H : Type} : List (Lit × DataW H) → Nat
  | [] => 0
  | x :: r => uptoBulkEntry x + uptoBulkEntries r
def uptoBulkEntry {H : Type} : Lit × DataW H → Nat
  | (.string bytes, d) => bytes.length + uptoBulk d + 1
  | (_, d) => uptoBulk d + 1
 end
def uptoSmall : (H : Type) → List (DataW H) → Bool := fun _ ds => decide (uptoBulkAll ds ≤ 1048576)
def OpenSpec.upto (s : _root_.Go.ChangeSpec) : _root_.Go.OpenSpec := { _root_.Go.OpenSpec.ofChange s with cond := some uptoSmall }

/-- 'batonlaw19.LeaseJudges', WHERE WHAT IT READS IS OF BULK AT MOST 1048576: true; the input reads as it did. -/
def leaseJudgesUptoRow : OpenClaim := { program := "ytijjdgmcjienlaa", sum := "14fd3dd9b81e08aef503e3757b9b27c78dc3ab587d56678f0dbf2bcc8ba53784", func := "baton/batonlaw19.LeaseJudges", spec := "leaseJudges", unfollowed := true, recurses := true, apart := false, narrowed := true }
def LeaseJudgesUptoSaid : Prop := leaseJudgesUptoRow.holds Try.pinned (OpenSpec.upto leaseJudgesSpec)

/-- 'batonlaw19.LeaseApart', WHERE WHAT IT READS IS OF BULK AT MOST 1048576: true; the input reads as it did. -/
def leaseApartUptoRow : OpenClaim := { program := "ytijjdgmcjienlaa", sum := "14fd3dd9b81e08aef503e3757b9b27c78dc3ab587d56678f0dbf2bcc8ba53784", func := "baton/batonlaw19.LeaseApart", spec := "leaseApart", unfollowed := true, recurses := true, apart := false, narrowed := true }
def LeaseApartUptoSaid : Prop := leaseApartUptoRow.holds Try.pinned (OpenSpec.upto leaseApartSpec)

/-- 'batonlaw19.LeaseGoes', WHERE WHAT IT READS IS OF BULK AT MOST 1048576: true; the input reads as it did. -/
def leaseGoesUptoRow : OpenClaim := { program := "ytijjdgmcjienlaa", sum := "14fd3dd9b81e08aef503e3757b9b27c78dc3ab587d56678f0dbf2bcc8ba53784", func := "baton/batonlaw19.LeaseGoes", spec := "leaseGoes", unfollowed := true, recurses := true, apart := false, narrowed := true }
def LeaseGoesUptoSaid : Prop := leaseGoesUptoRow.holds Try.pinned (OpenSpec.upto leaseGoesSpec)

/-- 'batonlaw19.LeaseWhose', WHERE WHAT IT READS IS OF BULK AT MOST 1048576: true; the input reads as it did. -/
def leaseWhoseUptoRow : OpenClaim := { program := "ytijjdgmcjienlaa", sum := "14fd3dd9b81e08aef503e3757b9b27c78dc3ab587d56678f0dbf2bcc8ba53784", func := "baton/batonlaw19.LeaseWhose", spec := "leaseWhose", unfollowed := true, recurses := true, apart := false, narrowed := true }
def LeaseWhoseUptoSaid : Prop := leaseWhoseUptoRow.holds Try.pinned (OpenSpec.upto leaseWhoseSpec)

/-- 'batonlaw19.LeaseIdle', WHERE WHAT IT READS IS OF BULK AT MOST 1048576: true; the input reads as it did. -/
def leaseIdleUptoRow : OpenClaim := { program := "ytijjdgmcjienlaa", sum := "14fd3dd9b81e08aef503e3757b9b27c78dc3ab587d56678f0dbf2bcc8ba53784", func := "baton/batonlaw19.LeaseIdle", spec := "leaseIdle", unfollowed := true, recurses := true, apart := false, narrowed := true }
def LeaseIdleUptoSaid : Prop := leaseIdleUptoRow.holds Try.pinned (OpenSpec.upto leaseIdleSpec)

/-- 'batonlaw19.LeaseNames', WHERE WHAT IT READS IS OF BULK AT MOST 1048576: true; the input reads as it did. -/
def leaseNamesUptoRow : OpenClaim := { program := "ytijjdgmcjienlaa", sum := "14fd3dd9b81e08aef503e3757b9b27c78dc3ab587d56678f0dbf2bcc8ba53784", func := "baton/batonlaw19.LeaseNames", spec := "leaseNames", unfollowed := true, recurses := true, apart := false, narrowed := true }
def LeaseNamesUptoSaid : Prop := leaseNamesUptoRow.holds Try.pinned (OpenSpec.upto leaseNamesSpec)

/-- 'batonlaw19.LeaseConfigs', WHERE WHAT IT READS IS OF BULK AT MOST 1048576: true; the input reads as it did. -/
def leaseConfigsUptoRow : OpenClaim := { program := "ytijjdgmcjienlaa", sum := "14fd3dd9b81e08aef503e3757b9b27c78dc3ab587d56678f0dbf2bcc8ba53784", func := "baton/batonlaw19.LeaseConfigs", spec := "leaseConfigs", unfollowed := true, recurses := true, apart := false, narrowed := true }
def LeaseConfigsUptoSaid : Prop := leaseConfigsUptoRow.holds Try.pinned (OpenSpec.upto leaseConfigsSpec)

/-- 'batonlaw19.LeaseDraws', WHERE WHAT IT READS IS OF BULK AT MOST 1048576: true; the input reads as it did. -/
def leaseDrawsUptoRow : OpenClaim := { program := "ytijjdgmcjienlaa", sum := "14fd3dd9b81e08aef503e3757b9b27c78dc3ab587d56678f0dbf2bcc8ba53784", func := "baton/batonlaw19.LeaseDraws", spec := "leaseDraws", unfollowed := true, recurses := true, apart := false, narrowed := true }
def LeaseDrawsUptoSaid : Prop := leaseDrawsUptoRow.holds Try.pinned (OpenSpec.upto leaseDrawsSpec)

end Rows
end Go.Proofs.Ytijjdgmcjienlaa
