/-
  No cell of these rows narrows 'for every input' (looked for: loops, veiled, ifaces, maps, wideKeys, modest, calm, conditions, laid).
  DERIVED. THE GIVEN ROWS OF THIS SEAT. 7 by the template 'for every input the law returns true; each argument reads behind the call as it read before'; 0 by the template 'total and deterministic' (their statements: YtjefeoohfalcaaaTotals.lean).
  GIVEN WITH THE SEED: the statements are not yours to turn. If you find one false, say at which input.
  Laid BY PROGRAM, IN A SANDBOX (cutbox-rows.mjs): the forced cells as the released guide's own fill.sh prints them over the translation de29fc2a930e4005… (all of the seat's roots in one cut). By AI agents, Wed Nov 11 2026. No macro, syntax, notation, axiom, sorry.
-/
import Derived.Test.YtjefeoohfalcaaaChecked
import GoSem.Claim
import GoSem.ClaimJoined
import GoSem.ClaimMapViews
import Derived.JoinedTies
import Derived.KernelRfl
namespace Go.Proofs.Ytjefeoohfalcaaa
/- THE CELL 'sum', in the pinned program and in every row, IS THE sha256 OF THE DUMP (.gsa) THAT YtjefeoohfalcaaaProg.lean LOADS. Nothing in Lean hashes anything: it is a label: what it is worth is what the hold of that sum in a sandbox is worth. -/
noncomputable def Try.pinned : Pinned := { name := "ytjefeoohfalcaaa", sum := "de29fc2a930e400548188901fd983e77db825e4d1b0cf87ce649fdd26aa05bbe", checked := Try.checked }
namespace Rows
def none {H : Type} : Left H := { results := [], args := [] }

/-- 'batonlaw16.ClockReadings': WHATEVER THE INPUT: true; the input reads as it did. -/
def clockReadingsSpec : ChangeSpec := { name := "clockReadings", fn := fun _ => fun
  | [d1, d2, d3] => { results := [.lit (.bool true)], args := [d1, d2, d3] }
  | _ => none }
def clockReadingsRow : OpenClaim := { program := "ytjefeoohfalcaaa", sum := "de29fc2a930e400548188901fd983e77db825e4d1b0cf87ce649fdd26aa05bbe", func := "baton/batonlaw16.ClockReadings", spec := "clockReadings", unfollowed := true, recurses := true, apart := false }
def ClockReadingsSaid : Prop := clockReadingsRow.holds Try.pinned (OpenSpec.ofChange clockReadingsSpec)

/-- ITS FALSE NEIGHBOUR: 'it returns false'. Refute it at one input. -/
def clockReadingsWrong : ChangeSpec := { name := "clockReadings", fn := fun _ => fun
  | [d1, d2, d3] => { results := [.lit (.bool false)], args := [d1, d2, d3] }
  | _ => none }
def ClockReadingsWrongFalsely : Prop := clockReadingsRow.holds Try.pinned (OpenSpec.ofChange clockReadingsWrong)

/-- 'batonlaw16.ClockPlays': WHATEVER THE INPUT: true; the input reads as it did. -/
def clockPlaysSpec : ChangeSpec := { name := "clockPlays", fn := fun _ => fun
  | [d1, d2] => { results := [.lit (.bool true)], args := [d1, d2] }
  | _ => none }
def clockPlaysRow : OpenClaim := { program := "ytjefeoohfalcaaa", sum := "de29fc2a930e400548188901fd983e77db825e4d1b0cf87ce649fdd26aa05bbe", func := "baton/batonlaw16.ClockPlays", spec := "clockPlays", unfollowed := true, recurses := true, apart := false }
def ClockPlaysSaid : Prop := clockPlaysRow.holds Try.pinned (OpenSpec.ofChange clockPlaysSpec)

/-- ITS FALSE NEIGHBOUR: 'it returns false'. Refute it at one input. -/
def clockPlaysWrong : ChangeSpec := { name := "clockPlays", fn := fun _ => fun
  | [d1, d2] => { results := [.lit (.bool false)], args := [d1, d2] }
  | _ => none }
def ClockPlaysWrongFalsely : Prop := clockPlaysRow.holds Try.pinned (OpenSpec.ofChange clockPlaysWrong)

/-- 'batonlaw16.TimersOnce': WHATEVER THE INPUT: true; the input reads as it did. -/
def timersOnceSpec : ChangeSpec := { name := "timersOnce", fn := fun _ => fun
  | [d1, d2, d3, d4] => { results := [.lit (.bool true)], args := [d1, d2, d3, d4] }
  | _ => none }
def timersOnceRow : OpenClaim := { program := "ytjefeoohfalcaaa", sum := "de29fc2a930e400548188901fd983e77db825e4d1b0cf87ce649fdd26aa05bbe", func := "baton/batonlaw16.TimersOnce", spec := "timersOnce", unfollowed := true, recurses := true, apart := false }
def TimersOnceSaid : Prop := timersOnceRow.holds Try.pinned (OpenSpec.ofChange timersOnceSpec)

/-- ITS FALSE NEIGHBOUR: 'it returns false'. Refute it at one input. -/
def timersOnceWrong : ChangeSpec := { name := "timersOnce", fn := fun _ => fun
  | [d1, d2, d3, d4] => { results := [.lit (.bool false)], args := [d1, d2, d3, d4] }
  | _ => none }
def TimersOnceWrongFalsely : Prop := timersOnceRow.holds Try.pinned (OpenSpec.ofChange timersOnceWrong)

/-- 'batonlaw16.TimersRow': WHATEVER THE INPUT: true; the input reads as it did. -/
def timersRowSpec : ChangeSpec := { name := "timersRow", fn := fun _ => fun
  | [d1, d2, d3] => { results := [.lit (.bool true)], args := [d1, d2, d3] }
  | _ => none }
def timersRowRow : OpenClaim := { program := "ytjefeoohfalcaaa", sum := "de29fc2a930e400548188901fd983e77db825e4d1b0cf87ce649fdd26aa05bbe", func := "baton/batonlaw16.TimersRow", spec := "timersRow", inPlace := ["maps.clone"], unfollowed := true, recurses := true, apart := false }
def TimersRowSaid : Prop := timersRowRow.holds Try.pinned (OpenSpec.ofChange timersRowSpec)

/-- ITS FALSE NEIGHBOUR: 'it returns false'. Refute it at one input. -/
def timersRowWrong : ChangeSpec := { name := "timersRow", fn := fun _ => fun
  | [d1, d2, d3] => { results := [.lit (.bool false)], args := [d1, d2, d3] }
  | _ => none }
def TimersRowWrongFalsely : Prop := timersRowRow.holds Try.pinned (OpenSpec.ofChange timersRowWrong)

/-- 'batonlaw16.TimersApart': WHATEVER THE INPUT: true; the input reads as it did. -/
def timersApartSpec : ChangeSpec := { name := "timersApart", fn := fun _ => fun
  | [d1, d2, d3] => { results := [.lit (.bool true)], args := [d1, d2, d3] }
  | _ => none }
def timersApartRow : OpenClaim := { program := "ytjefeoohfalcaaa", sum := "de29fc2a930e400548188901fd983e77db825e4d1b0cf87ce649fdd26aa05bbe", func := "baton/batonlaw16.TimersApart", spec := "timersApart", inPlace := ["maps.clone"], unfollowed := true, recurses := true, apart := false }
def TimersApartSaid : Prop := timersApartRow.holds Try.pinned (OpenSpec.ofChange timersApartSpec)

/-- ITS FALSE NEIGHBOUR: 'it returns false'. Refute it at one input. -/
def timersApartWrong : ChangeSpec := { name := "timersApart", fn := fun _ => fun
  | [d1, d2, d3] => { results := [.lit (.bool false)], args := [d1, d2, d3] }
  | _ => none }
def TimersApartWrongFalsely : Prop := timersApartRow.holds Try.pinned (OpenSpec.ofChange timersApartWrong)

/-- 'batonlaw16.TimersPlay': WHATEVER THE INPUT: true; the input reads as it did. -/
def timersPlaySpec : ChangeSpec := { name := "timersPlay", fn := fun _ => fun
  | [d] => { results := [.lit (.bool true)], args := [d] }
  | _ => none }
def timersPlayRow : OpenClaim := { program := "ytjefeoohfalcaaa", sum := "de29fc2a930e400548188901fd983e77db825e4d1b0cf87ce649fdd26aa05bbe", func := "baton/batonlaw16.TimersPlay", spec := "timersPlay", inPlace := ["maps.clone"], unfollowed := true, recurses := true, apart := false }
def TimersPlaySaid : Prop := timersPlayRow.holds Try.pinned (OpenSpec.ofChange timersPlaySpec)

/-- ITS FALSE NEIGHBOUR: 'it returns false'. Refute it at one input. -/
def timersPlayWrong : ChangeSpec := { name := "timersPlay", fn := fun _ => fun
  | [d] => { results := [.lit (.bool false)], args := [d] }
  | _ => none }
def TimersPlayWrongFalsely : Prop := timersPlayRow.holds Try.pinned (OpenSpec.ofChange timersPlayWrong)

/-- 'batonlaw16.ClockNames': WHATEVER THE INPUT: true; the input reads as it did. -/
def clockNamesSpec : ChangeSpec := { name := "clockNames", fn := fun _ => fun
  | [] => { results := [.lit (.bool true)], args := [] }
  | _ => none }
def clockNamesRow : OpenClaim := { program := "ytjefeoohfalcaaa", sum := "de29fc2a930e400548188901fd983e77db825e4d1b0cf87ce649fdd26aa05bbe", func := "baton/batonlaw16.ClockNames", spec := "clockNames", inPlace := ["maps.clone"], unfollowed := true, recurses := true, apart := false }
def ClockNamesSaid : Prop := clockNamesRow.holds Try.pinned (OpenSpec.ofChange clockNamesSpec)

/-- ITS FALSE NEIGHBOUR: 'it returns false'. Refute it at one input. -/
def clockNamesWrong : ChangeSpec := { name := "clockNames", fn := fun _ => fun
  | [] => { results := [.lit (.bool false)], args := [] }
  | _ => none }
def ClockNamesWrongFalsely : Prop := clockNamesRow.holds Try.pinned (OpenSpec.ofChange clockNamesWrong)

/- THE SECOND FORM. 'bulk': how many values and letters a reading holds, each counted each time it is reached (what is shared counts as often as it is met; a slice's spare places count too). A statement '..UptoSaid' is the law's where the arguments, and the package variables that the reading takes, are together of bulk at most 1048576: NARROWER than '..Said'. Prove '..Said' where nothing that the law and all that it calls make is longer than what came in: it says more and counts as full. Else prove '..UptoSaid'. A law counts once. -/
mutual
def uptoBulk {H : Type} : DataW H → Nat
  | .lit (.string bytes) => bytes.length + 1
  | .lit _ => 1
  | .nil => 1
  | .ptr d => uptoBulk d + 1
  | .slice elems spare => uptoBulkAll elems + uptoBulkAll spare + 1
  | .agg parts => uptoBulkAll parts + 1
  | .iface _ d => uptoBulk d + 1
  | .map entries => uptoBulkEntries entries + 1
  | .held _ => 1
def uptoBulkAll {H : Type} : List (DataW H) → Nat
  | [] => 0
  | d :: r => uptoBulk d + uptoBulkAll r
def uptoBulkEntries {H : Type} : List (Lit × DataW H) → Nat
  | [] => 0
  | x :: r => uptoBulkEntry x + uptoBulkEntries r
def uptoBulkEntry {H : Type} : Lit × DataW H → Nat
  | (.string bytes, d) => bytes.length + uptoBulk d + 1
  | (_, d) => uptoBulk d + 1
 end
def uptoSmall : (H : Type) → List (DataW H) → Bool := fun _ ds => decide (uptoBulkAll ds ≤ 1048576)
def OpenSpec.upto (s : _root_.Go.ChangeSpec) : _root_.Go.OpenSpec := { _root_.Go.OpenSpec.ofChange s with cond := some uptoSmall }

/-- 'batonlaw16.ClockReadings', WHERE WHAT IT READS IS OF BULK AT MOST 1048576: true; the input reads as it did. -/
def clockReadingsUptoRow : OpenClaim := { program := "ytjefeoohfalcaaa", sum := "de29fc2a930e400548188901fd983e77db825e4d1b0cf87ce649fdd26aa05bbe", func := "baton/batonlaw16.ClockReadings", spec := "clockReadings", unfollowed := true, recurses := true, apart := false, narrowed := true }
def ClockReadingsUptoSaid : Prop := clockReadingsUptoRow.holds Try.pinned (OpenSpec.upto clockReadingsSpec)

/-- 'batonlaw16.ClockPlays', WHERE WHAT IT READS IS OF BULK AT MOST 1048576: true; the input reads as it did. -/
def clockPlaysUptoRow : OpenClaim := { program := "ytjefeoohfalcaaa", sum := "de29fc2a930e400548188901fd983e77db825e4d1b0cf87ce649fdd26aa05bbe", func := "baton/batonlaw16.ClockPlays", spec := "clockPlays", unfollowed := true, recurses := true, apart := false, narrowed := true }
def ClockPlaysUptoSaid : Prop := clockPlaysUptoRow.holds Try.pinned (OpenSpec.upto clockPlaysSpec)

/-- 'batonlaw16.TimersOnce', WHERE WHAT IT READS IS OF BULK AT MOST 1048576: true; the input reads as it did. -/
def timersOnceUptoRow : OpenClaim := { program := "ytjefeoohfalcaaa", sum := "de29fc2a930e400548188901fd983e77db825e4d1b0cf87ce649fdd26aa05bbe", func := "baton/batonlaw16.TimersOnce", spec := "timersOnce", unfollowed := true, recurses := true, apart := false, narrowed := true }
def TimersOnceUptoSaid : Prop := timersOnceUptoRow.holds Try.pinned (OpenSpec.upto timersOnceSpec)

/-- 'batonlaw16.TimersRow', WHERE WHAT IT READS IS OF BULK AT MOST 1048576: true; the input reads as it did. -/
def timersRowUptoRow : OpenClaim := { program := "ytjefeoohfalcaaa", sum := "de29fc2a930e400548188901fd983e77db825e4d1b0cf87ce649fdd26aa05bbe", func := "baton/batonlaw16.TimersRow", spec := "timersRow", inPlace := ["maps.clone"], unfollowed := true, recurses := true, apart := false, narrowed := true }
def TimersRowUptoSaid : Prop := timersRowUptoRow.holds Try.pinned (OpenSpec.upto timersRowSpec)

/-- 'batonlaw16.TimersApart', WHERE WHAT IT READS IS OF BULK AT MOST 1048576: true; the input reads as it did. -/
def timersApartUptoRow : OpenClaim := { program := "ytjefeoohfalcaaa", sum := "de29fc2a930e400548188901fd983e77db825e4d1b0cf87ce649fdd26aa05bbe", func := "baton/batonlaw16.TimersApart", spec := "timersApart", inPlace := ["maps.clone"], unfollowed := true, recurses := true, apart := false, narrowed := true }
def TimersApartUptoSaid : Prop := timersApartUptoRow.holds Try.pinned (OpenSpec.upto timersApartSpec)

/-- 'batonlaw16.TimersPlay', WHERE WHAT IT READS IS OF BULK AT MOST 1048576: true; the input reads as it did. -/
def timersPlayUptoRow : OpenClaim := { program := "ytjefeoohfalcaaa", sum := "de29fc2a930e400548188901fd983e77db825e4d1b0cf87ce649fdd26aa05bbe", func := "baton/batonlaw16.TimersPlay", spec := "timersPlay", inPlace := ["maps.clone"], unfollowed := true, recurses := true, apart := false, narrowed := true }
def TimersPlayUptoSaid : Prop := timersPlayUptoRow.holds Try.pinned (OpenSpec.upto timersPlaySpec)

/-- 'batonlaw16.ClockNames', WHERE WHAT IT READS IS OF BULK AT MOST 1048576: true; the input reads as it did. -/
def clockNamesUptoRow : OpenClaim := { program := "ytjefeoohfalcaaa", sum := "de29fc2a930e400548188901fd983e77db825e4d1b0cf87ce649fdd26aa05bbe", func := "baton/batonlaw16.ClockNames", spec := "clockNames", inPlace := ["maps.clone"], unfollowed := true, recurses := true, apart := false, narrowed := true }
def ClockNamesUptoSaid : Prop := clockNamesUptoRow.holds Try.pinned (OpenSpec.upto clockNamesSpec)

end Rows
end Go.Proofs.Ytjefeoohfalcaaa
