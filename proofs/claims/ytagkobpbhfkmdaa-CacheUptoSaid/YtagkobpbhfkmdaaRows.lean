/-
  No cell of these rows narrows 'for every input' (looked for: loops, veiled, ifaces, maps, wideKeys, modest, calm, conditions, laid).
  DERIVED. THE GIVEN ROWS OF THIS SEAT. 5 by the template 'for every input the law returns true; each argument reads behind the call as it read before'; 0 by the template 'total and deterministic' (their statements: YtagkobpbhfkmdaaTotals.lean).
  GIVEN WITH THE SEED: the statements are not yours to turn. If you find one false, say at which input.
  Laid BY PROGRAM, IN A SANDBOX (cutbox-rows.mjs): the forced cells as the released guide's own fill.sh prints them over the translation 89e69c893970e4f8… (all of the seat's roots in one cut). By AI agents, Wed Nov 11 2026. No macro, syntax, notation, axiom, sorry.
-/
import Derived.Test.YtagkobpbhfkmdaaChecked
import GoSem.Claim
import GoSem.ClaimJoined
import GoSem.ClaimMapViews
import Derived.JoinedTies
import Derived.KernelRfl
namespace Go.Proofs.Ytagkobpbhfkmdaa
/- THE CELL 'sum', in the pinned program and in every row, IS THE sha256 OF THE DUMP (.gsa) THAT YtagkobpbhfkmdaaProg.lean LOADS. Nothing in Lean hashes anything: it is a label: what it is worth is what the hold of that sum in a sandbox is worth. -/
noncomputable def Try.pinned : Pinned := { name := "ytagkobpbhfkmdaa", sum := "89e69c893970e4f89f2e04d6c540516418d2c7a7728a2d14432e8fe008c2ad1b", checked := Try.checked }
namespace Rows
def none {H : Type} : Left H := { results := [], args := [] }

/-- 'batonlaw21.CacheKnown': WHATEVER THE INPUT: true; the input reads as it did. -/
def cacheKnownSpec : ChangeSpec := { name := "cacheKnown", fn := fun _ => fun
  | [d1, d2, d3] => { results := [.lit (.bool true)], args := [d1, d2, d3] }
  | _ => none }
def cacheKnownRow : OpenClaim := { program := "ytagkobpbhfkmdaa", sum := "89e69c893970e4f89f2e04d6c540516418d2c7a7728a2d14432e8fe008c2ad1b", func := "baton/batonlaw21.CacheKnown", spec := "cacheKnown", unfollowed := true, recurses := true, apart := false }
def CacheKnownSaid : Prop := cacheKnownRow.holds Try.pinned (OpenSpec.ofChange cacheKnownSpec)

/-- ITS FALSE NEIGHBOUR: 'it returns false'. Refute it at one input. -/
def cacheKnownWrong : ChangeSpec := { name := "cacheKnown", fn := fun _ => fun
  | [d1, d2, d3] => { results := [.lit (.bool false)], args := [d1, d2, d3] }
  | _ => none }
def CacheKnownWrongFalsely : Prop := cacheKnownRow.holds Try.pinned (OpenSpec.ofChange cacheKnownWrong)

/-- 'batonlaw21.CacheLater': WHATEVER THE INPUT: true; the input reads as it did. -/
def cacheLaterSpec : ChangeSpec := { name := "cacheLater", fn := fun _ => fun
  | [d1, d2, d3] => { results := [.lit (.bool true)], args := [d1, d2, d3] }
  | _ => none }
def cacheLaterRow : OpenClaim := { program := "ytagkobpbhfkmdaa", sum := "89e69c893970e4f89f2e04d6c540516418d2c7a7728a2d14432e8fe008c2ad1b", func := "baton/batonlaw21.CacheLater", spec := "cacheLater", unfollowed := true, recurses := true, apart := false }
def CacheLaterSaid : Prop := cacheLaterRow.holds Try.pinned (OpenSpec.ofChange cacheLaterSpec)

/-- ITS FALSE NEIGHBOUR: 'it returns false'. Refute it at one input. -/
def cacheLaterWrong : ChangeSpec := { name := "cacheLater", fn := fun _ => fun
  | [d1, d2, d3] => { results := [.lit (.bool false)], args := [d1, d2, d3] }
  | _ => none }
def CacheLaterWrongFalsely : Prop := cacheLaterRow.holds Try.pinned (OpenSpec.ofChange cacheLaterWrong)

/-- 'batonlaw21.CacheUpto': WHATEVER THE INPUT: true; the input reads as it did. -/
def cacheUptoSpec : ChangeSpec := { name := "cacheUpto", fn := fun _ => fun
  | [d1, d2, d3] => { results := [.lit (.bool true)], args := [d1, d2, d3] }
  | _ => none }
def cacheUptoRow : OpenClaim := { program := "ytagkobpbhfkmdaa", sum := "89e69c893970e4f89f2e04d6c540516418d2c7a7728a2d14432e8fe008c2ad1b", func := "baton/batonlaw21.CacheUpto", spec := "cacheUpto", unfollowed := true, recurses := true, apart := false }
def CacheUptoSaid : Prop := cacheUptoRow.holds Try.pinned (OpenSpec.ofChange cacheUptoSpec)

/-- ITS FALSE NEIGHBOUR: 'it returns false'. Refute it at one input. -/
def cacheUptoWrong : ChangeSpec := { name := "cacheUpto", fn := fun _ => fun
  | [d1, d2, d3] => { results := [.lit (.bool false)], args := [d1, d2, d3] }
  | _ => none }
def CacheUptoWrongFalsely : Prop := cacheUptoRow.holds Try.pinned (OpenSpec.ofChange cacheUptoWrong)

/-- 'batonlaw21.CacheTrue': WHATEVER THE INPUT: true; the input reads as it did. -/
def cacheTrueSpec : ChangeSpec := { name := "cacheTrue", fn := fun _ => fun
  | [d1, d2] => { results := [.lit (.bool true)], args := [d1, d2] }
  | _ => none }
def cacheTrueRow : OpenClaim := { program := "ytagkobpbhfkmdaa", sum := "89e69c893970e4f89f2e04d6c540516418d2c7a7728a2d14432e8fe008c2ad1b", func := "baton/batonlaw21.CacheTrue", spec := "cacheTrue", inPlace := ["maps.clone"], unfollowed := true, recurses := true, apart := false }
def CacheTrueSaid : Prop := cacheTrueRow.holds Try.pinned (OpenSpec.ofChange cacheTrueSpec)

/-- ITS FALSE NEIGHBOUR: 'it returns false'. Refute it at one input. -/
def cacheTrueWrong : ChangeSpec := { name := "cacheTrue", fn := fun _ => fun
  | [d1, d2] => { results := [.lit (.bool false)], args := [d1, d2] }
  | _ => none }
def CacheTrueWrongFalsely : Prop := cacheTrueRow.holds Try.pinned (OpenSpec.ofChange cacheTrueWrong)

/-- 'batonlaw21.CacheNames': WHATEVER THE INPUT: true; the input reads as it did. -/
def cacheNamesSpec : ChangeSpec := { name := "cacheNames", fn := fun _ => fun
  | [] => { results := [.lit (.bool true)], args := [] }
  | _ => none }
def cacheNamesRow : OpenClaim := { program := "ytagkobpbhfkmdaa", sum := "89e69c893970e4f89f2e04d6c540516418d2c7a7728a2d14432e8fe008c2ad1b", func := "baton/batonlaw21.CacheNames", spec := "cacheNames", inPlace := ["maps.clone"], unfollowed := true, recurses := true, apart := false }
def CacheNamesSaid : Prop := cacheNamesRow.holds Try.pinned (OpenSpec.ofChange cacheNamesSpec)

/-- ITS FALSE NEIGHBOUR: 'it returns false'. Refute it at one input. -/
def cacheNamesWrong : ChangeSpec := { name := "cacheNames", fn := fun _ => fun
  | [] => { results := [.lit (.bool false)], args := [] }
  | _ => none }
def CacheNamesWrongFalsely : Prop := cacheNamesRow.holds Try.pinned (OpenSpec.ofChange cacheNamesWrong)

/- THE SECOND FORM. 'bulk': how many values and letters a reading holds, each counted each time it is reached (what is shared counts as often as it is met; a slice's spare places count too). A statement '..UptoSaid' is the law's where the arguments, and the package variables that the reading takes, are together of bulk at most 1048576: NARROWER than '..Said'. Prove '..Said' where nothing that the law and all that it calls make is longer than what came in: it says more and counts as full. Else prove '..UptoSaid'. A law counts once. -/
mutual
def uptoBulk {H : Type} : DataW H → Nat
  | .lit (.string bytes) => bytes.length + 1
  | .lit _ => 1
  | .nil => 1
  | .ptr d => uptoBulk d + 1
  | .slice elems spare => uptoBulkAll elems + uptoBulkAll spare + 1
  | .agg parts => uptoBulkAll parts + 1
  | .iface _ d => uptoBulk d + 1
  | .map entries => uptoBulkEntries entries + 1
  | .held _ => 1
def uptoBulkAll {H : Type} : List (DataW H) → Nat
  | [] => 0
  | d :: r => uptoBulk d + uptoBulkAll r
def uptoBulkEntries {H : Type} : List (Lit × DataW H) → Nat
  | [] => 0
  | x :: r => uptoBulkEntry x + uptoBulkEntries r
def uptoBulkEntry {H : Type} : Lit × DataW H → Nat
  | (.string bytes, d) => bytes.length + uptoBulk d + 1
  | (_, d) => uptoBulk d + 1
 end
def uptoSmall : (H : Type) → List (DataW H) → Bool := fun _ ds => decide (uptoBulkAll ds ≤ 1048576)
def OpenSpec.upto (s : _root_.Go.ChangeSpec) : _root_.Go.OpenSpec := { _root_.Go.OpenSpec.ofChange s with cond := some uptoSmall }

/-- 'batonlaw21.CacheKnown', WHERE WHAT IT READS IS OF BULK AT MOST 1048576: true; the input reads as it did. -/
def cacheKnownUptoRow : OpenClaim := { program := "ytagkobpbhfkmdaa", sum := "89e69c893970e4f89f2e04d6c540516418d2c7a7728a2d14432e8fe008c2ad1b", func := "baton/batonlaw21.CacheKnown", spec := "cacheKnown", unfollowed := true, recurses := true, apart := false, narrowed := true }
def CacheKnownUptoSaid : Prop := cacheKnownUptoRow.holds Try.pinned (OpenSpec.upto cacheKnownSpec)

/-- 'batonlaw21.CacheLater', WHERE WHAT IT READS IS OF BULK AT MOST 1048576: true; the input reads as it did. -/
def cacheLaterUptoRow : OpenClaim := { program := "ytagkobpbhfkmdaa", sum := "89e69c893970e4f89f2e04d6c540516418d2c7a7728a2d14432e8fe008c2ad1b", func := "baton/batonlaw21.CacheLater", spec := "cacheLater", unfollowed := true, recurses := true, apart := false, narrowed := true }
def CacheLaterUptoSaid : Prop := cacheLaterUptoRow.holds Try.pinned (OpenSpec.upto cacheLaterSpec)

/-- 'batonlaw21.CacheUpto', WHERE WHAT IT READS IS OF BULK AT MOST 1048576: true; the input reads as it did. -/
def cacheUptoUptoRow : OpenClaim := { program := "ytagkobpbhfkmdaa", sum := "89e69c893970e4f89f2e04d6c540516418d2c7a7728a2d14432e8fe008c2ad1b", func := "baton/batonlaw21.CacheUpto", spec := "cacheUpto", unfollowed := true, recurses := true, apart := false, narrowed := true }
def CacheUptoUptoSaid : Prop := cacheUptoUptoRow.holds Try.pinned (OpenSpec.upto cacheUptoSpec)

/-- 'batonlaw21.CacheTrue', WHERE WHAT IT READS IS OF BULK AT MOST 1048576: true; the input reads as it did. -/
def cacheTrueUptoRow : OpenClaim := { program := "ytagkobpbhfkmdaa", sum := "89e69c893970e4f89f2e04d6c540516418d2c7a7728a2d14432e8fe008c2ad1b", func := "baton/batonlaw21.CacheTrue", spec := "cacheTrue", inPlace := ["maps.clone"], unfollowed := true, recurses := true, apart := false, narrowed := true }
def CacheTrueUptoSaid : Prop := cacheTrueUptoRow.holds Try.pinned (OpenSpec.upto cacheTrueSpec)

/-- 'batonlaw21.CacheNames', WHERE WHAT IT READS IS OF BULK AT MOST 1048576: true; the input reads as it did. -/
def cacheNamesUptoRow : OpenClaim := { program := "ytagkobpbhfkmdaa", sum := "89e69c893970e4f89f2e04d6c540516418d2c7a7728a2d14432e8fe008c2ad1b", func := "baton/batonlaw21.CacheNames", spec := "cacheNames", inPlace := ["maps.clone"], unfollowed := true, recurses := true, apart := false, narrowed := true }
def CacheNamesUptoSaid : Prop := cacheNamesUptoRow.holds Try.pinned (OpenSpec.upto cacheNamesSpec)

end Rows
end Go.Proofs.Ytagkobpbhfkmdaa
