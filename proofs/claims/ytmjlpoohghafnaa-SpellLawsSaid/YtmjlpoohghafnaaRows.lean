/-
  No cell of these rows narrows 'for every input' (looked for: loops, veiled, ifaces, maps, wideKeys, modest, calm, conditions, laid).
  DERIVED. THE GIVEN ROWS OF THIS SEAT. 7 by the template 'for every input the law returns true; each argument reads behind the call as it read before'; 0 by the template 'total and deterministic' (their statements: YtmjlpoohghafnaaTotals.lean).
  GIVEN WITH THE SEED: the statements are not yours to turn. If you find one false, say at which input.
  Laid BY PROGRAM, IN A SANDBOX (cutbox-rows.mjs): the forced cells as the released guide's own fill.sh prints them over the translation 60aaeaec68b0b1b0… (all of the seat's roots in one cut). By AI agents, Wed Nov 11 2026. No macro, syntax, notation, axiom, sorry.
-/
import Derived.Test.YtmjlpoohghafnaaChecked
import GoSem.Claim
import GoSem.ClaimJoined
import GoSem.ClaimMapViews
import Derived.JoinedTies
import Derived.KernelRfl
namespace Go.Proofs.Ytmjlpoohghafnaa
/- THE CELL 'sum', in the pinned program and in every row, IS THE sha256 OF THE DUMP (.gsa) THAT YtmjlpoohghafnaaProg.lean LOADS. Nothing in Lean hashes anything: it is a label: what it is worth is what the hold of that sum in a sandbox is worth. -/
noncomputable def Try.pinned : Pinned := { name := "ytmjlpoohghafnaa", sum := "60aaeaec68b0b1b0509193e579ed5aa12cdc4392b7a79547d446f9a2724b4381", checked := Try.checked }
namespace Rows
def none {H : Type} : Left H := { results := [], args := [] }

/-- 'mootkeep1.SpellDays': WHATEVER THE INPUT: true; the input reads as it did. -/
def spellDaysSpec : ChangeSpec := { name := "spellDays", fn := fun _ => fun
  | [d1, d2] => { results := [.lit (.bool true)], args := [d1, d2] }
  | _ => none }
def spellDaysRow : OpenClaim := { program := "ytmjlpoohghafnaa", sum := "60aaeaec68b0b1b0509193e579ed5aa12cdc4392b7a79547d446f9a2724b4381", func := "moothall/mootkeep1.SpellDays", spec := "spellDays", unfollowed := true, recurses := true, apart := false }
def SpellDaysSaid : Prop := spellDaysRow.holds Try.pinned (OpenSpec.ofChange spellDaysSpec)

/-- ITS FALSE NEIGHBOUR: 'it returns false'. Refute it at one input. -/
def spellDaysWrong : ChangeSpec := { name := "spellDays", fn := fun _ => fun
  | [d1, d2] => { results := [.lit (.bool false)], args := [d1, d2] }
  | _ => none }
def SpellDaysWrongFalsely : Prop := spellDaysRow.holds Try.pinned (OpenSpec.ofChange spellDaysWrong)

/-- 'mootkeep1.SpellLaws': WHATEVER THE INPUT: true; the input reads as it did. -/
def spellLawsSpec : ChangeSpec := { name := "spellLaws", fn := fun _ => fun
  | [d1, d2, d3] => { results := [.lit (.bool true)], args := [d1, d2, d3] }
  | _ => none }
def spellLawsRow : OpenClaim := { program := "ytmjlpoohghafnaa", sum := "60aaeaec68b0b1b0509193e579ed5aa12cdc4392b7a79547d446f9a2724b4381", func := "moothall/mootkeep1.SpellLaws", spec := "spellLaws", unfollowed := true, recurses := true, apart := false }
def SpellLawsSaid : Prop := spellLawsRow.holds Try.pinned (OpenSpec.ofChange spellLawsSpec)

/-- ITS FALSE NEIGHBOUR: 'it returns false'. Refute it at one input. -/
def spellLawsWrong : ChangeSpec := { name := "spellLaws", fn := fun _ => fun
  | [d1, d2, d3] => { results := [.lit (.bool false)], args := [d1, d2, d3] }
  | _ => none }
def SpellLawsWrongFalsely : Prop := spellLawsRow.holds Try.pinned (OpenSpec.ofChange spellLawsWrong)

/-- 'mootkeep1.SpellCounts': WHATEVER THE INPUT: true; the input reads as it did. -/
def spellCountsSpec : ChangeSpec := { name := "spellCounts", fn := fun _ => fun
  | [d1, d2] => { results := [.lit (.bool true)], args := [d1, d2] }
  | _ => none }
def spellCountsRow : OpenClaim := { program := "ytmjlpoohghafnaa", sum := "60aaeaec68b0b1b0509193e579ed5aa12cdc4392b7a79547d446f9a2724b4381", func := "moothall/mootkeep1.SpellCounts", spec := "spellCounts", unfollowed := true, recurses := true, apart := false }
def SpellCountsSaid : Prop := spellCountsRow.holds Try.pinned (OpenSpec.ofChange spellCountsSpec)

/-- ITS FALSE NEIGHBOUR: 'it returns false'. Refute it at one input. -/
def spellCountsWrong : ChangeSpec := { name := "spellCounts", fn := fun _ => fun
  | [d1, d2] => { results := [.lit (.bool false)], args := [d1, d2] }
  | _ => none }
def SpellCountsWrongFalsely : Prop := spellCountsRow.holds Try.pinned (OpenSpec.ofChange spellCountsWrong)

/-- 'mootkeep1.FactSelf': WHATEVER THE INPUT: true; the input reads as it did. -/
def factSelfSpec : ChangeSpec := { name := "factSelf", fn := fun _ => fun
  | [d1, d2, d3] => { results := [.lit (.bool true)], args := [d1, d2, d3] }
  | _ => none }
def factSelfRow : OpenClaim := { program := "ytmjlpoohghafnaa", sum := "60aaeaec68b0b1b0509193e579ed5aa12cdc4392b7a79547d446f9a2724b4381", func := "moothall/mootkeep1.FactSelf", spec := "factSelf", recurses := true, apart := false }
def FactSelfSaid : Prop := factSelfRow.holds Try.pinned (OpenSpec.ofChange factSelfSpec)

/-- ITS FALSE NEIGHBOUR: 'it returns false'. Refute it at one input. -/
def factSelfWrong : ChangeSpec := { name := "factSelf", fn := fun _ => fun
  | [d1, d2, d3] => { results := [.lit (.bool false)], args := [d1, d2, d3] }
  | _ => none }
def FactSelfWrongFalsely : Prop := factSelfRow.holds Try.pinned (OpenSpec.ofChange factSelfWrong)

/-- 'mootkeep1.FactTurned': WHATEVER THE INPUT: true; the input reads as it did. -/
def factTurnedSpec : ChangeSpec := { name := "factTurned", fn := fun _ => fun
  | [d1, d2, d3] => { results := [.lit (.bool true)], args := [d1, d2, d3] }
  | _ => none }
def factTurnedRow : OpenClaim := { program := "ytmjlpoohghafnaa", sum := "60aaeaec68b0b1b0509193e579ed5aa12cdc4392b7a79547d446f9a2724b4381", func := "moothall/mootkeep1.FactTurned", spec := "factTurned", inPlace := ["slices.overlaps[moothall/api.Fact]"], recurses := true, apart := false }
def FactTurnedSaid : Prop := factTurnedRow.holds Try.pinned (OpenSpec.ofChange factTurnedSpec)

/-- ITS FALSE NEIGHBOUR: 'it returns false'. Refute it at one input. -/
def factTurnedWrong : ChangeSpec := { name := "factTurned", fn := fun _ => fun
  | [d1, d2, d3] => { results := [.lit (.bool false)], args := [d1, d2, d3] }
  | _ => none }
def FactTurnedWrongFalsely : Prop := factTurnedRow.holds Try.pinned (OpenSpec.ofChange factTurnedWrong)

/-- 'mootkeep1.CourseZip': WHATEVER THE INPUT: true; the input reads as it did. -/
def courseZipSpec : ChangeSpec := { name := "courseZip", fn := fun _ => fun
  | [d1, d2, d3] => { results := [.lit (.bool true)], args := [d1, d2, d3] }
  | _ => none }
def courseZipRow : OpenClaim := { program := "ytmjlpoohghafnaa", sum := "60aaeaec68b0b1b0509193e579ed5aa12cdc4392b7a79547d446f9a2724b4381", func := "moothall/mootkeep1.CourseZip", spec := "courseZip", unfollowed := true, recurses := true, apart := false }
def CourseZipSaid : Prop := courseZipRow.holds Try.pinned (OpenSpec.ofChange courseZipSpec)

/-- ITS FALSE NEIGHBOUR: 'it returns false'. Refute it at one input. -/
def courseZipWrong : ChangeSpec := { name := "courseZip", fn := fun _ => fun
  | [d1, d2, d3] => { results := [.lit (.bool false)], args := [d1, d2, d3] }
  | _ => none }
def CourseZipWrongFalsely : Prop := courseZipRow.holds Try.pinned (OpenSpec.ofChange courseZipWrong)

/-- 'mootkeep1.FactLater': WHATEVER THE INPUT: true; the input reads as it did. -/
def factLaterSpec : ChangeSpec := { name := "factLater", fn := fun _ => fun
  | [d1, d2, d3, d4, d5] => { results := [.lit (.bool true)], args := [d1, d2, d3, d4, d5] }
  | _ => none }
def factLaterRow : OpenClaim := { program := "ytmjlpoohghafnaa", sum := "60aaeaec68b0b1b0509193e579ed5aa12cdc4392b7a79547d446f9a2724b4381", func := "moothall/mootkeep1.FactLater", spec := "factLater", unfollowed := true, recurses := true, apart := false }
def FactLaterSaid : Prop := factLaterRow.holds Try.pinned (OpenSpec.ofChange factLaterSpec)

/-- ITS FALSE NEIGHBOUR: 'it returns false'. Refute it at one input. -/
def factLaterWrong : ChangeSpec := { name := "factLater", fn := fun _ => fun
  | [d1, d2, d3, d4, d5] => { results := [.lit (.bool false)], args := [d1, d2, d3, d4, d5] }
  | _ => none }
def FactLaterWrongFalsely : Prop := factLaterRow.holds Try.pinned (OpenSpec.ofChange factLaterWrong)

/- THE SECOND FORM. 'bulk': how many values and letters a reading holds, each counted each time it is reached (what is shared counts as often as it is met; a slice's spare places count too). A statement '..UptoSaid' is the law's where the arguments, and the package variables that the reading takes, are together of bulk at most 1048576: NARROWER than '..Said'. Prove '..Said' where nothing that the law and all that it calls make is longer than what came in: it says more and counts as full. Else prove '..UptoSaid'. A law counts once. -/
mutual
def uptoBulk {H : Type} : DataW H → Nat
  | .lit (.string bytes) => bytes.length + 1
  | .lit _ => 1
  | .nil => 1
  | .ptr d => uptoBulk d + 1
  | .slice elems spare => uptoBulkAll elems + uptoBulkAll spare + 1
  | .agg parts => uptoBulkAll parts + 1
  | .iface _ d => uptoBulk d + 1
  | .map entries => uptoBulkEntries entries + 1
  | .held _ => 1
def uptoBulkAll {H : Type} : List (DataW H) → Nat
  | [] => 0
  | d :: r => uptoBulk d + uptoBulkAll r
def uptoBulkEntries {H : Type} : List (Lit × DataW H) → Nat
  | [] => 0
  | x :: r => uptoBulkEntry x + uptoBulkEntries r
def uptoBulkEntry {H : Type} : Lit × DataW H → Nat
  | (.string bytes, d) => bytes.length + uptoBulk d + 1
  | (_, d) => uptoBulk d + 1
 end
def uptoSmall : (H : Type) → List (DataW H) → Bool := fun _ ds => decide (uptoBulkAll ds ≤ 1048576)
def OpenSpec.upto (s : _root_.Go.ChangeSpec) : _root_.Go.OpenSpec := { _root_.Go.OpenSpec.ofChange s with cond := some uptoSmall }

/-- 'mootkeep1.SpellDays', WHERE WHAT IT READS IS OF BULK AT MOST 1048576: true; the input reads as it did. -/
def spellDaysUptoRow : OpenClaim := { program := "ytmjlpoohghafnaa", sum := "60aaeaec68b0b1b0509193e579ed5aa12cdc4392b7a79547d446f9a2724b4381", func := "moothall/mootkeep1.SpellDays", spec := "spellDays", unfollowed := true, recurses := true, apart := false, narrowed := true }
def SpellDaysUptoSaid : Prop := spellDaysUptoRow.holds Try.pinned (OpenSpec.upto spellDaysSpec)

/-- 'mootkeep1.SpellLaws', WHERE WHAT IT READS IS OF BULK AT MOST 1048576: true; the input reads as it did. -/
def spellLawsUptoRow : OpenClaim := { program := "ytmjlpoohghafnaa", sum := "60aaeaec68b0b1b0509193e579ed5aa12cdc4392b7a79547d446f9a2724b4381", func := "moothall/mootkeep1.SpellLaws", spec := "spellLaws", unfollowed := true, recurses := true, apart := false, narrowed := true }
def SpellLawsUptoSaid : Prop := spellLawsUptoRow.holds Try.pinned (OpenSpec.upto spellLawsSpec)

/-- 'mootkeep1.SpellCounts', WHERE WHAT IT READS IS OF BULK AT MOST 1048576: true; the input reads as it did. -/
def spellCountsUptoRow : OpenClaim := { program := "ytmjlpoohghafnaa", sum := "60aaeaec68b0b1b0509193e579ed5aa12cdc4392b7a79547d446f9a2724b4381", func := "moothall/mootkeep1.SpellCounts", spec := "spellCounts", unfollowed := true, recurses := true, apart := false, narrowed := true }
def SpellCountsUptoSaid : Prop := spellCountsUptoRow.holds Try.pinned (OpenSpec.upto spellCountsSpec)

/-- 'mootkeep1.FactSelf', WHERE WHAT IT READS IS OF BULK AT MOST 1048576: true; the input reads as it did. -/
def factSelfUptoRow : OpenClaim := { program := "ytmjlpoohghafnaa", sum := "60aaeaec68b0b1b0509193e579ed5aa12cdc4392b7a79547d446f9a2724b4381", func := "moothall/mootkeep1.FactSelf", spec := "factSelf", recurses := true, apart := false, narrowed := true }
def FactSelfUptoSaid : Prop := factSelfUptoRow.holds Try.pinned (OpenSpec.upto factSelfSpec)

/-- 'mootkeep1.FactTurned', WHERE WHAT IT READS IS OF BULK AT MOST 1048576: true; the input reads as it did. -/
def factTurnedUptoRow : OpenClaim := { program := "ytmjlpoohghafnaa", sum := "60aaeaec68b0b1b0509193e579ed5aa12cdc4392b7a79547d446f9a2724b4381", func := "moothall/mootkeep1.FactTurned", spec := "factTurned", inPlace := ["slices.overlaps[moothall/api.Fact]"], recurses := true, apart := false, narrowed := true }
def FactTurnedUptoSaid : Prop := factTurnedUptoRow.holds Try.pinned (OpenSpec.upto factTurnedSpec)

/-- 'mootkeep1.CourseZip', WHERE WHAT IT READS IS OF BULK AT MOST 1048576: true; the input reads as it did. -/
def courseZipUptoRow : OpenClaim := { program := "ytmjlpoohghafnaa", sum := "60aaeaec68b0b1b0509193e579ed5aa12cdc4392b7a79547d446f9a2724b4381", func := "moothall/mootkeep1.CourseZip", spec := "courseZip", unfollowed := true, recurses := true, apart := false, narrowed := true }
def CourseZipUptoSaid : Prop := courseZipUptoRow.holds Try.pinned (OpenSpec.upto courseZipSpec)

/-- 'mootkeep1.FactLater', WHERE WHAT IT READS IS OF BULK AT MOST 1048576: true; the input reads as it did. -/
def factLaterUptoRow : OpenClaim := { program := "ytmjlpoohghafnaa", sum := "60aaeaec68b0b1b0509193e579ed5aa12cdc4392b7a79547d446f9a2724b4381", func := "moothall/mootkeep1.FactLater", spec := "factLater", unfollowed := true, recurses := true, apart := false, narrowed := true }
def FactLaterUptoSaid : Prop := factLaterUptoRow.holds Try.pinned (OpenSpec.upto factLaterSpec)

end Rows
end Go.Proofs.Ytmjlpoohghafnaa
