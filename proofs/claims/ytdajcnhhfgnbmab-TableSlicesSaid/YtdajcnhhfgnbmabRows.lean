/-
  No cell of these rows narrows 'for every input' (looked for: loops, veiled, ifaces, maps, wideKeys, modest, calm, conditions, laid).
  DERIVED. THE GIVEN ROWS OF THIS SEAT. 12 by the template 'for every input the law returns true; each argument reads behind the call as it read before'; 0 by the template 'total and deterministic' (their statements: YtdajcnhhfgnbmabTotals.lean).
  GIVEN WITH THE SEED: the statements are not yours to turn. If you find one false, say at which input.
  Laid BY PROGRAM, IN A SANDBOX (cutbox-rows.mjs): the forced cells as the released guide's own fill.sh prints them over the translation 2340bf2ff5adafbf… (all of the seat's roots in one cut). By AI agents, Wed Nov 11 2026. No macro, syntax, notation, axiom, sorry.
-/
import Derived.Test.YtdajcnhhfgnbmabChecked
import GoSem.Claim
import GoSem.ClaimJoined
import GoSem.ClaimMapViews
import Derived.JoinedTies
import Derived.KernelRfl
namespace Go.Proofs.Ytdajcnhhfgnbmab
/- THE CELL 'sum', in the pinned program and in every row, IS THE sha256 OF THE DUMP (.gsa) THAT YtdajcnhhfgnbmabProg.lean LOADS. Nothing in Lean hashes anything: it is a label: what it is worth is what the hold of that sum in a sandbox is worth. -/
noncomputable def Try.pinned : Pinned := { name := "ytdajcnhhfgnbmab", sum := "2340bf2ff5adafbf415f55762a1a2c43a61ae98e9728daa4c1e9cfbda77f9eac", checked := Try.checked }
namespace Rows
def none {H : Type} : Left H := { results := [], args := [] }

/-- 'mootkeep1.FeastNext': WHATEVER THE INPUT: true; the input reads as it did. -/
def feastNextSpec : ChangeSpec := { name := "feastNext", fn := fun _ => fun
  | [d1, d2, d3, d4] => { results := [.lit (.bool true)], args := [d1, d2, d3, d4] }
  | _ => none }
def feastNextRow : OpenClaim := { program := "ytdajcnhhfgnbmab", sum := "2340bf2ff5adafbf415f55762a1a2c43a61ae98e9728daa4c1e9cfbda77f9eac", func := "moothall/mootkeep1.FeastNext", spec := "feastNext", unfollowed := true, recurses := true, apart := false }
def FeastNextSaid : Prop := feastNextRow.holds Try.pinned (OpenSpec.ofChange feastNextSpec)

/-- ITS FALSE NEIGHBOUR: 'it returns false'. Refute it at one input. -/
def feastNextWrong : ChangeSpec := { name := "feastNext", fn := fun _ => fun
  | [d1, d2, d3, d4] => { results := [.lit (.bool false)], args := [d1, d2, d3, d4] }
  | _ => none }
def FeastNextWrongFalsely : Prop := feastNextRow.holds Try.pinned (OpenSpec.ofChange feastNextWrong)

/-- 'mootkeep1.TableSlices': WHATEVER THE INPUT: true; the input reads as it did. -/
def tableSlicesSpec : ChangeSpec := { name := "tableSlices", fn := fun _ => fun
  | [d1, d2] => { results := [.lit (.bool true)], args := [d1, d2] }
  | _ => none }
def tableSlicesRow : OpenClaim := { program := "ytdajcnhhfgnbmab", sum := "2340bf2ff5adafbf415f55762a1a2c43a61ae98e9728daa4c1e9cfbda77f9eac", func := "moothall/mootkeep1.TableSlices", spec := "tableSlices", inPlace := ["math/bits.Add64"], named := ["math/bits.divideError", "math/bits.overflowError"], apart := false }
def TableSlicesSaid : Prop := tableSlicesRow.holds Try.pinned (OpenSpec.ofChange tableSlicesSpec)

/-- ITS FALSE NEIGHBOUR: 'it returns false'. Refute it at one input. -/
def tableSlicesWrong : ChangeSpec := { name := "tableSlices", fn := fun _ => fun
  | [d1, d2] => { results := [.lit (.bool false)], args := [d1, d2] }
  | _ => none }
def TableSlicesWrongFalsely : Prop := tableSlicesRow.holds Try.pinned (OpenSpec.ofChange tableSlicesWrong)

/-- 'mootkeep1.CashNear': WHATEVER THE INPUT: true; the input reads as it did. -/
def cashNearSpec : ChangeSpec := { name := "cashNear", fn := fun _ => fun
  | [d1, d2, d3] => { results := [.lit (.bool true)], args := [d1, d2, d3] }
  | _ => none }
def cashNearRow : OpenClaim := { program := "ytdajcnhhfgnbmab", sum := "2340bf2ff5adafbf415f55762a1a2c43a61ae98e9728daa4c1e9cfbda77f9eac", func := "moothall/mootkeep1.CashNear", spec := "cashNear", unfollowed := true, recurses := true, apart := false }
def CashNearSaid : Prop := cashNearRow.holds Try.pinned (OpenSpec.ofChange cashNearSpec)

/-- ITS FALSE NEIGHBOUR: 'it returns false'. Refute it at one input. -/
def cashNearWrong : ChangeSpec := { name := "cashNear", fn := fun _ => fun
  | [d1, d2, d3] => { results := [.lit (.bool false)], args := [d1, d2, d3] }
  | _ => none }
def CashNearWrongFalsely : Prop := cashNearRow.holds Try.pinned (OpenSpec.ofChange cashNearWrong)

/-- 'moottop.TableCourses': WHATEVER THE INPUT: true; the input reads as it did. -/
def tableCoursesSpec : ChangeSpec := { name := "tableCourses", fn := fun _ => fun
  | [d1, d2, d3, d4] => { results := [.lit (.bool true)], args := [d1, d2, d3, d4] }
  | _ => none }
def tableCoursesRow : OpenClaim := { program := "ytdajcnhhfgnbmab", sum := "2340bf2ff5adafbf415f55762a1a2c43a61ae98e9728daa4c1e9cfbda77f9eac", func := "moothall/moottop.TableCourses", spec := "tableCourses", inPlace := ["math/bits.Add64"], unfollowed := true, recurses := true, named := ["math/bits.divideError", "math/bits.overflowError"], apart := false }
def TableCoursesSaid : Prop := tableCoursesRow.holds Try.pinned (OpenSpec.ofChange tableCoursesSpec)

/-- ITS FALSE NEIGHBOUR: 'it returns false'. Refute it at one input. -/
def tableCoursesWrong : ChangeSpec := { name := "tableCourses", fn := fun _ => fun
  | [d1, d2, d3, d4] => { results := [.lit (.bool false)], args := [d1, d2, d3, d4] }
  | _ => none }
def TableCoursesWrongFalsely : Prop := tableCoursesRow.holds Try.pinned (OpenSpec.ofChange tableCoursesWrong)

/-- 'mootkeep1.CashSums': WHATEVER THE INPUT: true; the input reads as it did. -/
def cashSumsSpec : ChangeSpec := { name := "cashSums", fn := fun _ => fun
  | [d1, d2] => { results := [.lit (.bool true)], args := [d1, d2] }
  | _ => none }
def cashSumsRow : OpenClaim := { program := "ytdajcnhhfgnbmab", sum := "2340bf2ff5adafbf415f55762a1a2c43a61ae98e9728daa4c1e9cfbda77f9eac", func := "moothall/mootkeep1.CashSums", spec := "cashSums", unfollowed := true, recurses := true, apart := false }
def CashSumsSaid : Prop := cashSumsRow.holds Try.pinned (OpenSpec.ofChange cashSumsSpec)

/-- ITS FALSE NEIGHBOUR: 'it returns false'. Refute it at one input. -/
def cashSumsWrong : ChangeSpec := { name := "cashSums", fn := fun _ => fun
  | [d1, d2] => { results := [.lit (.bool false)], args := [d1, d2] }
  | _ => none }
def CashSumsWrongFalsely : Prop := cashSumsRow.holds Try.pinned (OpenSpec.ofChange cashSumsWrong)

/-- 'mootkeep1.TableRises': WHATEVER THE INPUT: true; the input reads as it did. -/
def tableRisesSpec : ChangeSpec := { name := "tableRises", fn := fun _ => fun
  | [d1, d2, d3] => { results := [.lit (.bool true)], args := [d1, d2, d3] }
  | _ => none }
def tableRisesRow : OpenClaim := { program := "ytdajcnhhfgnbmab", sum := "2340bf2ff5adafbf415f55762a1a2c43a61ae98e9728daa4c1e9cfbda77f9eac", func := "moothall/mootkeep1.TableRises", spec := "tableRises", inPlace := ["math/bits.Add64"], named := ["math/bits.divideError", "math/bits.overflowError"], apart := false }
def TableRisesSaid : Prop := tableRisesRow.holds Try.pinned (OpenSpec.ofChange tableRisesSpec)

/-- ITS FALSE NEIGHBOUR: 'it returns false'. Refute it at one input. -/
def tableRisesWrong : ChangeSpec := { name := "tableRises", fn := fun _ => fun
  | [d1, d2, d3] => { results := [.lit (.bool false)], args := [d1, d2, d3] }
  | _ => none }
def TableRisesWrongFalsely : Prop := tableRisesRow.holds Try.pinned (OpenSpec.ofChange tableRisesWrong)

/-- 'mootkeep1.TableLeast': WHATEVER THE INPUT: true; the input reads as it did. -/
def tableLeastSpec : ChangeSpec := { name := "tableLeast", fn := fun _ => fun
  | [d1, d2] => { results := [.lit (.bool true)], args := [d1, d2] }
  | _ => none }
def tableLeastRow : OpenClaim := { program := "ytdajcnhhfgnbmab", sum := "2340bf2ff5adafbf415f55762a1a2c43a61ae98e9728daa4c1e9cfbda77f9eac", func := "moothall/mootkeep1.TableLeast", spec := "tableLeast", inPlace := ["math/bits.Add64"], named := ["math/bits.divideError", "math/bits.overflowError"], apart := false }
def TableLeastSaid : Prop := tableLeastRow.holds Try.pinned (OpenSpec.ofChange tableLeastSpec)

/-- ITS FALSE NEIGHBOUR: 'it returns false'. Refute it at one input. -/
def tableLeastWrong : ChangeSpec := { name := "tableLeast", fn := fun _ => fun
  | [d1, d2] => { results := [.lit (.bool false)], args := [d1, d2] }
  | _ => none }
def TableLeastWrongFalsely : Prop := tableLeastRow.holds Try.pinned (OpenSpec.ofChange tableLeastWrong)

/-- 'mootkeep1.PartLimits': WHATEVER THE INPUT: true; the input reads as it did. -/
def partLimitsSpec : ChangeSpec := { name := "partLimits", fn := fun _ => fun
  | [d1, d2] => { results := [.lit (.bool true)], args := [d1, d2] }
  | _ => none }
def partLimitsRow : OpenClaim := { program := "ytdajcnhhfgnbmab", sum := "2340bf2ff5adafbf415f55762a1a2c43a61ae98e9728daa4c1e9cfbda77f9eac", func := "moothall/mootkeep1.PartLimits", spec := "partLimits", unfollowed := true, recurses := true, apart := false }
def PartLimitsSaid : Prop := partLimitsRow.holds Try.pinned (OpenSpec.ofChange partLimitsSpec)

/-- ITS FALSE NEIGHBOUR: 'it returns false'. Refute it at one input. -/
def partLimitsWrong : ChangeSpec := { name := "partLimits", fn := fun _ => fun
  | [d1, d2] => { results := [.lit (.bool false)], args := [d1, d2] }
  | _ => none }
def PartLimitsWrongFalsely : Prop := partLimitsRow.holds Try.pinned (OpenSpec.ofChange partLimitsWrong)

/-- 'moottop.DueCounted': WHATEVER THE INPUT: true; the input reads as it did. -/
def dueCountedSpec : ChangeSpec := { name := "dueCounted", fn := fun _ => fun
  | [d1, d2, d3, d4, d5] => { results := [.lit (.bool true)], args := [d1, d2, d3, d4, d5] }
  | _ => none }
def dueCountedRow : OpenClaim := { program := "ytdajcnhhfgnbmab", sum := "2340bf2ff5adafbf415f55762a1a2c43a61ae98e9728daa4c1e9cfbda77f9eac", func := "moothall/moottop.DueCounted", spec := "dueCounted", inPlace := ["math/bits.Add64"], unfollowed := true, recurses := true, named := ["math/bits.divideError", "math/bits.overflowError"], apart := false }
def DueCountedSaid : Prop := dueCountedRow.holds Try.pinned (OpenSpec.ofChange dueCountedSpec)

/-- ITS FALSE NEIGHBOUR: 'it returns false'. Refute it at one input. -/
def dueCountedWrong : ChangeSpec := { name := "dueCounted", fn := fun _ => fun
  | [d1, d2, d3, d4, d5] => { results := [.lit (.bool false)], args := [d1, d2, d3, d4, d5] }
  | _ => none }
def DueCountedWrongFalsely : Prop := dueCountedRow.holds Try.pinned (OpenSpec.ofChange dueCountedWrong)

/-- 'mootkeep1.DueGrows': WHATEVER THE INPUT: true; the input reads as it did. -/
def dueGrowsSpec : ChangeSpec := { name := "dueGrows", fn := fun _ => fun
  | [d1, d2, d3, d4, d5] => { results := [.lit (.bool true)], args := [d1, d2, d3, d4, d5] }
  | _ => none }
def dueGrowsRow : OpenClaim := { program := "ytdajcnhhfgnbmab", sum := "2340bf2ff5adafbf415f55762a1a2c43a61ae98e9728daa4c1e9cfbda77f9eac", func := "moothall/mootkeep1.DueGrows", spec := "dueGrows", unfollowed := true, recurses := true, apart := false }
def DueGrowsSaid : Prop := dueGrowsRow.holds Try.pinned (OpenSpec.ofChange dueGrowsSpec)

/-- ITS FALSE NEIGHBOUR: 'it returns false'. Refute it at one input. -/
def dueGrowsWrong : ChangeSpec := { name := "dueGrows", fn := fun _ => fun
  | [d1, d2, d3, d4, d5] => { results := [.lit (.bool false)], args := [d1, d2, d3, d4, d5] }
  | _ => none }
def DueGrowsWrongFalsely : Prop := dueGrowsRow.holds Try.pinned (OpenSpec.ofChange dueGrowsWrong)

/-- 'mootkeep1.DuePaused': WHATEVER THE INPUT: true; the input reads as it did. -/
def duePausedSpec : ChangeSpec := { name := "duePaused", fn := fun _ => fun
  | [d1, d2, d3, d4, d5, d6] => { results := [.lit (.bool true)], args := [d1, d2, d3, d4, d5, d6] }
  | _ => none }
def duePausedRow : OpenClaim := { program := "ytdajcnhhfgnbmab", sum := "2340bf2ff5adafbf415f55762a1a2c43a61ae98e9728daa4c1e9cfbda77f9eac", func := "moothall/mootkeep1.DuePaused", spec := "duePaused", unfollowed := true, recurses := true, apart := false }
def DuePausedSaid : Prop := duePausedRow.holds Try.pinned (OpenSpec.ofChange duePausedSpec)

/-- ITS FALSE NEIGHBOUR: 'it returns false'. Refute it at one input. -/
def duePausedWrong : ChangeSpec := { name := "duePaused", fn := fun _ => fun
  | [d1, d2, d3, d4, d5, d6] => { results := [.lit (.bool false)], args := [d1, d2, d3, d4, d5, d6] }
  | _ => none }
def DuePausedWrongFalsely : Prop := duePausedRow.holds Try.pinned (OpenSpec.ofChange duePausedWrong)

/-- 'mootkeep1.DueWork': WHATEVER THE INPUT: true; the input reads as it did. -/
def dueWorkSpec : ChangeSpec := { name := "dueWork", fn := fun _ => fun
  | [d1, d2, d3] => { results := [.lit (.bool true)], args := [d1, d2, d3] }
  | _ => none }
def dueWorkRow : OpenClaim := { program := "ytdajcnhhfgnbmab", sum := "2340bf2ff5adafbf415f55762a1a2c43a61ae98e9728daa4c1e9cfbda77f9eac", func := "moothall/mootkeep1.DueWork", spec := "dueWork", unfollowed := true, recurses := true, apart := false }
def DueWorkSaid : Prop := dueWorkRow.holds Try.pinned (OpenSpec.ofChange dueWorkSpec)

/-- ITS FALSE NEIGHBOUR: 'it returns false'. Refute it at one input. -/
def dueWorkWrong : ChangeSpec := { name := "dueWork", fn := fun _ => fun
  | [d1, d2, d3] => { results := [.lit (.bool false)], args := [d1, d2, d3] }
  | _ => none }
def DueWorkWrongFalsely : Prop := dueWorkRow.holds Try.pinned (OpenSpec.ofChange dueWorkWrong)

/- THE SECOND FORM. 'bulk': how many values and letters a reading holds, each counted each time it is reached (what is shared counts as often as it is met; a slice's spare places count too). A statement '..UptoSaid' is the law's where the arguments, and the package variables that the reading takes, are together of bulk at most 1048576: NARROWER than '..Said'. Prove '..Said' where nothing that the law and all that it calls make is longer than what came in: it says more and counts as full. Else prove '..UptoSaid'. A law counts once. -/
mutual
def uptoBulk {H : Type} : DataW H → Nat
  | .lit (.string bytes) => bytes.length + 1
  | .lit _ => 1
  | .nil => 1
  | .ptr d => uptoBulk d + 1
  | .slice elems spare => uptoBulkAll elems + uptoBulkAll spare + 1
  | .agg parts => uptoBulkAll parts + 1
  | .iface _ d => uptoBulk d + 1
  | .map entries => uptoBulkEntries entries + 1
  | .held _ => 1
def uptoBulkAll {H : Type} : List (DataW H) → Nat
  | [] => 0
  | d :: r => uptoBulk d + uptoBulkAll r
def uptoBulkEntries {H : Type} : List (Lit × DataW H) → Nat
  | [] => 0
  | x :: r => uptoBulkEntry x + uptoBulkEntries r
def uptoBulkEntry {H : Type} : Lit × DataW H → Nat
  | (.string bytes, d) => bytes.length + uptoBulk d + 1
  | (_, d) => uptoBulk d + 1
 end
def uptoSmall : (H : Type) → List (DataW H) → Bool := fun _ ds => decide (uptoBulkAll ds ≤ 1048576)
def OpenSpec.upto (s : _root_.Go.ChangeSpec) : _root_.Go.OpenSpec := { _root_.Go.OpenSpec.ofChange s with cond := some uptoSmall }

/-- 'mootkeep1.FeastNext', WHERE WHAT IT READS IS OF BULK AT MOST 1048576: true; the input reads as it did. -/
def feastNextUptoRow : OpenClaim := { program := "ytdajcnhhfgnbmab", sum := "2340bf2ff5adafbf415f55762a1a2c43a61ae98e9728daa4c1e9cfbda77f9eac", func := "moothall/mootkeep1.FeastNext", spec := "feastNext", unfollowed := true, recurses := true, apart := false, narrowed := true }
def FeastNextUptoSaid : Prop := feastNextUptoRow.holds Try.pinned (OpenSpec.upto feastNextSpec)

/-- 'mootkeep1.TableSlices', WHERE WHAT IT READS IS OF BULK AT MOST 1048576: true; the input reads as it did. -/
def tableSlicesUptoRow : OpenClaim := { program := "ytdajcnhhfgnbmab", sum := "2340bf2ff5adafbf415f55762a1a2c43a61ae98e9728daa4c1e9cfbda77f9eac", func := "moothall/mootkeep1.TableSlices", spec := "tableSlices", inPlace := ["math/bits.Add64"], named := ["math/bits.divideError", "math/bits.overflowError"], apart := false, narrowed := true }
def TableSlicesUptoSaid : Prop := tableSlicesUptoRow.holds Try.pinned (OpenSpec.upto tableSlicesSpec)

/-- 'mootkeep1.CashNear', WHERE WHAT IT READS IS OF BULK AT MOST 1048576: true; the input reads as it did. -/
def cashNearUptoRow : OpenClaim := { program := "ytdajcnhhfgnbmab", sum := "2340bf2ff5adafbf415f55762a1a2c43a61ae98e9728daa4c1e9cfbda77f9eac", func := "moothall/mootkeep1.CashNear", spec := "cashNear", unfollowed := true, recurses := true, apart := false, narrowed := true }
def CashNearUptoSaid : Prop := cashNearUptoRow.holds Try.pinned (OpenSpec.upto cashNearSpec)

/-- 'moottop.TableCourses', WHERE WHAT IT READS IS OF BULK AT MOST 1048576: true; the input reads as it did. -/
def tableCoursesUptoRow : OpenClaim := { program := "ytdajcnhhfgnbmab", sum := "2340bf2ff5adafbf415f55762a1a2c43a61ae98e9728daa4c1e9cfbda77f9eac", func := "moothall/moottop.TableCourses", spec := "tableCourses", inPlace := ["math/bits.Add64"], unfollowed := true, recurses := true, named := ["math/bits.divideError", "math/bits.overflowError"], apart := false, narrowed := true }
def TableCoursesUptoSaid : Prop := tableCoursesUptoRow.holds Try.pinned (OpenSpec.upto tableCoursesSpec)

/-- 'mootkeep1.CashSums', WHERE WHAT IT READS IS OF BULK AT MOST 1048576: true; the input reads as it did. -/
def cashSumsUptoRow : OpenClaim := { program := "ytdajcnhhfgnbmab", sum := "2340bf2ff5adafbf415f55762a1a2c43a61ae98e9728daa4c1e9cfbda77f9eac", func := "moothall/mootkeep1.CashSums", spec := "cashSums", unfollowed := true, recurses := true, apart := false, narrowed := true }
def CashSumsUptoSaid : Prop := cashSumsUptoRow.holds Try.pinned (OpenSpec.upto cashSumsSpec)

/-- 'mootkeep1.TableRises', WHERE WHAT IT READS IS OF BULK AT MOST 1048576: true; the input reads as it did. -/
def tableRisesUptoRow : OpenClaim := { program := "ytdajcnhhfgnbmab", sum := "2340bf2ff5adafbf415f55762a1a2c43a61ae98e9728daa4c1e9cfbda77f9eac", func := "moothall/mootkeep1.TableRises", spec := "tableRises", inPlace := ["math/bits.Add64"], named := ["math/bits.divideError", "math/bits.overflowError"], apart := false, narrowed := true }
def TableRisesUptoSaid : Prop := tableRisesUptoRow.holds Try.pinned (OpenSpec.upto tableRisesSpec)

/-- 'mootkeep1.TableLeast', WHERE WHAT IT READS IS OF BULK AT MOST 1048576: true; the input reads as it did. -/
def tableLeastUptoRow : OpenClaim := { program := "ytdajcnhhfgnbmab", sum := "2340bf2ff5adafbf415f55762a1a2c43a61ae98e9728daa4c1e9cfbda77f9eac", func := "moothall/mootkeep1.TableLeast", spec := "tableLeast", inPlace := ["math/bits.Add64"], named := ["math/bits.divideError", "math/bits.overflowError"], apart := false, narrowed := true }
def TableLeastUptoSaid : Prop := tableLeastUptoRow.holds Try.pinned (OpenSpec.upto tableLeastSpec)

/-- 'mootkeep1.PartLimits', WHERE WHAT IT READS IS OF BULK AT MOST 1048576: true; the input reads as it did. -/
def partLimitsUptoRow : OpenClaim := { program := "ytdajcnhhfgnbmab", sum := "2340bf2ff5adafbf415f55762a1a2c43a61ae98e9728daa4c1e9cfbda77f9eac", func := "moothall/mootkeep1.PartLimits", spec := "partLimits", unfollowed := true, recurses := true, apart := false, narrowed := true }
def PartLimitsUptoSaid : Prop := partLimitsUptoRow.holds Try.pinned (OpenSpec.upto partLimitsSpec)

/-- 'moottop.DueCounted', WHERE WHAT IT READS IS OF BULK AT MOST 1048576: true; the input reads as it did. -/
def dueCountedUptoRow : OpenClaim := { program := "ytdajcnhhfgnbmab", sum := "2340bf2ff5adafbf415f55762a1a2c43a61ae98e9728daa4c1e9cfbda77f9eac", func := "moothall/moottop.DueCounted", spec := "dueCounted", inPlace := ["math/bits.Add64"], unfollowed := true, recurses := true, named := ["math/bits.divideError", "math/bits.overflowError"], apart := false, narrowed := true }
def DueCountedUptoSaid : Prop := dueCountedUptoRow.holds Try.pinned (OpenSpec.upto dueCountedSpec)

/-- 'mootkeep1.DueGrows', WHERE WHAT IT READS IS OF BULK AT MOST 1048576: true; the input reads as it did. -/
def dueGrowsUptoRow : OpenClaim := { program := "ytdajcnhhfgnbmab", sum := "2340bf2ff5adafbf415f55762a1a2c43a61ae98e9728daa4c1e9cfbda77f9eac", func := "moothall/mootkeep1.DueGrows", spec := "dueGrows", unfollowed := true, recurses := true, apart := false, narrowed := true }
def DueGrowsUptoSaid : Prop := dueGrowsUptoRow.holds Try.pinned (OpenSpec.upto dueGrowsSpec)

/-- 'mootkeep1.DuePaused', WHERE WHAT IT READS IS OF BULK AT MOST 1048576: true; the input reads as it did. -/
def duePausedUptoRow : OpenClaim := { program := "ytdajcnhhfgnbmab", sum := "2340bf2ff5adafbf415f55762a1a2c43a61ae98e9728daa4c1e9cfbda77f9eac", func := "moothall/mootkeep1.DuePaused", spec := "duePaused", unfollowed := true, recurses := true, apart := false, narrowed := true }
def DuePausedUptoSaid : Prop := duePausedUptoRow.holds Try.pinned (OpenSpec.upto duePausedSpec)

/-- 'mootkeep1.DueWork', WHERE WHAT IT READS IS OF BULK AT MOST 1048576: true; the input reads as it did. -/
def dueWorkUptoRow : OpenClaim := { program := "ytdajcnhhfgnbmab", sum := "2340bf2ff5adafbf415f55762a1a2c43a61ae98e9728daa4c1e9cfbda77f9eac", func := "moothall/mootkeep1.DueWork", spec := "dueWork", unfollowed := true, recurses := true, apart := false, narrowed := true }
def DueWorkUptoSaid : Prop := dueWorkUptoRow.holds Try.pinned (OpenSpec.upto dueWorkSpec)

end Rows
end Go.Proofs.Ytdajcnhhfgnbmab
