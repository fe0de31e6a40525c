/-
  No cell of these rows narrows 'for every input' (looked for: loops, veiled, ifaces, maps, wideKeys, modest, calm, conditions, laid).
  DERIVED. THE GIVEN ROWS OF THIS SEAT. 12 by the template 'for every input the law returns true; each argument reads behind the call as it read before'; 0 by the template 'total and deterministic' (their statements: YtaljkilnpfmlaaaTotals.lean).
  GIVEN WITH THE SEED: the statements are not yours to turn. If you find one false, say at which input.
  Laid BY PROGRAM, IN A SANDBOX (cutbox-rows.mjs): the forced cells as the released guide's own fill.sh prints them over the translation 6692509b6a1fe913… (all of the seat's roots in one cut). By AI agents, Wed Nov 11 2026. No macro, syntax, notation, axiom, sorry.
-/
import Derived.Test.YtaljkilnpfmlaaaChecked
import GoSem.Claim
import GoSem.ClaimJoined
import GoSem.ClaimMapViews
import Derived.JoinedTies
import Derived.KernelRfl
namespace Go.Proofs.Ytaljkilnpfmlaaa
/- THE CELL 'sum', in the pinned program and in every row, IS THE sha256 OF THE DUMP (.gsa) THAT YtaljkilnpfmlaaaProg.lean LOADS. Nothing in Lean hashes anything: it is a label: what it is worth is what the hold of that sum in a sandbox is worth. -/
noncomputable def Try.pinned : Pinned := { name := "ytaljkilnpfmlaaa", sum := "6692509b6a1fe913417250088352934b3e32b44ace6acd7fe82f8da6db59875f", checked := Try.checked }
namespace Rows
def none {H : Type} : Left H := { results := [], args := [] }

/-- 'mootkeep1.PartEstate': WHATEVER THE INPUT: true; the input reads as it did. -/
def partEstateSpec : ChangeSpec := { name := "partEstate", fn := fun _ => fun
  | [d] => { results := [.lit (.bool true)], args := [d] }
  | _ => none }
def partEstateRow : OpenClaim := { program := "ytaljkilnpfmlaaa", sum := "6692509b6a1fe913417250088352934b3e32b44ace6acd7fe82f8da6db59875f", func := "moothall/mootkeep1.PartEstate", spec := "partEstate", unfollowed := true, recurses := true, apart := false }
def PartEstateSaid : Prop := partEstateRow.holds Try.pinned (OpenSpec.ofChange partEstateSpec)

/-- ITS FALSE NEIGHBOUR: 'it returns false'. Refute it at one input. -/
def partEstateWrong : ChangeSpec := { name := "partEstate", fn := fun _ => fun
  | [d] => { results := [.lit (.bool false)], args := [d] }
  | _ => none }
def PartEstateWrongFalsely : Prop := partEstateRow.holds Try.pinned (OpenSpec.ofChange partEstateWrong)

/-- 'moottop.CashMonths': WHATEVER THE INPUT: true; the input reads as it did. -/
def cashMonthsSpec : ChangeSpec := { name := "cashMonths", fn := fun _ => fun
  | [d1, d2] => { results := [.lit (.bool true)], args := [d1, d2] }
  | _ => none }
def cashMonthsRow : OpenClaim := { program := "ytaljkilnpfmlaaa", sum := "6692509b6a1fe913417250088352934b3e32b44ace6acd7fe82f8da6db59875f", func := "moothall/moottop.CashMonths", spec := "cashMonths", inPlace := ["math/bits.Add64"], unfollowed := true, recurses := true, named := ["math/bits.divideError", "math/bits.overflowError"], apart := false }
def CashMonthsSaid : Prop := cashMonthsRow.holds Try.pinned (OpenSpec.ofChange cashMonthsSpec)

/-- ITS FALSE NEIGHBOUR: 'it returns false'. Refute it at one input. -/
def cashMonthsWrong : ChangeSpec := { name := "cashMonths", fn := fun _ => fun
  | [d1, d2] => { results := [.lit (.bool false)], args := [d1, d2] }
  | _ => none }
def CashMonthsWrongFalsely : Prop := cashMonthsRow.holds Try.pinned (OpenSpec.ofChange cashMonthsWrong)

/-- 'mootkeep1.FeastNext': WHATEVER THE INPUT: true; the input reads as it did. -/
def feastNextSpec : ChangeSpec := { name := "feastNext", fn := fun _ => fun
  | [d1, d2, d3, d4] => { results := [.lit (.bool true)], args := [d1, d2, d3, d4] }
  | _ => none }
def feastNextRow : OpenClaim := { program := "ytaljkilnpfmlaaa", sum := "6692509b6a1fe913417250088352934b3e32b44ace6acd7fe82f8da6db59875f", func := "moothall/mootkeep1.FeastNext", spec := "feastNext", unfollowed := true, recurses := true, apart := false }
def FeastNextSaid : Prop := feastNextRow.holds Try.pinned (OpenSpec.ofChange feastNextSpec)

/-- ITS FALSE NEIGHBOUR: 'it returns false'. Refute it at one input. -/
def feastNextWrong : ChangeSpec := { name := "feastNext", fn := fun _ => fun
  | [d1, d2, d3, d4] => { results := [.lit (.bool false)], args := [d1, d2, d3, d4] }
  | _ => none }
def FeastNextWrongFalsely : Prop := feastNextRow.holds Try.pinned (OpenSpec.ofChange feastNextWrong)

/-- 'mootkeep1.CashNear': WHATEVER THE INPUT: true; the input reads as it did. -/
def cashNearSpec : ChangeSpec := { name := "cashNear", fn := fun _ => fun
  | [d1, d2, d3] => { results := [.lit (.bool true)], args := [d1, d2, d3] }
  | _ => none }
def cashNearRow : OpenClaim := { program := "ytaljkilnpfmlaaa", sum := "6692509b6a1fe913417250088352934b3e32b44ace6acd7fe82f8da6db59875f", func := "moothall/mootkeep1.CashNear", spec := "cashNear", unfollowed := true, recurses := true, apart := false }
def CashNearSaid : Prop := cashNearRow.holds Try.pinned (OpenSpec.ofChange cashNearSpec)

/-- ITS FALSE NEIGHBOUR: 'it returns false'. Refute it at one input. -/
def cashNearWrong : ChangeSpec := { name := "cashNear", fn := fun _ => fun
  | [d1, d2, d3] => { results := [.lit (.bool false)], args := [d1, d2, d3] }
  | _ => none }
def CashNearWrongFalsely : Prop := cashNearRow.holds Try.pinned (OpenSpec.ofChange cashNearWrong)

/-- 'moottop.TableCourses': WHATEVER THE INPUT: true; the input reads as it did. -/
def tableCoursesSpec : ChangeSpec := { name := "tableCourses", fn := fun _ => fun
  | [d1, d2, d3, d4] => { results := [.lit (.bool true)], args := [d1, d2, d3, d4] }
  | _ => none }
def tableCoursesRow : OpenClaim := { program := "ytaljkilnpfmlaaa", sum := "6692509b6a1fe913417250088352934b3e32b44ace6acd7fe82f8da6db59875f", func := "moothall/moottop.TableCourses", spec := "tableCourses", inPlace := ["math/bits.Add64"], unfollowed := true, recurses := true, named := ["math/bits.divideError", "math/bits.overflowError"], apart := false }
def TableCoursesSaid : Prop := tableCoursesRow.holds Try.pinned (OpenSpec.ofChange tableCoursesSpec)

/-- ITS FALSE NEIGHBOUR: 'it returns false'. Refute it at one input. -/
def tableCoursesWrong : ChangeSpec := { name := "tableCourses", fn := fun _ => fun
  | [d1, d2, d3, d4] => { results := [.lit (.bool false)], args := [d1, d2, d3, d4] }
  | _ => none }
def TableCoursesWrongFalsely : Prop := tableCoursesRow.holds Try.pinned (OpenSpec.ofChange tableCoursesWrong)

/-- 'mootkeep1.PartLimits': WHATEVER THE INPUT: true; the input reads as it did. -/
def partLimitsSpec : ChangeSpec := { name := "partLimits", fn := fun _ => fun
  | [d1, d2] => { results := [.lit (.bool true)], args := [d1, d2] }
  | _ => none }
def partLimitsRow : OpenClaim := { program := "ytaljkilnpfmlaaa", sum := "6692509b6a1fe913417250088352934b3e32b44ace6acd7fe82f8da6db59875f", func := "moothall/mootkeep1.PartLimits", spec := "partLimits", unfollowed := true, recurses := true, apart := false }
def PartLimitsSaid : Prop := partLimitsRow.holds Try.pinned (OpenSpec.ofChange partLimitsSpec)

/-- ITS FALSE NEIGHBOUR: 'it returns false'. Refute it at one input. -/
def partLimitsWrong : ChangeSpec := { name := "partLimits", fn := fun _ => fun
  | [d1, d2] => { results := [.lit (.bool false)], args := [d1, d2] }
  | _ => none }
def PartLimitsWrongFalsely : Prop := partLimitsRow.holds Try.pinned (OpenSpec.ofChange partLimitsWrong)

/-- 'moottop.DueCounted': WHATEVER THE INPUT: true; the input reads as it did. -/
def dueCountedSpec : ChangeSpec := { name := "dueCounted", fn := fun _ => fun
  | [d1, d2, d3, d4, d5] => { results := [.lit (.bool true)], args := [d1, d2, d3, d4, d5] }
  | _ => none }
def dueCountedRow : OpenClaim := { program := "ytaljkilnpfmlaaa", sum := "6692509b6a1fe913417250088352934b3e32b44ace6acd7fe82f8da6db59875f", func := "moothall/moottop.DueCounted", spec := "dueCounted", inPlace := ["math/bits.Add64"], unfollowed := true, recurses := true, named := ["math/bits.divideError", "math/bits.overflowError"], apart := false }
def DueCountedSaid : Prop := dueCountedRow.holds Try.pinned (OpenSpec.ofChange dueCountedSpec)

/-- ITS FALSE NEIGHBOUR: 'it returns false'. Refute it at one input. -/
def dueCountedWrong : ChangeSpec := { name := "dueCounted", fn := fun _ => fun
  | [d1, d2, d3, d4, d5] => { results := [.lit (.bool false)], args := [d1, d2, d3, d4, d5] }
  | _ => none }
def DueCountedWrongFalsely : Prop := dueCountedRow.holds Try.pinned (OpenSpec.ofChange dueCountedWrong)

/-- 'mootkeep1.DueGrows': WHATEVER THE INPUT: true; the input reads as it did. -/
def dueGrowsSpec : ChangeSpec := { name := "dueGrows", fn := fun _ => fun
  | [d1, d2, d3, d4, d5] => { results := [.lit (.bool true)], args := [d1, d2, d3, d4, d5] }
  | _ => none }
def dueGrowsRow : OpenClaim := { program := "ytaljkilnpfmlaaa", sum := "6692509b6a1fe913417250088352934b3e32b44ace6acd7fe82f8da6db59875f", func := "moothall/mootkeep1.DueGrows", spec := "dueGrows", unfollowed := true, recurses := true, apart := false }
def DueGrowsSaid : Prop := dueGrowsRow.holds Try.pinned (OpenSpec.ofChange dueGrowsSpec)

/-- ITS FALSE NEIGHBOUR: 'it returns false'. Refute it at one input. -/
def dueGrowsWrong : ChangeSpec := { name := "dueGrows", fn := fun _ => fun
  | [d1, d2, d3, d4, d5] => { results := [.lit (.bool false)], args := [d1, d2, d3, d4, d5] }
  | _ => none }
def DueGrowsWrongFalsely : Prop := dueGrowsRow.holds Try.pinned (OpenSpec.ofChange dueGrowsWrong)

/-- 'mootkeep1.DuePaused': WHATEVER THE INPUT: true; the input reads as it did. -/
def duePausedSpec : ChangeSpec := { name := "duePaused", fn := fun _ => fun
  | [d1, d2, d3, d4, d5, d6] => { results := [.lit (.bool true)], args := [d1, d2, d3, d4, d5, d6] }
  | _ => none }
def duePausedRow : OpenClaim := { program := "ytaljkilnpfmlaaa", sum := "6692509b6a1fe913417250088352934b3e32b44ace6acd7fe82f8da6db59875f", func := "moothall/mootkeep1.DuePaused", spec := "duePaused", unfollowed := true, recurses := true, apart := false }
def DuePausedSaid : Prop := duePausedRow.holds Try.pinned (OpenSpec.ofChange duePausedSpec)

/-- ITS FALSE NEIGHBOUR: 'it returns false'. Refute it at one input. -/
def duePausedWrong : ChangeSpec := { name := "duePaused", fn := fun _ => fun
  | [d1, d2, d3, d4, d5, d6] => { results := [.lit (.bool false)], args := [d1, d2, d3, d4, d5, d6] }
  | _ => none }
def DuePausedWrongFalsely : Prop := duePausedRow.holds Try.pinned (OpenSpec.ofChange duePausedWrong)

/-- 'mootkeep1.DueWork': WHATEVER THE INPUT: true; the input reads as it did. -/
def dueWorkSpec : ChangeSpec := { name := "dueWork", fn := fun _ => fun
  | [d1, d2, d3] => { results := [.lit (.bool true)], args := [d1, d2, d3] }
  | _ => none }
def dueWorkRow : OpenClaim := { program := "ytaljkilnpfmlaaa", sum := "6692509b6a1fe913417250088352934b3e32b44ace6acd7fe82f8da6db59875f", func := "moothall/mootkeep1.DueWork", spec := "dueWork", unfollowed := true, recurses := true, apart := false }
def DueWorkSaid : Prop := dueWorkRow.holds Try.pinned (OpenSpec.ofChange dueWorkSpec)

/-- ITS FALSE NEIGHBOUR: 'it returns false'. Refute it at one input. -/
def dueWorkWrong : ChangeSpec := { name := "dueWork", fn := fun _ => fun
  | [d1, d2, d3] => { results := [.lit (.bool false)], args := [d1, d2, d3] }
  | _ => none }
def DueWorkWrongFalsely : Prop := dueWorkRow.holds Try.pinned (OpenSpec.ofChange dueWorkWrong)

/-- 'mootkeep1.PartWhole': WHATEVER THE INPUT: true; the input reads as it did. -/
def partWholeSpec : ChangeSpec := { name := "partWhole", fn := fun _ => fun
  | [d1, d2] => { results := [.lit (.bool true)], args := [d1, d2] }
  | _ => none }
def partWholeRow : OpenClaim := { program := "ytaljkilnpfmlaaa", sum := "6692509b6a1fe913417250088352934b3e32b44ace6acd7fe82f8da6db59875f", func := "moothall/mootkeep1.PartWhole", spec := "partWhole", unfollowed := true, recurses := true, apart := false }
def PartWholeSaid : Prop := partWholeRow.holds Try.pinned (OpenSpec.ofChange partWholeSpec)

/-- ITS FALSE NEIGHBOUR: 'it returns false'. Refute it at one input. -/
def partWholeWrong : ChangeSpec := { name := "partWhole", fn := fun _ => fun
  | [d1, d2] => { results := [.lit (.bool false)], args := [d1, d2] }
  | _ => none }
def PartWholeWrongFalsely : Prop := partWholeRow.holds Try.pinned (OpenSpec.ofChange partWholeWrong)

/-- 'mootkeep1.CashScaled': WHATEVER THE INPUT: true; the input reads as it did. -/
def cashScaledSpec : ChangeSpec := { name := "cashScaled", fn := fun _ => fun
  | [d1, d2, d3] => { results := [.lit (.bool true)], args := [d1, d2, d3] }
  | _ => none }
def cashScaledRow : OpenClaim := { program := "ytaljkilnpfmlaaa", sum := "6692509b6a1fe913417250088352934b3e32b44ace6acd7fe82f8da6db59875f", func := "moothall/mootkeep1.CashScaled", spec := "cashScaled", unfollowed := true, recurses := true, named := ["math/bits.divideError", "math/bits.overflowError"], apart := false }
def CashScaledSaid : Prop := cashScaledRow.holds Try.pinned (OpenSpec.ofChange cashScaledSpec)

/-- ITS FALSE NEIGHBOUR: 'it returns false'. Refute it at one input. -/
def cashScaledWrong : ChangeSpec := { name := "cashScaled", fn := fun _ => fun
  | [d1, d2, d3] => { results := [.lit (.bool false)], args := [d1, d2, d3] }
  | _ => none }
def CashScaledWrongFalsely : Prop := cashScaledRow.holds Try.pinned (OpenSpec.ofChange cashScaledWrong)

/- THE SECOND FORM. 'bulk': how many values and letters a reading holds, each counted each time it is reached (what is shared counts as often as it is met; a slice's spare places count too). A statement '..UptoSaid' is the law's where the arguments, and the package variables that the reading takes, are together of bulk at most 1048576: NARROWER than '..Said'. Prove '..Said' where nothing that the law and all that it calls make is longer than what came in: it says more and counts as full. Else prove '..UptoSaid'. A law counts once. -/
mutual
def uptoBulk {H : Type} : DataW H → Nat
  | .lit (.string bytes) => bytes.length + 1
  | .lit _ => 1
  | .nil => 1
  | .ptr d => uptoBulk d + 1
  | .slice elems spare => uptoBulkAll elems + uptoBulkAll spare + 1
  | .agg parts => uptoBulkAll parts + 1
  | .iface _ d => uptoBulk d + 1
  | .map entries => uptoBulkEntries entries + 1
  | .held _ => 1
def uptoBulkAll {H : Type} : List (DataW H) → Nat
  | [] => 0
  | d :: r => uptoBulk d + uptoBulkAll r
def uptoBulkEntries {H : Type} : List (Lit × DataW H) → Nat
  | [] => 0
  | x :: r => uptoBulkEntry x + uptoBulkEntries r
def uptoBulkEntry {H : Type} : Lit × DataW H → Nat
  | (.string bytes, d) => bytes.length + uptoBulk d + 1
  | (_, d) => uptoBulk d + 1
 end
def uptoSmall : (H : Type) → List (DataW H) → Bool := fun _ ds => decide (uptoBulkAll ds ≤ 1048576)
def OpenSpec.upto (s : _root_.Go.ChangeSpec) : _root_.Go.OpenSpec := { _root_.Go.OpenSpec.ofChange s with cond := some uptoSmall }

/-- 'mootkeep1.PartEstate', WHERE WHAT IT READS IS OF BULK AT MOST 1048576: true; the input reads as it did. -/
def partEstateUptoRow : OpenClaim := { program := "ytaljkilnpfmlaaa", sum := "6692509b6a1fe913417250088352934b3e32b44ace6acd7fe82f8da6db59875f", func := "moothall/mootkeep1.PartEstate", spec := "partEstate", unfollowed := true, recurses := true, apart := false, narrowed := true }
def PartEstateUptoSaid : Prop := partEstateUptoRow.holds Try.pinned (OpenSpec.upto partEstateSpec)

/-- 'moottop.CashMonths', WHERE WHAT IT READS IS OF BULK AT MOST 1048576: true; the input reads as it did. -/
def cashMonthsUptoRow : OpenClaim := { program := "ytaljkilnpfmlaaa", sum := "6692509b6a1fe913417250088352934b3e32b44ace6acd7fe82f8da6db59875f", func := "moothall/moottop.CashMonths", spec := "cashMonths", inPlace := ["math/bits.Add64"], unfollowed := true, recurses := true, named := ["math/bits.divideError", "math/bits.overflowError"], apart := false, narrowed := true }
def CashMonthsUptoSaid : Prop := cashMonthsUptoRow.holds Try.pinned (OpenSpec.upto cashMonthsSpec)

/-- 'mootkeep1.FeastNext', WHERE WHAT IT READS IS OF BULK AT MOST 1048576: true; the input reads as it did. -/
def feastNextUptoRow : OpenClaim := { program := "ytaljkilnpfmlaaa", sum := "6692509b6a1fe913417250088352934b3e32b44ace6acd7fe82f8da6db59875f", func := "moothall/mootkeep1.FeastNext", spec := "feastNext", unfollowed := true, recurses := true, apart := false, narrowed := true }
def FeastNextUptoSaid : Prop := feastNextUptoRow.holds Try.pinned (OpenSpec.upto feastNextSpec)

/-- 'mootkeep1.CashNear', WHERE WHAT IT READS IS OF BULK AT MOST 1048576: true; the input reads as it did. -/
def cashNearUptoRow : OpenClaim := { program := "ytaljkilnpfmlaaa", sum := "6692509b6a1fe913417250088352934b3e32b44ace6acd7fe82f8da6db59875f", func := "moothall/mootkeep1.CashNear", spec := "cashNear", unfollowed := true, recurses := true, apart := false, narrowed := true }
def CashNearUptoSaid : Prop := cashNearUptoRow.holds Try.pinned (OpenSpec.upto cashNearSpec)

/-- 'moottop.TableCourses', WHERE WHAT IT READS IS OF BULK AT MOST 1048576: true; the input reads as it did. -/
def tableCoursesUptoRow : OpenClaim := { program := "ytaljkilnpfmlaaa", sum := "6692509b6a1fe913417250088352934b3e32b44ace6acd7fe82f8da6db59875f", func := "moothall/moottop.TableCourses", spec := "tableCourses", inPlace := ["math/bits.Add64"], unfollowed := true, recurses := true, named := ["math/bits.divideError", "math/bits.overflowError"], apart := false, narrowed := true }
def TableCoursesUptoSaid : Prop := tableCoursesUptoRow.holds Try.pinned (OpenSpec.upto tableCoursesSpec)

/-- 'mootkeep1.PartLimits', WHERE WHAT IT READS IS OF BULK AT MOST 1048576: true; the input reads as it did. -/
def partLimitsUptoRow : OpenClaim := { program := "ytaljkilnpfmlaaa", sum := "6692509b6a1fe913417250088352934b3e32b44ace6acd7fe82f8da6db59875f", func := "moothall/mootkeep1.PartLimits", spec := "partLimits", unfollowed := true, recurses := true, apart := false, narrowed := true }
def PartLimitsUptoSaid : Prop := partLimitsUptoRow.holds Try.pinned (OpenSpec.upto partLimitsSpec)

/-- 'moottop.DueCounted', WHERE WHAT IT READS IS OF BULK AT MOST 1048576: true; the input reads as it did. -/
def dueCountedUptoRow : OpenClaim := { program := "ytaljkilnpfmlaaa", sum := "6692509b6a1fe913417250088352934b3e32b44ace6acd7fe82f8da6db59875f", func := "moothall/moottop.DueCounted", spec := "dueCounted", inPlace := ["math/bits.Add64"], unfollowed := true, recurses := true, named := ["math/bits.divideError", "math/bits.overflowError"], apart := false, narrowed := true }
def DueCountedUptoSaid : Prop := dueCountedUptoRow.holds Try.pinned (OpenSpec.upto dueCountedSpec)

/-- 'mootkeep1.DueGrows', WHERE WHAT IT READS IS OF BULK AT MOST 1048576: true; the input reads as it did. -/
def dueGrowsUptoRow : OpenClaim := { program := "ytaljkilnpfmlaaa", sum := "6692509b6a1fe913417250088352934b3e32b44ace6acd7fe82f8da6db59875f", func := "moothall/mootkeep1.DueGrows", spec := "dueGrows", unfollowed := true, recurses := true, apart := false, narrowed := true }
def DueGrowsUptoSaid : Prop := dueGrowsUptoRow.holds Try.pinned (OpenSpec.upto dueGrowsSpec)

/-- 'mootkeep1.DuePaused', WHERE WHAT IT READS IS OF BULK AT MOST 1048576: true; the input reads as it did. -/
def duePausedUptoRow : OpenClaim := { program := "ytaljkilnpfmlaaa", sum := "6692509b6a1fe913417250088352934b3e32b44ace6acd7fe82f8da6db59875f", func := "moothall/mootkeep1.DuePaused", spec := "duePaused", unfollowed := true, recurses := true, apart := false, narrowed := true }
def DuePausedUptoSaid : Prop := duePausedUptoRow.holds Try.pinned (OpenSpec.upto duePausedSpec)

/-- 'mootkeep1.DueWork', WHERE WHAT IT READS IS OF BULK AT MOST 1048576: true; the input reads as it did. -/
def dueWorkUptoRow : OpenClaim := { program := "ytaljkilnpfmlaaa", sum := "6692509b6a1fe913417250088352934b3e32b44ace6acd7fe82f8da6db59875f", func := "moothall/mootkeep1.DueWork", spec := "dueWork", unfollowed := true, recurses := true, apart := false, narrowed := true }
def DueWorkUptoSaid : Prop := dueWorkUptoRow.holds Try.pinned (OpenSpec.upto dueWorkSpec)

/-- 'mootkeep1.PartWhole', WHERE WHAT IT READS IS OF BULK AT MOST 1048576: true; the input reads as it did. -/
def partWholeUptoRow : OpenClaim := { program := "ytaljkilnpfmlaaa", sum := "6692509b6a1fe913417250088352934b3e32b44ace6acd7fe82f8da6db59875f", func := "moothall/mootkeep1.PartWhole", spec := "partWhole", unfollowed := true, recurses := true, apart := false, narrowed := true }
def PartWholeUptoSaid : Prop := partWholeUptoRow.holds Try.pinned (OpenSpec.upto partWholeSpec)

/-- 'mootkeep1.CashScaled', WHERE WHAT IT READS IS OF BULK AT MOST 1048576: true; the input reads as it did. -/
def cashScaledUptoRow : OpenClaim := { program := "ytaljkilnpfmlaaa", sum := "6692509b6a1fe913417250088352934b3e32b44ace6acd7fe82f8da6db59875f", func := "moothall/mootkeep1.CashScaled", spec := "cashScaled", unfollowed := true, recurses := true, named := ["math/bits.divideError", "math/bits.overflowError"], apart := false, narrowed := true }
def CashScaledUptoSaid : Prop := cashScaledUptoRow.holds Try.pinned (OpenSpec.upto cashScaledSpec)

end Rows
end Go.Proofs.Ytaljkilnpfmlaaa
