/-
  No cell of these rows narrows 'for every input' (looked for: loops, veiled, ifaces, maps, wideKeys, modest, calm, conditions, laid).
  DERIVED. THE GIVEN ROWS OF THIS SEAT. 9 by the template 'for every input the law returns true; each argument reads behind the call as it read before'; 0 by the template 'total and deterministic' (their statements: YthedaldmhjocdaaTotals.lean).
  GIVEN WITH THE SEED: the statements are not yours to turn. If you find one false, say at which input.
  Laid BY PROGRAM, IN A SANDBOX (cutbox-rows.mjs): the forced cells as the released guide's own fill.sh prints them over the translation 96a2b13c36cca93e… (all of the seat's roots in one cut). By AI agents, Wed Nov 11 2026. No macro, syntax, notation, axiom, sorry.
-/
import Derived.Test.YthedaldmhjocdaaChecked
import GoSem.Claim
import GoSem.ClaimJoined
import GoSem.ClaimMapViews
import Derived.JoinedTies
import Derived.KernelRfl
namespace Go.Proofs.Ythedaldmhjocdaa
/- THE CELL 'sum', in the pinned program and in every row, IS THE sha256 OF THE DUMP (.gsa) THAT YthedaldmhjocdaaProg.lean LOADS. Nothing in Lean hashes anything: it is a label: what it is worth is what the hold of that sum in a sandbox is worth. -/
noncomputable def Try.pinned : Pinned := { name := "ythedaldmhjocdaa", sum := "96a2b13c36cca93eb2e402e54faf34c843546587ff2f52f2f9392a0cfb57fb0b", checked := Try.checked }
namespace Rows
def none {H : Type} : Left H := { results := [], args := [] }

/-- 'mootkeep1.PartEstate': WHATEVER THE INPUT: true; the input reads as it did. -/
def partEstateSpec : ChangeSpec := { name := "partEstate", fn := fun _ => fun
  | [d] => { results := [.lit (.bool true)], args := [d] }
  | _ => none }
def partEstateRow : OpenClaim := { program := "ythedaldmhjocdaa", sum := "96a2b13c36cca93eb2e402e54faf34c843546587ff2f52f2f9392a0cfb57fb0b", func := "moothall/mootkeep1.PartEstate", spec := "partEstate", unfollowed := true, recurses := true, apart := false }
def PartEstateSaid : Prop := partEstateRow.holds Try.pinned (OpenSpec.ofChange partEstateSpec)

/-- ITS FALSE NEIGHBOUR: 'it returns false'. Refute it at one input. -/
def partEstateWrong : ChangeSpec := { name := "partEstate", fn := fun _ => fun
  | [d] => { results := [.lit (.bool false)], args := [d] }
  | _ => none }
def PartEstateWrongFalsely : Prop := partEstateRow.holds Try.pinned (OpenSpec.ofChange partEstateWrong)

/-- 'moottop.TableCourses': WHATEVER THE INPUT: true; the input reads as it did. -/
def tableCoursesSpec : ChangeSpec := { name := "tableCourses", fn := fun _ => fun
  | [d1, d2, d3, d4] => { results := [.lit (.bool true)], args := [d1, d2, d3, d4] }
  | _ => none }
def tableCoursesRow : OpenClaim := { program := "ythedaldmhjocdaa", sum := "96a2b13c36cca93eb2e402e54faf34c843546587ff2f52f2f9392a0cfb57fb0b", func := "moothall/moottop.TableCourses", spec := "tableCourses", inPlace := ["math/bits.Add64"], unfollowed := true, recurses := true, named := ["math/bits.divideError", "math/bits.overflowError"], apart := false }
def TableCoursesSaid : Prop := tableCoursesRow.holds Try.pinned (OpenSpec.ofChange tableCoursesSpec)

/-- ITS FALSE NEIGHBOUR: 'it returns false'. Refute it at one input. -/
def tableCoursesWrong : ChangeSpec := { name := "tableCourses", fn := fun _ => fun
  | [d1, d2, d3, d4] => { results := [.lit (.bool false)], args := [d1, d2, d3, d4] }
  | _ => none }
def TableCoursesWrongFalsely : Prop := tableCoursesRow.holds Try.pinned (OpenSpec.ofChange tableCoursesWrong)

/-- 'mootkeep1.CashSums': WHATEVER THE INPUT: true; the input reads as it did. -/
def cashSumsSpec : ChangeSpec := { name := "cashSums", fn := fun _ => fun
  | [d1, d2] => { results := [.lit (.bool true)], args := [d1, d2] }
  | _ => none }
def cashSumsRow : OpenClaim := { program := "ythedaldmhjocdaa", sum := "96a2b13c36cca93eb2e402e54faf34c843546587ff2f52f2f9392a0cfb57fb0b", func := "moothall/mootkeep1.CashSums", spec := "cashSums", unfollowed := true, recurses := true, apart := false }
def CashSumsSaid : Prop := cashSumsRow.holds Try.pinned (OpenSpec.ofChange cashSumsSpec)

/-- ITS FALSE NEIGHBOUR: 'it returns false'. Refute it at one input. -/
def cashSumsWrong : ChangeSpec := { name := "cashSums", fn := fun _ => fun
  | [d1, d2] => { results := [.lit (.bool false)], args := [d1, d2] }
  | _ => none }
def CashSumsWrongFalsely : Prop := cashSumsRow.holds Try.pinned (OpenSpec.ofChange cashSumsWrong)

/-- 'mootkeep1.PartLimits': WHATEVER THE INPUT: true; the input reads as it did. -/
def partLimitsSpec : ChangeSpec := { name := "partLimits", fn := fun _ => fun
  | [d1, d2] => { results := [.lit (.bool true)], args := [d1, d2] }
  | _ => none }
def partLimitsRow : OpenClaim := { program := "ythedaldmhjocdaa", sum := "96a2b13c36cca93eb2e402e54faf34c843546587ff2f52f2f9392a0cfb57fb0b", func := "moothall/mootkeep1.PartLimits", spec := "partLimits", unfollowed := true, recurses := true, apart := false }
def PartLimitsSaid : Prop := partLimitsRow.holds Try.pinned (OpenSpec.ofChange partLimitsSpec)

/-- ITS FALSE NEIGHBOUR: 'it returns false'. Refute it at one input. -/
def partLimitsWrong : ChangeSpec := { name := "partLimits", fn := fun _ => fun
  | [d1, d2] => { results := [.lit (.bool false)], args := [d1, d2] }
  | _ => none }
def PartLimitsWrongFalsely : Prop := partLimitsRow.holds Try.pinned (OpenSpec.ofChange partLimitsWrong)

/-- 'mootkeep1.PartWhole': WHATEVER THE INPUT: true; the input reads as it did. -/
def partWholeSpec : ChangeSpec := { name := "partWhole", fn := fun _ => fun
  | [d1, d2] => { results := [.lit (.bool true)], args := [d1, d2] }
  | _ => none }
def partWholeRow : OpenClaim := { program := "ythedaldmhjocdaa", sum := "96a2b13c36cca93eb2e402e54faf34c843546587ff2f52f2f9392a0cfb57fb0b", func := "moothall/mootkeep1.PartWhole", spec := "partWhole", unfollowed := true, recurses := true, apart := false }
def PartWholeSaid : Prop := partWholeRow.holds Try.pinned (OpenSpec.ofChange partWholeSpec)

/-- ITS FALSE NEIGHBOUR: 'it returns false'. Refute it at one input. -/
def partWholeWrong : ChangeSpec := { name := "partWhole", fn := fun _ => fun
  | [d1, d2] => { results := [.lit (.bool false)], args := [d1, d2] }
  | _ => none }
def PartWholeWrongFalsely : Prop := partWholeRow.holds Try.pinned (OpenSpec.ofChange partWholeWrong)

/-- 'mootkeep1.FactSelf': WHATEVER THE INPUT: true; the input reads as it did. -/
def factSelfSpec : ChangeSpec := { name := "factSelf", fn := fun _ => fun
  | [d1, d2, d3] => { results := [.lit (.bool true)], args := [d1, d2, d3] }
  | _ => none }
def factSelfRow : OpenClaim := { program := "ythedaldmhjocdaa", sum := "96a2b13c36cca93eb2e402e54faf34c843546587ff2f52f2f9392a0cfb57fb0b", func := "moothall/mootkeep1.FactSelf", spec := "factSelf", recurses := true, apart := false }
def FactSelfSaid : Prop := factSelfRow.holds Try.pinned (OpenSpec.ofChange factSelfSpec)

/-- ITS FALSE NEIGHBOUR: 'it returns false'. Refute it at one input. -/
def factSelfWrong : ChangeSpec := { name := "factSelf", fn := fun _ => fun
  | [d1, d2, d3] => { results := [.lit (.bool false)], args := [d1, d2, d3] }
  | _ => none }
def FactSelfWrongFalsely : Prop := factSelfRow.holds Try.pinned (OpenSpec.ofChange factSelfWrong)

/-- 'mootkeep1.FactTurned': WHATEVER THE INPUT: true; the input reads as it did. -/
def factTurnedSpec : ChangeSpec := { name := "factTurned", fn := fun _ => fun
  | [d1, d2, d3] => { results := [.lit (.bool true)], args := [d1, d2, d3] }
  | _ => none }
def factTurnedRow : OpenClaim := { program := "ythedaldmhjocdaa", sum := "96a2b13c36cca93eb2e402e54faf34c843546587ff2f52f2f9392a0cfb57fb0b", func := "moothall/mootkeep1.FactTurned", spec := "factTurned", inPlace := ["slices.overlaps[moothall/api.Fact]"], recurses := true, apart := false }
def FactTurnedSaid : Prop := factTurnedRow.holds Try.pinned (OpenSpec.ofChange factTurnedSpec)

/-- ITS FALSE NEIGHBOUR: 'it returns false'. Refute it at one input. -/
def factTurnedWrong : ChangeSpec := { name := "factTurned", fn := fun _ => fun
  | [d1, d2, d3] => { results := [.lit (.bool false)], args := [d1, d2, d3] }
  | _ => none }
def FactTurnedWrongFalsely : Prop := factTurnedRow.holds Try.pinned (OpenSpec.ofChange factTurnedWrong)

/-- 'mootkeep1.CourseZip': WHATEVER THE INPUT: true; the input reads as it did. -/
def courseZipSpec : ChangeSpec := { name := "courseZip", fn := fun _ => fun
  | [d1, d2, d3] => { results := [.lit (.bool true)], args := [d1, d2, d3] }
  | _ => none }
def courseZipRow : OpenClaim := { program := "ythedaldmhjocdaa", sum := "96a2b13c36cca93eb2e402e54faf34c843546587ff2f52f2f9392a0cfb57fb0b", func := "moothall/mootkeep1.CourseZip", spec := "courseZip", unfollowed := true, recurses := true, apart := false }
def CourseZipSaid : Prop := courseZipRow.holds Try.pinned (OpenSpec.ofChange courseZipSpec)

/-- ITS FALSE NEIGHBOUR: 'it returns false'. Refute it at one input. -/
def courseZipWrong : ChangeSpec := { name := "courseZip", fn := fun _ => fun
  | [d1, d2, d3] => { results := [.lit (.bool false)], args := [d1, d2, d3] }
  | _ => none }
def CourseZipWrongFalsely : Prop := courseZipRow.holds Try.pinned (OpenSpec.ofChange courseZipWrong)

/-- 'mootkeep1.FactLater': WHATEVER THE INPUT: true; the input reads as it did. -/
def factLaterSpec : ChangeSpec := { name := "factLater", fn := fun _ => fun
  | [d1, d2, d3, d4, d5] => { results := [.lit (.bool true)], args := [d1, d2, d3, d4, d5] }
  | _ => none }
def factLaterRow : OpenClaim := { program := "ythedaldmhjocdaa", sum := "96a2b13c36cca93eb2e402e54faf34c843546587ff2f52f2f9392a0cfb57fb0b", func := "moothall/mootkeep1.FactLater", spec := "factLater", unfollowed := true, recurses := true, apart := false }
def FactLaterSaid : Prop := factLaterRow.holds Try.pinned (OpenSpec.ofChange factLaterSpec)

/-- ITS FALSE NEIGHBOUR: 'it returns false'. Refute it at one input. -/
def factLaterWrong : ChangeSpec := { name := "factLater", fn := fun _ => fun
  | [d1, d2, d3, d4, d5] => { results := [.lit (.bool false)], args := [d1, d2, d3, d4, d5] }
  | _ => none }
def FactLaterWrongFalsely : Prop := factLaterRow.holds Try.pinned (OpenSpec.ofChange factLaterWrong)

/- THE SECOND FORM. 'bulk': how many values and letters a reading holds, each counted each time it is reached (what is shared counts as often as it is met; a slice's spare places count too). A statement '..UptoSaid' is the law's where the arguments, and the package variables that the reading takes, are together of bulk at most 1048576: NARROWER than '..Said'. Prove '..Said' where nothing that the law and all that it calls make is longer than what came in: it says more and counts as full. Else prove '..UptoSaid'. A law counts once. -/
mutual
def uptoBulk {H : Type} : DataW H → Nat
  | .lit (.string bytes) => bytes.length + 1
  | .lit _ => 1
  | .nil => 1
  | .ptr d => uptoBulk d + 1
  | .slice elems spare => uptoBulkAll elems + uptoBulkAll spare + 1
  | .agg parts => uptoBulkAll parts + 1
  | .iface _ d => uptoBulk d + 1
  | .map entries => uptoBulkEntries entries + 1
  | .held _ => 1
def uptoBulkAll {H : Type} : List (DataW H) → Nat
  | [] => 0
  | d :: r => uptoBulk d + uptoBulkAll r
def uptoBulkEntries {H : Type} : List (Lit × DataW H) → Nat
  | [] => 0
  | x :: r => uptoBulkEntry x + uptoBulkEntries r
def uptoBulkEntry {H : Type} : Lit × DataW H → Nat
  | (.string bytes, d) => bytes.length + uptoBulk d + 1
  | (_, d) => uptoBulk d + 1
 end
def uptoSmall : (H : Type) → List (DataW H) → Bool := fun _ ds => decide (uptoBulkAll ds ≤ 1048576)
def OpenSpec.upto (s : _root_.Go.ChangeSpec) : _root_.Go.OpenSpec := { _root_.Go.OpenSpec.ofChange s with cond := some uptoSmall }

/-- 'mootkeep1.PartEstate', WHERE WHAT IT READS IS OF BULK AT MOST 1048576: true; the input reads as it did. -/
def partEstateUptoRow : OpenClaim := { program := "ythedaldmhjocdaa", sum := "96a2b13c36cca93eb2e402e54faf34c843546587ff2f52f2f9392a0cfb57fb0b", func := "moothall/mootkeep1.PartEstate", spec := "partEstate", unfollowed := true, recurses := true, apart := false, narrowed := true }
def PartEstateUptoSaid : Prop := partEstateUptoRow.holds Try.pinned (OpenSpec.upto partEstateSpec)

/-- 'moottop.TableCourses', WHERE WHAT IT READS IS OF BULK AT MOST 1048576: true; the input reads as it did. -/
def tableCoursesUptoRow : OpenClaim := { program := "ythedaldmhjocdaa", sum := "96a2b13c36cca93eb2e402e54faf34c843546587ff2f52f2f9392a0cfb57fb0b", func := "moothall/moottop.TableCourses", spec := "tableCourses", inPlace := ["math/bits.Add64"], unfollowed := true, recurses := true, named := ["math/bits.divideError", "math/bits.overflowError"], apart := false, narrowed := true }
def TableCoursesUptoSaid : Prop := tableCoursesUptoRow.holds Try.pinned (OpenSpec.upto tableCoursesSpec)

/-- 'mootkeep1.CashSums', WHERE WHAT IT READS IS OF BULK AT MOST 1048576: true; the input reads as it did. -/
def cashSumsUptoRow : OpenClaim := { program := "ythedaldmhjocdaa", sum := "96a2b13c36cca93eb2e402e54faf34c843546587ff2f52f2f9392a0cfb57fb0b", func := "moothall/mootkeep1.CashSums", spec := "cashSums", unfollowed := true, recurses := true, apart := false, narrowed := true }
def CashSumsUptoSaid : Prop := cashSumsUptoRow.holds Try.pinned (OpenSpec.upto cashSumsSpec)

/-- 'mootkeep1.PartLimits', WHERE WHAT IT READS IS OF BULK AT MOST 1048576: true; the input reads as it did. -/
def partLimitsUptoRow : OpenClaim := { program := "ythedaldmhjocdaa", sum := "96a2b13c36cca93eb2e402e54faf34c843546587ff2f52f2f9392a0cfb57fb0b", func := "moothall/mootkeep1.PartLimits", spec := "partLimits", unfollowed := true, recurses := true, apart := false, narrowed := true }
def PartLimitsUptoSaid : Prop := partLimitsUptoRow.holds Try.pinned (OpenSpec.upto partLimitsSpec)

/-- 'mootkeep1.PartWhole', WHERE WHAT IT READS IS OF BULK AT MOST 1048576: true; the input reads as it did. -/
def partWholeUptoRow : OpenClaim := { program := "ythedaldmhjocdaa", sum := "96a2b13c36cca93eb2e402e54faf34c843546587ff2f52f2f9392a0cfb57fb0b", func := "moothall/mootkeep1.PartWhole", spec := "partWhole", unfollowed := true, recurses := true, apart := false, narrowed := true }
def PartWholeUptoSaid : Prop := partWholeUptoRow.holds Try.pinned (OpenSpec.upto partWholeSpec)

/-- 'mootkeep1.FactSelf', WHERE WHAT IT READS IS OF BULK AT MOST 1048576: true; the input reads as it did. -/
def factSelfUptoRow : OpenClaim := { program := "ythedaldmhjocdaa", sum := "96a2b13c36cca93eb2e402e54faf34c843546587ff2f52f2f9392a0cfb57fb0b", func := "moothall/mootkeep1.FactSelf", spec := "factSelf", recurses := true, apart := false, narrowed := true }
def FactSelfUptoSaid : Prop := factSelfUptoRow.holds Try.pinned (OpenSpec.upto factSelfSpec)

/-- 'mootkeep1.FactTurned', WHERE WHAT IT READS IS OF BULK AT MOST 1048576: true; the input reads as it did. -/
def factTurnedUptoRow : OpenClaim := { program := "ythedaldmhjocdaa", sum := "96a2b13c36cca93eb2e402e54faf34c843546587ff2f52f2f9392a0cfb57fb0b", func := "moothall/mootkeep1.FactTurned", spec := "factTurned", inPlace := ["slices.overlaps[moothall/api.Fact]"], recurses := true, apart := false, narrowed := true }
def FactTurnedUptoSaid : Prop := factTurnedUptoRow.holds Try.pinned (OpenSpec.upto factTurnedSpec)

/-- 'mootkeep1.CourseZip', WHERE WHAT IT READS IS OF BULK AT MOST 1048576: true; the input reads as it did. -/
def courseZipUptoRow : OpenClaim := { program := "ythedaldmhjocdaa", sum := "96a2b13c36cca93eb2e402e54faf34c843546587ff2f52f2f9392a0cfb57fb0b", func := "moothall/mootkeep1.CourseZip", spec := "courseZip", unfollowed := true, recurses := true, apart := false, narrowed := true }
def CourseZipUptoSaid : Prop := courseZipUptoRow.holds Try.pinned (OpenSpec.upto courseZipSpec)

/-- 'mootkeep1.FactLater', WHERE WHAT IT READS IS OF BULK AT MOST 1048576: true; the input reads as it did. -/
def factLaterUptoRow : OpenClaim := { program := "ythedaldmhjocdaa", sum := "96a2b13c36cca93eb2e402e54faf34c843546587ff2f52f2f9392a0cfb57fb0b", func := "moothall/mootkeep1.FactLater", spec := "factLater", unfollowed := true, recurses := true, apart := false, narrowed := true }
def FactLaterUptoSaid : Prop := factLaterUptoRow.holds Try.pinned (OpenSpec.upto factLaterSpec)

end Rows
end Go.Proofs.Ythedaldmhjocdaa
