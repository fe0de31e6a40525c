/-
  No cell of these rows narrows 'for every input' (looked for: loops, veiled, ifaces, maps, wideKeys, modest, calm, conditions, laid).
  DERIVED. THE GIVEN ROWS OF THIS SEAT. 12 by the template 'for every input the law returns true; each argument reads behind the call as it read before'; 0 by the template 'total and deterministic' (their statements: YtdajcnhhfgnbmaaTotals.lean).
  GIVEN WITH THE SEED: the statements are not yours to turn. If you find one false, say at which input.
  Laid BY PROGRAM, IN A SANDBOX (cutbox-rows.mjs): the forced cells as the released guide's own fill.sh prints them over the translation b486681b946fc937… (all of the seat's roots in one cut). By AI agents, Wed Nov 11 2026. No macro, syntax, notation, axiom, sorry.
-/
import Derived.Test.YtdajcnhhfgnbmaaChecked
import GoSem.Claim
import GoSem.ClaimJoined
import GoSem.ClaimMapViews
import Derived.JoinedTies
import Derived.KernelRfl
namespace Go.Proofs.Ytdajcnhhfgnbmaa
/- THE CELL 'sum', in the pinned program and in every row, IS THE sha256 OF THE DUMP (.gsa) THAT YtdajcnhhfgnbmaaProg.lean LOADS. Nothing in Lean hashes anything: it is a label: what it is worth is what the hold of that sum in a sandbox is worth. -/
noncomputable def Try.pinned : Pinned := { name := "ytdajcnhhfgnbmaa", sum := "b486681b946fc937f6ac2f8da6c81e7100e8aa9498632d11532c54e540ab1ca8", checked := Try.checked }
namespace Rows
def none {H : Type} : Left H := { results := [], args := [] }

/-- 'mootkeep1.ThreeLaws': WHATEVER THE INPUT: true; the input reads as it did. -/
def threeLawsSpec : ChangeSpec := { name := "threeLaws", fn := fun _ => fun
  | [d1, d2, d3] => { results := [.lit (.bool true)], args := [d1, d2, d3] }
  | _ => none }
def threeLawsRow : OpenClaim := { program := "ytdajcnhhfgnbmaa", sum := "b486681b946fc937f6ac2f8da6c81e7100e8aa9498632d11532c54e540ab1ca8", func := "moothall/mootkeep1.ThreeLaws", spec := "threeLaws", apart := false }
def ThreeLawsSaid : Prop := threeLawsRow.holds Try.pinned (OpenSpec.ofChange threeLawsSpec)

/-- ITS FALSE NEIGHBOUR: 'it returns false'. Refute it at one input. -/
def threeLawsWrong : ChangeSpec := { name := "threeLaws", fn := fun _ => fun
  | [d1, d2, d3] => { results := [.lit (.bool false)], args := [d1, d2, d3] }
  | _ => none }
def ThreeLawsWrongFalsely : Prop := threeLawsRow.holds Try.pinned (OpenSpec.ofChange threeLawsWrong)

/-- 'mootkeep1.DayMonths': WHATEVER THE INPUT: true; the input reads as it did. -/
def dayMonthsSpec : ChangeSpec := { name := "dayMonths", fn := fun _ => fun
  | [d1, d2, d3] => { results := [.lit (.bool true)], args := [d1, d2, d3] }
  | _ => none }
def dayMonthsRow : OpenClaim := { program := "ytdajcnhhfgnbmaa", sum := "b486681b946fc937f6ac2f8da6c81e7100e8aa9498632d11532c54e540ab1ca8", func := "moothall/mootkeep1.DayMonths", spec := "dayMonths", apart := false }
def DayMonthsSaid : Prop := dayMonthsRow.holds Try.pinned (OpenSpec.ofChange dayMonthsSpec)

/-- ITS FALSE NEIGHBOUR: 'it returns false'. Refute it at one input. -/
def dayMonthsWrong : ChangeSpec := { name := "dayMonths", fn := fun _ => fun
  | [d1, d2, d3] => { results := [.lit (.bool false)], args := [d1, d2, d3] }
  | _ => none }
def DayMonthsWrongFalsely : Prop := dayMonthsRow.holds Try.pinned (OpenSpec.ofChange dayMonthsWrong)

/-- 'mootkeep1.DayBack': WHATEVER THE INPUT: true; the input reads as it did. -/
def dayBackSpec : ChangeSpec := { name := "dayBack", fn := fun _ => fun
  | [d] => { results := [.lit (.bool true)], args := [d] }
  | _ => none }
def dayBackRow : OpenClaim := { program := "ytdajcnhhfgnbmaa", sum := "b486681b946fc937f6ac2f8da6c81e7100e8aa9498632d11532c54e540ab1ca8", func := "moothall/mootkeep1.DayBack", spec := "dayBack", apart := false }
def DayBackSaid : Prop := dayBackRow.holds Try.pinned (OpenSpec.ofChange dayBackSpec)

/-- ITS FALSE NEIGHBOUR: 'it returns false'. Refute it at one input. -/
def dayBackWrong : ChangeSpec := { name := "dayBack", fn := fun _ => fun
  | [d] => { results := [.lit (.bool false)], args := [d] }
  | _ => none }
def DayBackWrongFalsely : Prop := dayBackRow.holds Try.pinned (OpenSpec.ofChange dayBackWrong)

/-- 'mootkeep1.FeastSunday': WHATEVER THE INPUT: true; the input reads as it did. -/
def feastSundaySpec : ChangeSpec := { name := "feastSunday", fn := fun _ => fun
  | [d] => { results := [.lit (.bool true)], args := [d] }
  | _ => none }
def feastSundayRow : OpenClaim := { program := "ytdajcnhhfgnbmaa", sum := "b486681b946fc937f6ac2f8da6c81e7100e8aa9498632d11532c54e540ab1ca8", func := "moothall/mootkeep1.FeastSunday", spec := "feastSunday", apart := false }
def FeastSundaySaid : Prop := feastSundayRow.holds Try.pinned (OpenSpec.ofChange feastSundaySpec)

/-- ITS FALSE NEIGHBOUR: 'it returns false'. Refute it at one input. -/
def feastSundayWrong : ChangeSpec := { name := "feastSunday", fn := fun _ => fun
  | [d] => { results := [.lit (.bool false)], args := [d] }
  | _ => none }
def FeastSundayWrongFalsely : Prop := feastSundayRow.holds Try.pinned (OpenSpec.ofChange feastSundayWrong)

/-- 'mootkeep1.ThreeVotes': WHATEVER THE INPUT: true; the input reads as it did. -/
def threeVotesSpec : ChangeSpec := { name := "threeVotes", fn := fun _ => fun
  | [d] => { results := [.lit (.bool true)], args := [d] }
  | _ => none }
def threeVotesRow : OpenClaim := { program := "ytdajcnhhfgnbmaa", sum := "b486681b946fc937f6ac2f8da6c81e7100e8aa9498632d11532c54e540ab1ca8", func := "moothall/mootkeep1.ThreeVotes", spec := "threeVotes", apart := false }
def ThreeVotesSaid : Prop := threeVotesRow.holds Try.pinned (OpenSpec.ofChange threeVotesSpec)

/-- ITS FALSE NEIGHBOUR: 'it returns false'. Refute it at one input. -/
def threeVotesWrong : ChangeSpec := { name := "threeVotes", fn := fun _ => fun
  | [d] => { results := [.lit (.bool false)], args := [d] }
  | _ => none }
def ThreeVotesWrongFalsely : Prop := threeVotesRow.holds Try.pinned (OpenSpec.ofChange threeVotesWrong)

/-- 'mootkeep1.ThreeMore': WHATEVER THE INPUT: true; the input reads as it did. -/
def threeMoreSpec : ChangeSpec := { name := "threeMore", fn := fun _ => fun
  | [d1, d2, d3, d4] => { results := [.lit (.bool true)], args := [d1, d2, d3, d4] }
  | _ => none }
def threeMoreRow : OpenClaim := { program := "ytdajcnhhfgnbmaa", sum := "b486681b946fc937f6ac2f8da6c81e7100e8aa9498632d11532c54e540ab1ca8", func := "moothall/mootkeep1.ThreeMore", spec := "threeMore", apart := false }
def ThreeMoreSaid : Prop := threeMoreRow.holds Try.pinned (OpenSpec.ofChange threeMoreSpec)

/-- ITS FALSE NEIGHBOUR: 'it returns false'. Refute it at one input. -/
def threeMoreWrong : ChangeSpec := { name := "threeMore", fn := fun _ => fun
  | [d1, d2, d3, d4] => { results := [.lit (.bool false)], args := [d1, d2, d3, d4] }
  | _ => none }
def ThreeMoreWrongFalsely : Prop := threeMoreRow.holds Try.pinned (OpenSpec.ofChange threeMoreWrong)

/-- 'mootkeep1.DayYears': WHATEVER THE INPUT: true; the input reads as it did. -/
def dayYearsSpec : ChangeSpec := { name := "dayYears", fn := fun _ => fun
  | [d1, d2] => { results := [.lit (.bool true)], args := [d1, d2] }
  | _ => none }
def dayYearsRow : OpenClaim := { program := "ytdajcnhhfgnbmaa", sum := "b486681b946fc937f6ac2f8da6c81e7100e8aa9498632d11532c54e540ab1ca8", func := "moothall/mootkeep1.DayYears", spec := "dayYears", apart := false }
def DayYearsSaid : Prop := dayYearsRow.holds Try.pinned (OpenSpec.ofChange dayYearsSpec)

/-- ITS FALSE NEIGHBOUR: 'it returns false'. Refute it at one input. -/
def dayYearsWrong : ChangeSpec := { name := "dayYears", fn := fun _ => fun
  | [d1, d2] => { results := [.lit (.bool false)], args := [d1, d2] }
  | _ => none }
def DayYearsWrongFalsely : Prop := dayYearsRow.holds Try.pinned (OpenSpec.ofChange dayYearsWrong)

/-- 'mootkeep1.CourseSum': WHATEVER THE INPUT: true; the input reads as it did. -/
def courseSumSpec : ChangeSpec := { name := "courseSum", fn := fun _ => fun
  | [d1, d2, d3, d4] => { results := [.lit (.bool true)], args := [d1, d2, d3, d4] }
  | _ => none }
def courseSumRow : OpenClaim := { program := "ytdajcnhhfgnbmaa", sum := "b486681b946fc937f6ac2f8da6c81e7100e8aa9498632d11532c54e540ab1ca8", func := "moothall/mootkeep1.CourseSum", spec := "courseSum", apart := false }
def CourseSumSaid : Prop := courseSumRow.holds Try.pinned (OpenSpec.ofChange courseSumSpec)

/-- ITS FALSE NEIGHBOUR: 'it returns false'. Refute it at one input. -/
def courseSumWrong : ChangeSpec := { name := "courseSum", fn := fun _ => fun
  | [d1, d2, d3, d4] => { results := [.lit (.bool false)], args := [d1, d2, d3, d4] }
  | _ => none }
def CourseSumWrongFalsely : Prop := courseSumRow.holds Try.pinned (OpenSpec.ofChange courseSumWrong)

/-- 'mootkeep1.CoursePut': WHATEVER THE INPUT: true; the input reads as it did. -/
def coursePutSpec : ChangeSpec := { name := "coursePut", fn := fun _ => fun
  | [d1, d2, d3, d4, d5] => { results := [.lit (.bool true)], args := [d1, d2, d3, d4, d5] }
  | _ => none }
def coursePutRow : OpenClaim := { program := "ytdajcnhhfgnbmaa", sum := "b486681b946fc937f6ac2f8da6c81e7100e8aa9498632d11532c54e540ab1ca8", func := "moothall/mootkeep1.CoursePut", spec := "coursePut", apart := false }
def CoursePutSaid : Prop := coursePutRow.holds Try.pinned (OpenSpec.ofChange coursePutSpec)

/-- ITS FALSE NEIGHBOUR: 'it returns false'. Refute it at one input. -/
def coursePutWrong : ChangeSpec := { name := "coursePut", fn := fun _ => fun
  | [d1, d2, d3, d4, d5] => { results := [.lit (.bool false)], args := [d1, d2, d3, d4, d5] }
  | _ => none }
def CoursePutWrongFalsely : Prop := coursePutRow.holds Try.pinned (OpenSpec.ofChange coursePutWrong)

/-- 'mootkeep1.PartEstate': WHATEVER THE INPUT: true; the input reads as it did. -/
def partEstateSpec : ChangeSpec := { name := "partEstate", fn := fun _ => fun
  | [d] => { results := [.lit (.bool true)], args := [d] }
  | _ => none }
def partEstateRow : OpenClaim := { program := "ytdajcnhhfgnbmaa", sum := "b486681b946fc937f6ac2f8da6c81e7100e8aa9498632d11532c54e540ab1ca8", func := "moothall/mootkeep1.PartEstate", spec := "partEstate", unfollowed := true, recurses := true, apart := false }
def PartEstateSaid : Prop := partEstateRow.holds Try.pinned (OpenSpec.ofChange partEstateSpec)

/-- ITS FALSE NEIGHBOUR: 'it returns false'. Refute it at one input. -/
def partEstateWrong : ChangeSpec := { name := "partEstate", fn := fun _ => fun
  | [d] => { results := [.lit (.bool false)], args := [d] }
  | _ => none }
def PartEstateWrongFalsely : Prop := partEstateRow.holds Try.pinned (OpenSpec.ofChange partEstateWrong)

/-- 'moottop.CashMonths': WHATEVER THE INPUT: true; the input reads as it did. -/
def cashMonthsSpec : ChangeSpec := { name := "cashMonths", fn := fun _ => fun
  | [d1, d2] => { results := [.lit (.bool true)], args := [d1, d2] }
  | _ => none }
def cashMonthsRow : OpenClaim := { program := "ytdajcnhhfgnbmaa", sum := "b486681b946fc937f6ac2f8da6c81e7100e8aa9498632d11532c54e540ab1ca8", func := "moothall/moottop.CashMonths", spec := "cashMonths", inPlace := ["math/bits.Add64"], unfollowed := true, recurses := true, named := ["math/bits.divideError", "math/bits.overflowError"], apart := false }
def CashMonthsSaid : Prop := cashMonthsRow.holds Try.pinned (OpenSpec.ofChange cashMonthsSpec)

/-- ITS FALSE NEIGHBOUR: 'it returns false'. Refute it at one input. -/
def cashMonthsWrong : ChangeSpec := { name := "cashMonths", fn := fun _ => fun
  | [d1, d2] => { results := [.lit (.bool false)], args := [d1, d2] }
  | _ => none }
def CashMonthsWrongFalsely : Prop := cashMonthsRow.holds Try.pinned (OpenSpec.ofChange cashMonthsWrong)

/-- 'mootkeep1.FeastYear': WHATEVER THE INPUT: true; the input reads as it did. -/
def feastYearSpec : ChangeSpec := { name := "feastYear", fn := fun _ => fun
  | [d1, d2] => { results := [.lit (.bool true)], args := [d1, d2] }
  | _ => none }
def feastYearRow : OpenClaim := { program := "ytdajcnhhfgnbmaa", sum := "b486681b946fc937f6ac2f8da6c81e7100e8aa9498632d11532c54e540ab1ca8", func := "moothall/mootkeep1.FeastYear", spec := "feastYear", unfollowed := true, recurses := true, apart := false }
def FeastYearSaid : Prop := feastYearRow.holds Try.pinned (OpenSpec.ofChange feastYearSpec)

/-- ITS FALSE NEIGHBOUR: 'it returns false'. Refute it at one input. -/
def feastYearWrong : ChangeSpec := { name := "feastYear", fn := fun _ => fun
  | [d1, d2] => { results := [.lit (.bool false)], args := [d1, d2] }
  | _ => none }
def FeastYearWrongFalsely : Prop := feastYearRow.holds Try.pinned (OpenSpec.ofChange feastYearWrong)

/- THE SECOND FORM. 'bulk': how many values and letters a reading holds, each counted each time it is reached (what is shared counts as often as it is met; a slice's spare places count too). A statement '..UptoSaid' is the law's where the arguments, and the package variables that the reading takes, are together of bulk at most 1048576: NARROWER than '..Said'. Prove '..Said' where nothing that the law and all that it calls make is longer than what came in: it says more and counts as full. Else prove '..UptoSaid'. A law counts once. -/
mutual
def uptoBulk {H : Type} : DataW H → Nat
  | .lit (.string bytes) => bytes.length + 1
  | .lit _ => 1
  | .nil => 1
  | .ptr d => uptoBulk d + 1
  | .slice elems spare => uptoBulkAll elems + uptoBulkAll spare + 1
  | .agg parts => uptoBulkAll parts + 1
  | .iface _ d => uptoBulk d + 1
  | .map entries => uptoBulkEntries entries + 1
  | .held _ => 1
def uptoBulkAll {H : Type} : List (DataW H) → Nat
  | [] => 0
  | d :: r => uptoBulk d + uptoBulkAll r
def uptoBulkEntries {H : Type} : List (Lit × DataW H) → Nat
  | [] => 0
  | x :: r => uptoBulkEntry x + uptoBulkEntries r
def uptoBulkEntry {H : Type} : Lit × DataW H → Nat
  | (.string bytes, d) => bytes.length + uptoBulk d + 1
  | (_, d) => uptoBulk d + 1
 end
def uptoSmall : (H : Type) → List (DataW H) → Bool := fun _ ds => decide (uptoBulkAll ds ≤ 1048576)
def OpenSpec.upto (s : _root_.Go.ChangeSpec) : _root_.Go.OpenSpec := { _root_.Go.OpenSpec.ofChange s with cond := some uptoSmall }

/-- 'mootkeep1.ThreeLaws', WHERE WHAT IT READS IS OF BULK AT MOST 1048576: true; the input reads as it did. -/
def threeLawsUptoRow : OpenClaim := { program := "ytdajcnhhfgnbmaa", sum := "b486681b946fc937f6ac2f8da6c81e7100e8aa9498632d11532c54e540ab1ca8", func := "moothall/mootkeep1.ThreeLaws", spec := "threeLaws", apart := false, narrowed := true }
def ThreeLawsUptoSaid : Prop := threeLawsUptoRow.holds Try.pinned (OpenSpec.upto threeLawsSpec)

/-- 'mootkeep1.DayMonths', WHERE WHAT IT READS IS OF BULK AT MOST 1048576: true; the input reads as it did. -/
def dayMonthsUptoRow : OpenClaim := { program := "ytdajcnhhfgnbmaa", sum := "b486681b946fc937f6ac2f8da6c81e7100e8aa9498632d11532c54e540ab1ca8", func := "moothall/mootkeep1.DayMonths", spec := "dayMonths", apart := false, narrowed := true }
def DayMonthsUptoSaid : Prop := dayMonthsUptoRow.holds Try.pinned (OpenSpec.upto dayMonthsSpec)

/-- 'mootkeep1.DayBack', WHERE WHAT IT READS IS OF BULK AT MOST 1048576: true; the input reads as it did. -/
def dayBackUptoRow : OpenClaim := { program := "ytdajcnhhfgnbmaa", sum := "b486681b946fc937f6ac2f8da6c81e7100e8aa9498632d11532c54e540ab1ca8", func := "moothall/mootkeep1.DayBack", spec := "dayBack", apart := false, narrowed := true }
def DayBackUptoSaid : Prop := dayBackUptoRow.holds Try.pinned (OpenSpec.upto dayBackSpec)

/-- 'mootkeep1.FeastSunday', WHERE WHAT IT READS IS OF BULK AT MOST 1048576: true; the input reads as it did. -/
def feastSundayUptoRow : OpenClaim := { program := "ytdajcnhhfgnbmaa", sum := "b486681b946fc937f6ac2f8da6c81e7100e8aa9498632d11532c54e540ab1ca8", func := "moothall/mootkeep1.FeastSunday", spec := "feastSunday", apart := false, narrowed := true }
def FeastSundayUptoSaid : Prop := feastSundayUptoRow.holds Try.pinned (OpenSpec.upto feastSundaySpec)

/-- 'mootkeep1.ThreeVotes', WHERE WHAT IT READS IS OF BULK AT MOST 1048576: true; the input reads as it did. -/
def threeVotesUptoRow : OpenClaim := { program := "ytdajcnhhfgnbmaa", sum := "b486681b946fc937f6ac2f8da6c81e7100e8aa9498632d11532c54e540ab1ca8", func := "moothall/mootkeep1.ThreeVotes", spec := "threeVotes", apart := false, narrowed := true }
def ThreeVotesUptoSaid : Prop := threeVotesUptoRow.holds Try.pinned (OpenSpec.upto threeVotesSpec)

/-- 'mootkeep1.ThreeMore', WHERE WHAT IT READS IS OF BULK AT MOST 1048576: true; the input reads as it did. -/
def threeMoreUptoRow : OpenClaim := { program := "ytdajcnhhfgnbmaa", sum := "b486681b946fc937f6ac2f8da6c81e7100e8aa9498632d11532c54e540ab1ca8", func := "moothall/mootkeep1.ThreeMore", spec := "threeMore", apart := false, narrowed := true }
def ThreeMoreUptoSaid : Prop := threeMoreUptoRow.holds Try.pinned (OpenSpec.upto threeMoreSpec)

/-- 'mootkeep1.DayYears', WHERE WHAT IT READS IS OF BULK AT MOST 1048576: true; the input reads as it did. -/
def dayYearsUptoRow : OpenClaim := { program := "ytdajcnhhfgnbmaa", sum := "b486681b946fc937f6ac2f8da6c81e7100e8aa9498632d11532c54e540ab1ca8", func := "moothall/mootkeep1.DayYears", spec := "dayYears", apart := false, narrowed := true }
def DayYearsUptoSaid : Prop := dayYearsUptoRow.holds Try.pinned (OpenSpec.upto dayYearsSpec)

/-- 'mootkeep1.CourseSum', WHERE WHAT IT READS IS OF BULK AT MOST 1048576: true; the input reads as it did. -/
def courseSumUptoRow : OpenClaim := { program := "ytdajcnhhfgnbmaa", sum := "b486681b946fc937f6ac2f8da6c81e7100e8aa9498632d11532c54e540ab1ca8", func := "moothall/mootkeep1.CourseSum", spec := "courseSum", apart := false, narrowed := true }
def CourseSumUptoSaid : Prop := courseSumUptoRow.holds Try.pinned (OpenSpec.upto courseSumSpec)

/-- 'mootkeep1.CoursePut', WHERE WHAT IT READS IS OF BULK AT MOST 1048576: true; the input reads as it did. -/
def coursePutUptoRow : OpenClaim := { program := "ytdajcnhhfgnbmaa", sum := "b486681b946fc937f6ac2f8da6c81e7100e8aa9498632d11532c54e540ab1ca8", func := "moothall/mootkeep1.CoursePut", spec := "coursePut", apart := false, narrowed := true }
def CoursePutUptoSaid : Prop := coursePutUptoRow.holds Try.pinned (OpenSpec.upto coursePutSpec)

/-- 'mootkeep1.PartEstate', WHERE WHAT IT READS IS OF BULK AT MOST 1048576: true; the input reads as it did. -/
def partEstateUptoRow : OpenClaim := { program := "ytdajcnhhfgnbmaa", sum := "b486681b946fc937f6ac2f8da6c81e7100e8aa9498632d11532c54e540ab1ca8", func := "moothall/mootkeep1.PartEstate", spec := "partEstate", unfollowed := true, recurses := true, apart := false, narrowed := true }
def PartEstateUptoSaid : Prop := partEstateUptoRow.holds Try.pinned (OpenSpec.upto partEstateSpec)

/-- 'moottop.CashMonths', WHERE WHAT IT READS IS OF BULK AT MOST 1048576: true; the input reads as it did. -/
def cashMonthsUptoRow : OpenClaim := { program := "ytdajcnhhfgnbmaa", sum := "b486681b946fc937f6ac2f8da6c81e7100e8aa9498632d11532c54e540ab1ca8", func := "moothall/moottop.CashMonths", spec := "cashMonths", inPlace := ["math/bits.Add64"], unfollowed := true, recurses := true, named := ["math/bits.divideError", "math/bits.overflowError"], apart := false, narrowed := true }
def CashMonthsUptoSaid : Prop := cashMonthsUptoRow.holds Try.pinned (OpenSpec.upto cashMonthsSpec)

/-- 'mootkeep1.FeastYear', WHERE WHAT IT READS IS OF BULK AT MOST 1048576: true; the input reads as it did. -/
def feastYearUptoRow : OpenClaim := { program := "ytdajcnhhfgnbmaa", sum := "b486681b946fc937f6ac2f8da6c81e7100e8aa9498632d11532c54e540ab1ca8", func := "moothall/mootkeep1.FeastYear", spec := "feastYear", unfollowed := true, recurses := true, apart := false, narrowed := true }
def FeastYearUptoSaid : Prop := feastYearUptoRow.holds Try.pinned (OpenSpec.upto feastYearSpec)

end Rows
end Go.Proofs.Ytdajcnhhfgnbmaa
