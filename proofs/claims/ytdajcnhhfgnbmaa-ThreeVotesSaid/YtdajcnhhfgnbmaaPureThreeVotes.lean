/-
All is a vote of all, and any a vote of one, for every list of numbers.
-/
import Derived.Test.YtdajcnhhfgnbmaaPThreeVotesx1
set_option linter.unusedVariables false
set_option linter.unusedSimpArgs false
namespace Go.Proofs.Ytdajcnhhfgnbmaa.Pure
open Go.RowKit Go.Proofs.Ytdajcnhhfgnbmaa.PThreeVotes Go.Proofs.YtdajcnhhfgnbmaaW.PrintWords Go.Proofs.YtdajcnhhfgnbmaaW.PrintLast
/-- numbers that need no wrap -/
theorem w64 {x : Int} (h1 : -9223372036854775808 ≤ x) (h2 : x ≤ 9223372036854775807) : wrap64 x = x := by unfold wrap64; omega
theorem tdivnn {a b : Int} (h : 0 ≤ a) : Int.tdiv a b = a / b := Int.tdiv_eq_ediv_of_nonneg h
theorem tmodnn {a b : Int} (h : 0 ≤ a) : Int.tmod a b = a % b := Int.tmod_eq_emod_of_nonneg h
theorem Ev.ifp {α : Type} {c : Prop} [Decidable c] {a b : Nat → Option α} {r : α} (h : c) (k : Ev a r) : Ev (fun n => if c then a n else b n) r := Ev.congr (fun n => by rw [if_pos h]) k
theorem Ev.ifn {α : Type} {c : Prop} [Decidable c] {a b : Nat → Option α} {r : α} (h : ¬ c) (k : Ev b r) : Ev (fun n => if c then a n else b n) r := Ev.congr (fun n => by rw [if_neg h]) k
theorem Ev.to {α : Type} {a b : α} (h : a = b) : Ev (fun _ => some a) b := h ▸ Ev.now a
theorem drop_rd (l : List Int) (i : Nat) (h : i < l.length) : l.drop i = rd l (i : Int) :: l.drop (i + 1) := by
  rw [List.drop_eq_getElem_cons h]
  unfold rd
  simp [List.getD, h]
theorem w64_succ {i n : Nat} (h : i < n) (hn : n ≤ 9223372036854775807) : wrap64 ((i : Int) + 1) = ((i + 1 : Nat) : Int) := by
  rw [w64 (by omega) (by omega)]; omega
def fitv (a : Int) : Int := if a = 0 then 0 else if a = 1 then 1 else 2
def notv (a : Int) : Int := if fitv a = 0 then 1 else if fitv a = 1 then 0 else 2
def andv (a b : Int) : Int := if fitv a = 0 ∨ fitv b = 0 then 0 else if fitv a = 1 ∧ fitv b = 1 then 1 else 2
def orv (a b : Int) : Int := notv (andv (notv a) (notv b))
theorem fitv_cases (a : Int) : fitv a = 0 ∨ fitv a = 1 ∨ fitv a = 2 := by unfold fitv; split <;> (try split) <;> simp
theorem fit_of (a : Int) : three_fit.f a = some (fitv a) := by
  unfold three_fit.f fitv
  split
  · rename_i h; rw [h]
  · split
    · rename_i h; rw [h]
    · rfl
theorem not_of (a : Int) : three_Not.f a = some (notv a) := by
  unfold three_Not.f notv
  rw [fit_of]
  simp only [Option.bind_some]
  split
  · rfl
  · split <;> rfl
theorem and_step (a b : Int) (k : Nat) : three_And.f (k + 1) a b = some (andv a b) := by
  unfold three_And.f andv
  rw [fit_of, fit_of]
  simp only [Option.bind_some, three_And.j0]
  rcases fitv_cases a with h | h | h <;> rcases fitv_cases b with h' | h' | h' <;> rw [h, h'] <;> simp
theorem and_of (a b : Int) : Ev (fun k => three_And.f k a b) (andv a b) := Ev.step (and_step a b) (Ev.now _)
theorem or_of (a b : Int) : Ev (fun k => three_Or.f k a b) (orv a b) := by
  simp only [three_Or.f]
  rw [not_of, not_of]
  simp only [Option.bind_some]
  refine Ev.bind (and_of _ _) ?_
  rw [not_of]
  exact Ev.now _
theorem thirds_of : Ev (fun n => mootkeep1_thirds.f n) true := Ev.step (f := fun _ => some true) (fun k => by unfold mootkeep1_thirds.f three_Or.f; simp only [and_step, not_of, Option.bind_some]; decide) (Ev.now _)
/-- how many of a list are so -/
def cn (v : Int) (l : List Int) : Int := (l.countP (fun a => fitv a == v) : Nat)
theorem cn_nil (v : Int) : cn v [] = 0 := rfl
theorem cn_cons (v a : Int) (l : List Int) : cn v (a :: l) = (if fitv a = v then 1 else 0) + cn v l := by
  unfold cn
  rw [List.countP_cons]
  by_cases h : fitv a = v
  · simp [h]; omega
  · simp [h]
theorem cn_nonneg (v : Int) (l : List Int) : 0 ≤ cn v l := by unfold cn; omega
theorem cn_sum (l : List Int) : cn 0 l + cn 1 l + cn 2 l = l.length := by
  induction l with
  | nil => rfl
  | cons a l ih =>
    rw [cn_cons, cn_cons, cn_cons, List.length_cons]
    rcases fitv_cases a with h | h | h <;> rw [h] <;> simp <;> omega
def votev (y o need : Int) : Int := if y ≥ need then 1 else if y + o < need then 0 else 2
theorem vote_l0 (l : List Int) (need : Int) (hl : l.length ≤ 17592186044416) (n : Nat) : ∀ (i : Nat) (y o : Int), i ≤ l.length → l.length - i = n → 0 ≤ y → y ≤ i → 0 ≤ o → o ≤ i →
    Ev (fun k => three_Vote.l0 k need y o l (l.length : Int) (i : Int)) (votev (y + cn 1 (l.drop i)) (o + cn 2 (l.drop i)) need) := by
  induction n with
  | zero =>
    intro i y o hi hn hy hy' ho ho'
    obtain rfl : i = l.length := by omega
    rw [List.drop_length, cn_nil, cn_nil, Int.add_zero, Int.add_zero]
    refine Ev.step (f := fun _ => some (votev y o need)) (fun k => ?_) (Ev.now _)
    simp only [three_Vote.l0]
    rw [if_neg (by omega), w64 (x := y + o) (by omega) (by omega)]
    unfold votev
    split
    · rfl
    · split <;> rfl
  | succ n ih =>
    intro i y o hi hn hy hy' ho ho'
    have hlt : i < l.length := by omega
    rw [drop_rd l i hlt, cn_cons, cn_cons]
    have hw := w64_succ hlt (by omega)
    rcases fitv_cases (rd l (i : Int)) with h | h | h
    · refine Ev.step (fun k => ?_) (?_ : Ev (fun k => three_Vote.l0 k need y o l (l.length : Int) ((i + 1 : Nat) : Int)) _)
      · simp only [three_Vote.l0]
        rw [if_pos (by omega), if_pos (by omega), if_pos (by omega), fit_of, h, hw]
        simp
      · have := ih (i + 1) y o (by omega) (by omega) hy (by omega) ho (by omega)
        rw [h]; simpa using this
    · refine Ev.step (fun k => ?_) (?_ : Ev (fun k => three_Vote.l0 k need (y + 1) o l (l.length : Int) ((i + 1 : Nat) : Int)) _)
      · simp only [three_Vote.l0]
        rw [if_pos (by omega), if_pos (by omega), if_pos (by omega), fit_of, h, hw, w64 (x := y + 1) (by omega) (by omega)]
        simp
      · have := ih (i + 1) (y + 1) o (by omega) (by omega) (by omega) (by omega) ho (by omega)
        rw [h, if_pos rfl, if_neg (by decide), Int.zero_add, ← Int.add_assoc]; exact this
    · refine Ev.step (fun k => ?_) (?_ : Ev (fun k => three_Vote.l0 k need y (o + 1) l (l.length : Int) ((i + 1 : Nat) : Int)) _)
      · simp only [three_Vote.l0]
        rw [if_pos (by omega), if_pos (by omega), if_pos (by omega), fit_of, h, hw, w64 (x := o + 1) (by omega) (by omega)]
        simp
      · have := ih (i + 1) y (o + 1) (by omega) (by omega) hy (by omega) (by omega) (by omega)
        rw [h, if_pos rfl, if_neg (by decide), Int.zero_add, ← Int.add_assoc]; exact this
theorem vote_of (l : List Int) (need : Int) (hl : l.length ≤ 17592186044416) : Ev (fun k => three_Vote.f k l need) (votev (cn 1 l) (cn 2 l) need) := by
  simp only [three_Vote.f]
  have := vote_l0 l need hl _ 0 0 0 (by omega) rfl (by omega) (by omega) (by omega) (by omega)
  simpa using this
theorem all_l0 (l : List Int) (hl : l.length ≤ 17592186044416) (n : Nat) : ∀ (i : Nat) (x : Int), i ≤ l.length → l.length - i = n →
    Ev (fun k => three_All.l0 k x l (l.length : Int) (i : Int)) ((l.drop i).foldl andv x) := by
  induction n with
  | zero =>
    intro i x hi hn
    obtain rfl : i = l.length := by omega
    rw [List.drop_length]
    refine Ev.step (f := fun _ => some x) (fun k => ?_) (Ev.now _)
    simp only [three_All.l0]
    rw [if_neg (by omega)]
  | succ n ih =>
    intro i x hi hn
    have hlt : i < l.length := by omega
    rw [drop_rd l i hlt, List.foldl_cons]
    refine Ev.step (f := fun k => (three_And.f k x (rd l (i : Int))).bind fun t => three_All.l0 k t l (l.length : Int) ((i + 1 : Nat) : Int)) (fun k => ?_) (Ev.bind (and_of _ _) (ih (i + 1) _ (by omega) (by omega)))
    simp only [three_All.l0]
    rw [if_pos (by omega), if_pos (by omega), if_pos (by omega), w64_succ hlt (by omega)]
theorem any_l0 (l : List Int) (hl : l.length ≤ 17592186044416) (n : Nat) : ∀ (i : Nat) (x : Int), i ≤ l.length → l.length - i = n →
    Ev (fun k => three_Any.l0 k x l (l.length : Int) (i : Int)) ((l.drop i).foldl orv x) := by
  induction n with
  | zero =>
    intro i x hi hn
    obtain rfl : i = l.length := by omega
    rw [List.drop_length]
    refine Ev.step (f := fun _ => some x) (fun k => ?_) (Ev.now _)
    simp only [three_Any.l0]
    rw [if_neg (by omega)]
  | succ n ih =>
    intro i x hi hn
    have hlt : i < l.length := by omega
    rw [drop_rd l i hlt, List.foldl_cons]
    refine Ev.step (f := fun k => (three_Or.f k x (rd l (i : Int))).bind fun t => three_Any.l0 k t l (l.length : Int) ((i + 1 : Nat) : Int)) (fun k => ?_) (Ev.bind (or_of _ _) (ih (i + 1) _ (by omega) (by omega)))
    simp only [three_Any.l0]
    rw [if_pos (by omega), if_pos (by omega), if_pos (by omega), w64_succ hlt (by omega)]
def allv (l : List Int) : Int := if 0 < cn 0 l then 0 else if 0 < cn 2 l then 2 else 1
def anyv (l : List Int) : Int := if 0 < cn 1 l then 1 else if 0 < cn 2 l then 2 else 0
theorem andv_allv (x a : Int) (l : List Int) (hx : x = 0 ∨ x = 1 ∨ x = 2) : andv (if x = 0 then 0 else x) a = andv x a := by rcases hx with rfl | rfl | rfl <;> rfl
theorem all_fold (l : List Int) : ∀ x, x = 0 ∨ x = 1 ∨ x = 2 → l.foldl andv x = if x = 0 ∨ 0 < cn 0 l then 0 else if x = 2 ∨ 0 < cn 2 l then 2 else 1 := by
  induction l with
  | nil => intro x hx; rcases hx with rfl | rfl | rfl <;> simp [cn_nil]
  | cons a l ih =>
    intro x hx
    have h0 := cn_nonneg 0 l; have h2 := cn_nonneg 2 l
    have hr : andv x a = 0 ∨ andv x a = 1 ∨ andv x a = 2 := by unfold andv; split <;> (try split) <;> simp
    rw [List.foldl_cons, ih _ hr, cn_cons, cn_cons]
    unfold andv
    rcases hx with rfl | rfl | rfl <;> rcases fitv_cases a with h | h | h <;> rw [h] <;> simp [fitv] <;> omega
theorem any_fold (l : List Int) : ∀ x, x = 0 ∨ x = 1 ∨ x = 2 → l.foldl orv x = if x = 1 ∨ 0 < cn 1 l then 1 else if x = 2 ∨ 0 < cn 2 l then 2 else 0 := by
  induction l with
  | nil => intro x hx; rcases hx with rfl | rfl | rfl <;> simp [cn_nil]
  | cons a l ih =>
    intro x hx
    have h0 := cn_nonneg 1 l; have h2 := cn_nonneg 2 l
    have hr : orv x a = 0 ∨ orv x a = 1 ∨ orv x a = 2 := by
      unfold orv notv andv
      rcases hx with rfl | rfl | rfl <;> rcases fitv_cases a with h | h | h <;> rw [h] <;> simp [fitv]
    rw [List.foldl_cons, ih _ hr, cn_cons, cn_cons]
    unfold orv notv andv
    rcases hx with rfl | rfl | rfl <;> rcases fitv_cases a with h | h | h <;> rw [h] <;> simp [fitv] <;> omega
theorem all_of (l : List Int) (hl : l.length ≤ 17592186044416) : Ev (fun k => three_All.f k l) (allv l) := by
  simp only [three_All.f]
  have := all_l0 l hl _ 0 1 (by omega) rfl
  rw [List.drop_zero, all_fold l 1 (by simp)] at this
  simpa [allv] using this
theorem any_of (l : List Int) (hl : l.length ≤ 17592186044416) : Ev (fun k => three_Any.f k l) (anyv l) := by
  simp only [three_Any.f]
  have := any_l0 l hl _ 0 0 (by omega) rfl
  rw [List.drop_zero, any_fold l 0 (by simp)] at this
  simpa [anyv] using this
theorem ThreeVotes : mootkeep1_ThreeVotes.Pure := by
  intro l _ hl _
  have hl' : l.length ≤ 17592186044416 := by omega
  have hs := cn_sum l
  have h0 := cn_nonneg 0 l; have h1 := cn_nonneg 1 l; have h2 := cn_nonneg 2 l
  refine Ev.rounds (g := fun c => mootkeep1_ThreeVotes.f c l) ?_
  simp only [mootkeep1_ThreeVotes.f]
  refine Ev.bind thirds_of (Ev.ifp rfl ?_)
  refine Ev.bind (vote_of l _ hl') (Ev.bind (all_of l hl') (Ev.ifp ?_ ?_))
  · unfold votev allv
    repeat (first | split | omega)
  refine Ev.bind (vote_of l _ hl') (Ev.bind (any_of l hl') (Ev.ifp ?_ ?_))
  · unfold votev anyv
    repeat (first | split | omega)
  refine Ev.bind (vote_of l _ hl') (Ev.to ?_)
  unfold votev
  rw [if_pos (by omega)]; rfl
end Go.Proofs.Ytdajcnhhfgnbmaa.Pure
