/-
Results of operands that tell more tell no less, for every list of numbers and all other numbers.
-/
import Derived.Test.YtdajcnhhfgnbmaaPThreeMorex2
set_option linter.unusedVariables false
set_option linter.unusedSimpArgs false
namespace Go.Proofs.Ytdajcnhhfgnbmaa.Pure
open Go.RowKit Go.Proofs.Ytdajcnhhfgnbmaa.PThreeMore Go.Proofs.YtdajcnhhfgnbmaaW.PrintWords Go.Proofs.YtdajcnhhfgnbmaaW.PrintLast
/-- numbers that need no wrap -/
theorem w64 {x : Int} (h1 : -9223372036854775808 ≤ x) (h2 : x ≤ 9223372036854775807) : wrap64 x = x := by unfold wrap64; omega
theorem tdivnn {a b : Int} (h : 0 ≤ a) : Int.tdiv a b = a / b := Int.tdiv_eq_ediv_of_nonneg h
theorem tmodnn {a b : Int} (h : 0 ≤ a) : Int.tmod a b = a % b := Int.tmod_eq_emod_of_nonneg h
theorem Ev.ifp {α : Type} {c : Prop} [Decidable c] {a b : Nat → Option α} {r : α} (h : c) (k : Ev a r) : Ev (fun n => if c then a n else b n) r := Ev.congr (fun n => by rw [if_pos h]) k
theorem Ev.ifn {α : Type} {c : Prop} [Decidable c] {a b : Nat → Option α} {r : α} (h : ¬ c) (k : Ev b r) : Ev (fun n => if c then a n else b n) r := Ev.congr (fun n => by rw [if_neg h]) k
theorem Ev.to {α : Type} {a b : α} (h : a = b) : Ev (fun _ => some a) b := h ▸ Ev.now a
theorem below_of (x n : Int) (h0 : 0 < n) (h1 : n ≤ 4611686018427387904) : mootmake_Below.f x n = some (x % n) := by
  have hr := Int.emod_nonneg x (show n ≠ 0 by omega)
  have hl := Int.emod_lt_of_pos x h0
  unfold mootmake_Below.f
  rw [if_neg (by omega), Int.tmod_eq_emod]
  by_cases h : 0 ≤ x ∨ n ∣ x
  · rw [if_pos h, show x % n - ((0 : Nat) : Int) = x % n from by omega, if_neg (by omega)]
  · have h3 : x % n ≠ 0 := fun e => h (.inr (Int.dvd_of_emod_eq_zero e))
    rw [if_neg h, if_pos (by omega), w64 (by omega) (by omega)]
    congr 1; omega
theorem below_range (x n : Int) (h0 : 0 < n) : 0 ≤ x % n ∧ x % n < n := ⟨Int.emod_nonneg x (by omega), Int.emod_lt_of_pos x h0⟩
theorem drop_rd (l : List Int) (i : Nat) (h : i < l.length) : l.drop i = rd l (i : Int) :: l.drop (i + 1) := by
  rw [List.drop_eq_getElem_cons h]
  unfold rd
  simp [List.getD, h]
theorem w64_succ {i n : Nat} (h : i < n) (hn : n ≤ 9223372036854775807) : wrap64 ((i : Int) + 1) = ((i + 1 : Nat) : Int) := by
  rw [w64 (by omega) (by omega)]; omega
def fitv (a : Int) : Int := if a = 0 then 0 else if a = 1 then 1 else 2
def notv (a : Int) : Int := if fitv a = 0 then 1 else if fitv a = 1 then 0 else 2
def andv (a b : Int) : Int := if fitv a = 0 ∨ fitv b = 0 then 0 else if fitv a = 1 ∧ fitv b = 1 then 1 else 2
def orv (a b : Int) : Int := notv (andv (notv a) (notv b))
theorem fitv_cases (a : Int) : fitv a = 0 ∨ fitv a = 1 ∨ fitv a = 2 := by unfold fitv; split <;> (try split) <;> simp
theorem fit_of (a : Int) : three_fit.f a = some (fitv a) := by
  unfold three_fit.f fitv
  split
  · rename_i h; rw [h]
  · split
    · rename_i h; rw [h]
    · rfl
theorem not_of (a : Int) : three_Not.f a = some (notv a) := by
  unfold three_Not.f notv
  rw [fit_of]
  simp only [Option.bind_some]
  split
  · rfl
  · split <;> rfl
theorem and_step (a b : Int) (k : Nat) : three_And.f (k + 1) a b = some (andv a b) := by
  unfold three_And.f andv
  rw [fit_of, fit_of]
  simp only [Option.bind_some, three_And.j0]
  rcases fitv_cases a with h | h | h <;> rcases fitv_cases b with h' | h' | h' <;> rw [h, h'] <;> simp
theorem and_of (a b : Int) : Ev (fun k => three_And.f k a b) (andv a b) := Ev.step (and_step a b) (Ev.now _)
theorem or_of (a b : Int) : Ev (fun k => three_Or.f k a b) (orv a b) := by
  simp only [three_Or.f]
  rw [not_of, not_of]
  simp only [Option.bind_some]
  refine Ev.bind (and_of _ _) ?_
  rw [not_of]
  exact Ev.now _
theorem thirds_of : Ev (fun n => mootkeep1_thirds.f n) true := Ev.step (f := fun _ => some true) (fun k => by unfold mootkeep1_thirds.f three_Or.f; simp only [and_step, not_of, Option.bind_some]; decide) (Ev.now _)
/-- how many of a list are so -/
def cn (v : Int) (l : List Int) : Int := (l.countP (fun a => fitv a == v) : Nat)
theorem cn_nil (v : Int) : cn v [] = 0 := rfl
theorem cn_cons (v a : Int) (l : List Int) : cn v (a :: l) = (if fitv a = v then 1 else 0) + cn v l := by
  unfold cn
  rw [List.countP_cons]
  by_cases h : fitv a = v
  · simp [h]; omega
  · simp [h]
theorem cn_nonneg (v : Int) (l : List Int) : 0 ≤ cn v l := by unfold cn; omega
theorem cn_sum (l : List Int) : cn 0 l + cn 1 l + cn 2 l = l.length := by
  induction l with
  | nil => rfl
  | cons a l ih =>
    rw [cn_cons, cn_cons, cn_cons, List.length_cons]
    rcases fitv_cases a with h | h | h <;> rw [h] <;> simp <;> omega
def votev (y o need : Int) : Int := if y ≥ need then 1 else if y + o < need then 0 else 2
theorem vote_l0 (l : List Int) (need : Int) (hl : l.length ≤ 17592186044416) (n : Nat) : ∀ (i : Nat) (y o : Int), i ≤ l.length → l.length - i = n → 0 ≤ y → y ≤ i → 0 ≤ o → o ≤ i →
    Ev (fun k => three_Vote.l0 k need y o l (l.length : Int) (i : Int)) (votev (y + cn 1 (l.drop i)) (o + cn 2 (l.drop i)) need) := by
  induction n with
  | zero =>
    intro i y o hi hn hy hy' ho ho'
    obtain rfl : i = l.length := by omega
    rw [List.drop_length, cn_nil, cn_nil, Int.add_zero, Int.add_zero]
    refine Ev.step (f := fun _ => some (votev y o need)) (fun k => ?_) (Ev.now _)
    simp only [three_Vote.l0]
    rw [if_neg (by omega), w64 (x := y + o) (by omega) (by omega)]
    unfold votev
    split
    · rfl
    · split <;> rfl
  | succ n ih =>
    intro i y o hi hn hy hy' ho ho'
    have hlt : i < l.length := by omega
    rw [drop_rd l i hlt, cn_cons, cn_cons]
    have hw := w64_succ hlt (by omega)
    rcases fitv_cases (rd l (i : Int)) with h | h | h
    · refine Ev.step (fun k => ?_) (?_ : Ev (fun k => three_Vote.l0 k need y o l (l.length : Int) ((i + 1 : Nat) : Int)) _)
      · simp only [three_Vote.l0]
        rw [if_pos (by omega), if_pos (by omega), if_pos (by omega), fit_of, h, hw]
        simp
      · have := ih (i + 1) y o (by omega) (by omega) hy (by omega) ho (by omega)
        rw [h]; simpa using this
    · refine Ev.step (fun k => ?_) (?_ : Ev (fun k => three_Vote.l0 k need (y + 1) o l (l.length : Int) ((i + 1 : Nat) : Int)) _)
      · simp only [three_Vote.l0]
        rw [if_pos (by omega), if_pos (by omega), if_pos (by omega), fit_of, h, hw, w64 (x := y + 1) (by omega) (by omega)]
        simp
      · have := ih (i + 1) (y + 1) o (by omega) (by omega) (by omega) (by omega) ho (by omega)
        rw [h, if_pos rfl, if_neg (by decide), Int.zero_add, ← Int.add_assoc]; exact this
    · refine Ev.step (fun k => ?_) (?_ : Ev (fun k => three_Vote.l0 k need y (o + 1) l (l.length : Int) ((i + 1 : Nat) : Int)) _)
      · simp only [three_Vote.l0]
        rw [if_pos (by omega), if_pos (by omega), if_pos (by omega), fit_of, h, hw, w64 (x := o + 1) (by omega) (by omega)]
        simp
      · have := ih (i + 1) y (o + 1) (by omega) (by omega) hy (by omega) (by omega) (by omega)
        rw [h, if_pos rfl, if_neg (by decide), Int.zero_add, ← Int.add_assoc]; exact this
theorem vote_of (l : List Int) (need : Int) (hl : l.length ≤ 17592186044416) : Ev (fun k => three_Vote.f k l need) (votev (cn 1 l) (cn 2 l) need) := by
  simp only [three_Vote.f]
  have := vote_l0 l need hl _ 0 0 0 (by omega) rfl (by omega) (by omega) (by omega) (by omega)
  simpa using this
theorem all_l0 (l : List Int) (hl : l.length ≤ 17592186044416) (n : Nat) : ∀ (i : Nat) (x : Int), i ≤ l.length → l.length - i = n →
    Ev (fun k => three_All.l0 k x l (l.length : Int) (i : Int)) ((l.drop i).foldl andv x) := by
  induction n with
  | zero =>
    intro i x hi hn
    obtain rfl : i = l.length := by omega
    rw [List.drop_length]
    refine Ev.step (f := fun _ => some x) (fun k => ?_) (Ev.now _)
    simp only [three_All.l0]
    rw [if_neg (by omega)]
  | succ n ih =>
    intro i x hi hn
    have hlt : i < l.length := by omega
    rw [drop_rd l i hlt, List.foldl_cons]
    refine Ev.step (f := fun k => (three_And.f k x (rd l (i : Int))).bind fun t => three_All.l0 k t l (l.length : Int) ((i + 1 : Nat) : Int)) (fun k => ?_) (Ev.bind (and_of _ _) (ih (i + 1) _ (by omega) (by omega)))
    simp only [three_All.l0]
    rw [if_pos (by omega), if_pos (by omega), if_pos (by omega), w64_succ hlt (by omega)]
theorem any_l0 (l : List Int) (hl : l.length ≤ 17592186044416) (n : Nat) : ∀ (i : Nat) (x : Int), i ≤ l.length → l.length - i = n →
    Ev (fun k => three_Any.l0 k x l (l.length : Int) (i : Int)) ((l.drop i).foldl orv x) := by
  induction n with
  | zero =>
    intro i x hi hn
    obtain rfl : i = l.length := by omega
    rw [List.drop_length]
    refine Ev.step (f := fun _ => some x) (fun k => ?_) (Ev.now _)
    simp only [three_Any.l0]
    rw [if_neg (by omega)]
  | succ n ih =>
    intro i x hi hn
    have hlt : i < l.length := by omega
    rw [drop_rd l i hlt, List.foldl_cons]
    refine Ev.step (f := fun k => (three_Or.f k x (rd l (i : Int))).bind fun t => three_Any.l0 k t l (l.length : Int) ((i + 1 : Nat) : Int)) (fun k => ?_) (Ev.bind (or_of _ _) (ih (i + 1) _ (by omega) (by omega)))
    simp only [three_Any.l0]
    rw [if_pos (by omega), if_pos (by omega), if_pos (by omega), w64_succ hlt (by omega)]
def allv (l : List Int) : Int := if 0 < cn 0 l then 0 else if 0 < cn 2 l then 2 else 1
def anyv (l : List Int) : Int := if 0 < cn 1 l then 1 else if 0 < cn 2 l then 2 else 0
theorem andv_allv (x a : Int) (l : List Int) (hx : x = 0 ∨ x = 1 ∨ x = 2) : andv (if x = 0 then 0 else x) a = andv x a := by rcases hx with rfl | rfl | rfl <;> rfl
theorem all_fold (l : List Int) : ∀ x, x = 0 ∨ x = 1 ∨ x = 2 → l.foldl andv x = if x = 0 ∨ 0 < cn 0 l then 0 else if x = 2 ∨ 0 < cn 2 l then 2 else 1 := by
  induction l with
  | nil => intro x hx; rcases hx with rfl | rfl | rfl <;> simp [cn_nil]
  | cons a l ih =>
    intro x hx
    have h0 := cn_nonneg 0 l; have h2 := cn_nonneg 2 l
    have hr : andv x a = 0 ∨ andv x a = 1 ∨ andv x a = 2 := by unfold andv; split <;> (try split) <;> simp
    rw [List.foldl_cons, ih _ hr, cn_cons, cn_cons]
    unfold andv
    rcases hx with rfl | rfl | rfl <;> rcases fitv_cases a with h | h | h <;> rw [h] <;> simp [fitv] <;> omega
theorem any_fold (l : List Int) : ∀ x, x = 0 ∨ x = 1 ∨ x = 2 → l.foldl orv x = if x = 1 ∨ 0 < cn 1 l then 1 else if x = 2 ∨ 0 < cn 2 l then 2 else 0 := by
  induction l with
  | nil => intro x hx; rcases hx with rfl | rfl | rfl <;> simp [cn_nil]
  | cons a l ih =>
    intro x hx
    have h0 := cn_nonneg 1 l; have h2 := cn_nonneg 2 l
    have hr : orv x a = 0 ∨ orv x a = 1 ∨ orv x a = 2 := by
      unfold orv notv andv
      rcases hx with rfl | rfl | rfl <;> rcases fitv_cases a with h | h | h <;> rw [h] <;> simp [fitv]
    rw [List.foldl_cons, ih _ hr, cn_cons, cn_cons]
    unfold orv notv andv
    rcases hx with rfl | rfl | rfl <;> rcases fitv_cases a with h | h | h <;> rw [h] <;> simp [fitv] <;> omega
theorem all_of (l : List Int) (hl : l.length ≤ 17592186044416) : Ev (fun k => three_All.f k l) (allv l) := by
  simp only [three_All.f]
  have := all_l0 l hl _ 0 1 (by omega) rfl
  rw [List.drop_zero, all_fold l 1 (by simp)] at this
  simpa [allv] using this
theorem any_of (l : List Int) (hl : l.length ≤ 17592186044416) : Ev (fun k => three_Any.f k l) (anyv l) := by
  simp only [three_Any.f]
  have := any_l0 l hl _ 0 0 (by omega) rfl
  rw [List.drop_zero, any_fold l 0 (by simp)] at this
  simpa [anyv] using this
def tells (a b : Int) : Prop := fitv a = 2 ∨ fitv a = fitv b
instance (a b : Int) : Decidable (tells a b) := by unfold tells; infer_instance
theorem below3_of (a b : Int) : three_Below.f a b = some (decide (tells a b)) := by
  unfold three_Below.f tells
  rw [fit_of, fit_of]
  simp only [Option.bind_some]
  by_cases h : fitv a = 2
  · rw [if_pos h]; simp [h]
  · rw [if_neg h]
    by_cases h' : fitv a = fitv b
    · simp [h']
    · simp [h, h']
theorem tells_counts : ∀ (a b : List Int), a.length = b.length → (∀ j, j < a.length → tells (a.getD j 0) (b.getD j 0)) → cn 0 a ≤ cn 0 b ∧ cn 1 a ≤ cn 1 b
  | [], [], _, _ => by simp [cn_nil]
  | [], b :: ys, h, _ => by simp at h
  | a :: xs, [], h, _ => by simp at h
  | a :: xs, b :: ys, h, ht => by
    have ih := tells_counts xs ys (by simpa using h) (fun j hj => by simpa using ht (j + 1) (by simpa using hj))
    have h0 := ht 0 (by simp)
    simp only [List.getD_cons_zero] at h0
    rw [cn_cons, cn_cons, cn_cons, cn_cons]
    unfold tells at h0
    rcases fitv_cases a with e | e | e <;> rcases fitv_cases b with f | f | f <;> rw [e, f] at h0 <;> rw [e, f] <;> simp at h0 <;> simp <;> omega
theorem more_l1 (a b : List Int) (need : Int) (hl : a.length = b.length) (hs : a.length ≤ 1000) (ht : ∀ j, j < a.length → tells (a.getD j 0) (b.getD j 0)) (n : Nat) : ∀ i : Nat, i ≤ a.length → a.length - i = n →
    Ev (fun k => mootkeep1_ThreeMore.l1 k need a b (a.length : Int) (i : Int)) true := by
  have hc := tells_counts a b hl ht
  have sa := cn_sum a; have sb := cn_sum b
  have a0 := cn_nonneg 0 a; have a1 := cn_nonneg 1 a; have a2 := cn_nonneg 2 a
  have b0 := cn_nonneg 0 b; have b1 := cn_nonneg 1 b; have b2 := cn_nonneg 2 b
  induction n with
  | zero =>
    intro i hi hn
    obtain rfl : i = a.length := by omega
    refine Ev.step (f := fun k => (mootkeep1_thirds.f k).bind fun t => if t = true then (three_All.f k a).bind fun t => (three_All.f k b).bind fun u => (three_Below.f t u).bind fun v => (if v = true then (three_Any.f k a).bind fun t => (three_Any.f k b).bind fun u => (three_Below.f t u).bind fun v => (if v = true then (three_Vote.f k a need).bind fun t => (three_Vote.f k b need).bind fun u => (three_Below.f t u).bind fun v => some v else some false) else some false) else some false) (fun k => ?_) ?_
    · simp only [mootkeep1_ThreeMore.l1]
      rw [if_neg (by omega)]
    refine Ev.bind thirds_of (Ev.ifp rfl ?_)
    refine Ev.bind (all_of a (by omega)) (Ev.bind (all_of b (by omega)) ?_)
    rw [below3_of]
    simp only [Option.bind_some]
    refine Ev.ifp ?_ ?_
    · rw [decide_eq_true_eq]
      unfold tells allv
      by_cases c1 : 0 < cn 0 a
      · rw [if_pos c1, if_pos (by omega)]; exact .inr rfl
      · rw [if_neg c1]
        by_cases c2 : 0 < cn 2 a
        · rw [if_pos c2]; exact .inl rfl
        · rw [if_neg c2, if_neg (by omega), if_neg (by omega)]; exact .inr rfl
    refine Ev.bind (any_of a (by omega)) (Ev.bind (any_of b (by omega)) ?_)
    rw [below3_of]
    simp only [Option.bind_some]
    refine Ev.ifp ?_ ?_
    · rw [decide_eq_true_eq]
      unfold tells anyv
      by_cases c1 : 0 < cn 1 a
      · rw [if_pos c1, if_pos (by omega)]; exact .inr rfl
      · rw [if_neg c1]
        by_cases c2 : 0 < cn 2 a
        · rw [if_pos c2]; exact .inl rfl
        · rw [if_neg c2, if_neg (by omega), if_neg (by omega)]; exact .inr rfl
    refine Ev.bind (vote_of a need (by omega)) (Ev.bind (vote_of b need (by omega)) ?_)
    rw [below3_of]
    simp only [Option.bind_some]
    refine Ev.to ?_
    rw [decide_eq_true_eq]
    unfold tells votev
    by_cases c1 : cn 1 a ≥ need
    · rw [if_pos c1, if_pos (by omega)]; exact .inr rfl
    · rw [if_neg c1]
      by_cases c2 : cn 1 a + cn 2 a < need
      · rw [if_pos c2, if_neg (by omega), if_pos (by omega)]; exact .inr rfl
      · rw [if_neg c2]; exact .inl rfl
  | succ n ih =>
    intro i hi hn
    have hlt : i < a.length := by omega
    refine Ev.step (fun k => ?_) (ih (i + 1) (by omega) (by omega))
    simp only [mootkeep1_ThreeMore.l1]
    rw [if_pos (by omega), if_pos (by omega), if_pos (by omega), if_pos (by omega), below3_of, w64_succ hlt (by omega)]
    simp only [Option.bind_some]
    rw [if_pos (by rw [decide_eq_true_eq]; exact ht i hlt)]
theorem getD_snoc (a : List Int) (x : Int) (j : Nat) : (a ++ [x]).getD j 0 = if j < a.length then a.getD j 0 else if j = a.length then x else 0 := by
  simp only [List.getD_eq_getElem?_getD, List.getElem?_append]
  split
  · rfl
  · split
    · rename_i h; subst h; simp
    · rename_i h h'
      rw [List.getElem?_eq_none (by simp; omega)]; rfl
theorem tells_snoc {a b : List Int} {x y : Int} (hl : a.length = b.length) (ht : ∀ j, j < a.length → tells (a.getD j 0) (b.getD j 0)) (h : tells x y) : ∀ j, j < (a ++ [x]).length → tells ((a ++ [x]).getD j 0) ((b ++ [y]).getD j 0) := by
  intro j hj
  rw [getD_snoc, getD_snoc, ← hl]
  by_cases e : j < a.length
  · rw [if_pos e, if_pos e]; exact ht j e
  · have : j = a.length := by simp at hj; omega
    rw [if_neg e, if_neg e, if_pos this, if_pos this]; exact h
theorem fitv_mod (x : Int) (h0 : 0 ≤ x) (h1 : x < 3) : fitv x = x := by
  unfold fitv; split
  · omega
  · split <;> omega
theorem more_l0 (l : List Int) (at_ to_ raw : Int) (hl : l.length ≤ 20) (n : Nat) : ∀ (i : Nat) (a b : List Int), i ≤ l.length → l.length - i = n → a.length = i → b.length = i → (∀ j, j < a.length → tells (a.getD j 0) (b.getD j 0)) →
    Ev (fun k => mootkeep1_ThreeMore.l0 k raw at_ to_ a b l (l.length : Int) (i : Int)) true := by
  induction n with
  | zero =>
    intro i a b hi hn ha hb ht
    obtain rfl : i = l.length := by omega
    refine Ev.step (f := fun k => mootkeep1_ThreeMore.l1 k (raw % 12) a b (a.length : Int) ((0 : Nat) : Int)) (fun k => ?_) (more_l1 a b _ (by omega) (by omega) ht _ 0 (by omega) rfl)
    simp only [mootkeep1_ThreeMore.l0]
    rw [if_neg (by omega), below_of _ _ (by omega) (by omega)]
    rfl
  | succ n ih =>
    intro i a b hi hn ha hb ht
    have hlt : i < l.length := by omega
    have hr := below_range (rd l (i : Int)) 3 (by omega)
    obtain ⟨t, hte⟩ : ∃ t, t = rd l (i : Int) % 3 := ⟨_, rfl⟩
    have hf := fitv_mod t (by omega) (by omega)
    have hset : ∀ v, (b ++ [t]).set i v = b ++ [v] := by
      intro v; subst hb; simp
    have key : ∀ v, tells t v → Ev (fun k => mootkeep1_ThreeMore.l0 k raw at_ to_ (a ++ [t]) (b ++ [v]) l (l.length : Int) ((i + 1 : Nat) : Int)) true :=
      fun v hv => ih (i + 1) _ _ (by omega) (by omega) (by simp [ha]) (by simp [hb]) (tells_snoc (by omega) ht hv)
    have hself : tells t t := .inr rfl
    by_cases c1 : t = 2
    · by_cases c2 : (i : Int) ≥ at_ % 20
      · have hv := below_range (to_ / 2 ^ (mn (i : Int) 20).toNat) 2 (by omega)
        refine Ev.step (fun k => ?_) (key (to_ / 2 ^ (mn (i : Int) 20).toNat % 2) (.inl (by rw [hf, c1])))
        simp only [mootkeep1_ThreeMore.l0]
        rw [if_pos (by omega), if_pos (by omega), if_pos (by omega), below_of _ _ (by omega) (by omega), ← hte]
        simp only [Option.bind_some]
        rw [if_pos (by omega), if_pos (by omega), if_pos c1, below_of _ _ (by omega) (by omega)]
        simp only [Option.bind_some]
        rw [if_pos c2, if_pos (by unfold mn; split <;> omega), below_of _ _ (by omega) (by omega), w64_succ hlt (by omega)]
        simp only [Option.bind_some]
        rw [if_pos (by rw [List.length_append, hb]; simp; omega), show ((i : Nat) : Int).toNat = i from by omega, hset]
      · refine Ev.step (fun k => ?_) (key t hself)
        simp only [mootkeep1_ThreeMore.l0]
        rw [if_pos (by omega), if_pos (by omega), if_pos (by omega), below_of _ _ (by omega) (by omega), ← hte]
        simp only [Option.bind_some]
        rw [if_pos (by omega), if_pos (by omega), if_pos c1, below_of _ _ (by omega) (by omega)]
        simp only [Option.bind_some]
        rw [if_neg c2, w64_succ hlt (by omega)]
    · refine Ev.step (fun k => ?_) (key t hself)
      simp only [mootkeep1_ThreeMore.l0]
      rw [if_pos (by omega), if_pos (by omega), if_pos (by omega), below_of _ _ (by omega) (by omega), ← hte]
      simp only [Option.bind_some]
      rw [if_pos (by omega), if_pos (by omega), if_neg c1, w64_succ hlt (by omega)]
theorem ThreeMore : mootkeep1_ThreeMore.Pure := by
  intro l need at_ to_ _ hl _ _ _ _
  have hm : 0 ≤ mn (l.length : Int) 20 ∧ mn (l.length : Int) 20 ≤ l.length ∧ mn (l.length : Int) 20 ≤ 20 := by unfold mn; split <;> omega
  refine Ev.rounds (g := fun c => mootkeep1_ThreeMore.f c l need at_ to_) ?_
  simp only [mootkeep1_ThreeMore.f]
  refine Ev.ifp hm.1 (Ev.ifp hm.2.1 ?_)
  exact more_l0 _ at_ to_ need (by rw [List.length_take]; omega) _ 0 [] [] (by omega) rfl rfl rfl (fun j hj => by simp at hj)
end Go.Proofs.Ytdajcnhhfgnbmaa.Pure
