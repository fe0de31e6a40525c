/-
A value of a kind other than None and Bool is less than another one exactly if their difference is below 0, whatever numbers come in.
-/
import Derived.Test.YtidpaaeflccpmaaDoorPUnitOrderx4
set_option linter.unusedVariables false
set_option linter.unusedSimpArgs false
namespace Go.Proofs.YtidpaaeflccpmaaDoor.Pure
open Go.RowKit Go.Proofs.YtidpaaeflccpmaaDoor.PUnitOrder Go.Proofs.YtidpaaeflccpmaaDoorW.PrintWords Go.Proofs.YtidpaaeflccpmaaDoorW.PrintLast
/-- numbers that need no wrap -/
theorem w64 {x : Int} (h1 : -9223372036854775808 ≤ x) (h2 : x ≤ 9223372036854775807) : wrap64 x = x := by unfold wrap64; omega
theorem tdivnn {a b : Int} (h : 0 ≤ a) : Int.tdiv a b = a / b := Int.tdiv_eq_ediv_of_nonneg h
theorem tmodnn {a b : Int} (h : 0 ≤ a) : Int.tmod a b = a % b := Int.tmod_eq_emod_of_nonneg h
theorem Ev.ifp {α : Type} {c : Prop} [Decidable c] {a b : Nat → Option α} {r : α} (h : c) (k : Ev a r) : Ev (fun n => if c then a n else b n) r := Ev.congr (fun n => by rw [if_pos h]) k
theorem Ev.ifn {α : Type} {c : Prop} [Decidable c] {a b : Nat → Option α} {r : α} (h : ¬ c) (k : Ev b r) : Ev (fun n => if c then a n else b n) r := Ev.congr (fun n => by rw [if_neg h]) k
theorem Ev.to {α : Type} {a b : α} (h : a = b) : Ev (fun _ => some a) b := h ▸ Ev.now a
theorem below_of (x n : Int) (h0 : 0 < n) (h1 : n ≤ 4611686018427387904) : mootmake_Below.f x n = some (x % n) := by
  have hr := Int.emod_nonneg x (show n ≠ 0 by omega)
  have hl := Int.emod_lt_of_pos x h0
  unfold mootmake_Below.f
  rw [if_neg (by omega), Int.tmod_eq_emod]
  by_cases h : 0 ≤ x ∨ n ∣ x
  · rw [if_pos h, show x % n - ((0 : Nat) : Int) = x % n from by omega, if_neg (by omega)]
  · have h3 : x % n ≠ 0 := fun e => h (.inr (Int.dvd_of_emod_eq_zero e))
    rw [if_neg h, if_pos (by omega), w64 (by omega) (by omega)]
    congr 1; omega
theorem below_range (x n : Int) (h0 : 0 < n) : 0 ≤ x % n ∧ x % n < n := ⟨Int.emod_nonneg x (by omega), Int.emod_lt_of_pos x h0⟩
/-! #### values and their kinds -/
theorem le_ev {α : Type} {f : Nat → Option α} (hm : ∀ k, LeO (f k) (f (k + 1))) {r : α} (K : Nat) (h : f K = some r) : Ev f r := by
  refine ⟨K, fun k hk => ?_⟩
  obtain ⟨n, rfl⟩ : ∃ n, k = K + n := ⟨k - K, by omega⟩
  induction n with
  | zero => exact h
  | succ n ih => exact hm (K + n) r (ih (by omega))
theorem values_of : Ev (fun k => mootkeep1_values.f k) true := le_ev (f := fun k => mootkeep1_values.f k) mootkeep1_values.mono 9 (by decide +kernel)
def uLo (c : Int) : Int := if c = 2 then -1099511627776 else if c = 3 then -1048576 else if c = 4 then 0 else if c = 5 then -1048576 else -1000000000
def uHi (c : Int) : Int := if c = 2 then 1099511627776 else if c = 3 then 1048576 else if c = 4 then 1048575 else if c = 5 then 1048576 else 1000000000
theorem range_of {c : Int} (h0 : 2 ≤ c) (h1 : c ≤ 6) : unit_Range.f c = some (uLo c, uHi c) ∧ uLo c ≤ 0 ∧ 0 ≤ uHi c ∧ -1099511627776 ≤ uLo c ∧ uHi c ≤ 1099511627776 := by
  have : c = 2 ∨ c = 3 ∨ c = 4 ∨ c = 5 ∨ c = 6 := by omega
  rcases this with rfl | rfl | rfl | rfl | rfl <;> exact ⟨rfl, by decide, by decide, by decide, by decide⟩
theorem fit_of {c : Int} (h0 : 2 ≤ c) (h1 : c ≤ 6) (x : Int) : unit_Fit.f c x = some (c, mx (uLo c) (mn x (uHi c))) := by
  unfold unit_Fit.f unit_known.f
  rw [if_pos (by omega)]
  simp only [Option.bind_some]
  rw [if_pos (decide_eq_true (by omega)), (range_of h0 h1).1]
  rfl
theorem fit_in {c : Int} (h0 : 2 ≤ c) (h1 : c ≤ 6) {x : Int} (hl : uLo c ≤ x) (hh : x ≤ uHi c) : unit_Fit.f c x = some (c, x) := by
  rw [fit_of h0 h1]
  congr 2
  unfold mx mn; repeat' split <;> omega
theorem valued_of {c : Int} (h0 : 2 ≤ c) (h1 : c ≤ 6) (n : Int) : ∃ x, mootkeep1_valued.f c n = some (c, x) ∧ uLo c ≤ x ∧ x ≤ uHi c := by
  obtain ⟨hr, r1, r2, r3, r4⟩ := range_of h0 h1
  have hb := below_range n (uHi c - uLo c + 1) (by omega)
  refine ⟨uLo c + n % (uHi c - uLo c + 1), ?_, by omega, by omega⟩
  unfold mootkeep1_valued.f
  rw [below_of _ _ (by omega) (by omega)]
  simp only [Option.bind_some]
  rw [show c % 7 = c by omega, hr]
  simp only [Option.bind_some]
  rw [w64 (x := uHi c - uLo c) (by omega) (by omega), w64 (x := uHi c - uLo c + 1) (by omega) (by omega), below_of _ _ (by omega) (by omega)]
  simp only [Option.bind_some]
  rw [w64 (x := uLo c + _) (by omega) (by omega)]
theorem cmp_of {c : Int} (h0 : 2 ≤ c) (h1 : c ≤ 6) {x y : Int} (xl : uLo c ≤ x) (xh : x ≤ uHi c) (yl : uLo c ≤ y) (yh : y ≤ uHi c) : Ev (fun k => unit_Cmp.f k c x c y) (if x < y then -1 else if x > y then 1 else 0, 0) := by
  unfold unit_Cmp.f
  rw [fit_in h0 h1 xl xh, fit_in h0 h1 yl yh]
  simp only [Option.bind_some]
  refine Ev.ifp (by trivial) (Ev.step (fun k => by rw [unit_Cmp.j0]) ?_)
  have hc : (c == 0) = false := beq_eq_false_iff_ne.2 (by omega)
  rw [hc]
  refine Ev.ifn (by simp) ?_
  by_cases g1 : x < y
  · exact Ev.ifp g1 (Ev.to (by rw [if_pos g1]))
  · by_cases g2 : x > y
    · exact Ev.ifn g1 (Ev.ifp g2 (Ev.to (by rw [if_neg g1, if_pos g2])))
    · exact Ev.ifn g1 (Ev.ifn g2 (Ev.to (by rw [if_neg g1, if_neg g2])))
theorem unitof_of {c : Int} (h0 : 2 ≤ c) (h1 : c ≤ 6) (x : Int) : unit_of.f c x = some (c, mx (uLo c) (mn x (uHi c))) := by
  unfold unit_of.f
  rw [fit_of h0 h1]; rfl
/-- a difference of two values of one kind -/
theorem sub_of {c : Int} (h0 : 2 ≤ c) (h1 : c ≤ 6) {x y : Int} (xl : uLo c ≤ x) (xh : x ≤ uHi c) (yl : uLo c ≤ y) (yh : y ≤ uHi c) : Ev (fun k => unit_Sub.f k c x c y) (if c = 4 then 3 else c, if c = 4 then x - y else mx (uLo c) (mn (x - y) (uHi c)), 0) := by
  obtain ⟨_, r1, r2, r3, r4⟩ := range_of h0 h1
  unfold unit_Sub.f
  rw [fit_in h0 h1 xl xh, fit_in h0 h1 yl yh]
  simp only [Option.bind_some]
  have hc : (c == 0) = false := beq_eq_false_iff_ne.2 (by omega)
  rw [hc]
  have hw : wrap64 (x - y) = x - y := w64 (by omega) (by omega)
  refine Ev.ifn (by omega) (Ev.step (fun k => by rw [unit_Sub.j0]) (Ev.ifn (by simp) ?_))
  by_cases h4 : c = 4
  · subst h4
    have hx : uLo 4 = 0 := rfl
    have hh : uHi 4 = 1048575 := rfl
    refine Ev.ifp rfl (Ev.step (fun k => by rw [unit_Sub.j1]) (Ev.ifp (by decide) ?_))
    rw [hw, unitof_of (c := 3) (by omega) (by omega)]
    refine Ev.to ?_
    have e : mx (uLo 3) (mn (x - y) (uHi 3)) = x - y := by
      have a : uLo 3 = -1048576 := rfl
      have b : uHi 3 = 1048576 := rfl
      rw [a, b]; unfold mx mn; repeat' split <;> omega
    simp only [Option.bind_some, e]; rfl
  · refine Ev.ifn h4 (Ev.step (fun k => by rw [unit_Sub.j1]) (Ev.ifn (by simp) (Ev.ifp (by trivial) (Ev.step (fun k => by rw [unit_Sub.j2]) ?_))))
    have h5 : (c != 1) = true := bne_iff_ne.2 (by omega)
    rw [h5]
    refine Ev.ifp rfl ?_
    rw [hw, unitof_of h0 h1]
    refine Ev.to ?_
    simp only [Option.bind_some, if_neg h4]
theorem UnitOrder : mootkeep1_UnitOrder.Pure := by
  intro a0 a1 a2
  intros
  have hb := below_range a0 5 (by omega)
  obtain ⟨c, hc⟩ : ∃ c, c = 2 + a0 % 5 := ⟨_, rfl⟩
  have c0 : 2 ≤ c := by omega
  have c1 : c ≤ 6 := by omega
  obtain ⟨x, hx, xl, xh⟩ := valued_of c0 c1 a1
  obtain ⟨y, hy, yl, yh⟩ := valued_of c0 c1 a2
  obtain ⟨_, r1, r2, r3, r4⟩ := range_of c0 c1
  have p := cmp_of c0 c1 xl xh yl yh
  have q := cmp_of c0 c1 yl yh xl xh
  have s := sub_of c0 c1 xl xh yl yh
  refine Ev.rounds (g := fun k => mootkeep1_UnitOrder.f k a0 a1 a2) ?_
  unfold mootkeep1_UnitOrder.f
  rw [below_of _ _ (by omega) (by omega)]
  simp only [Option.bind_some]
  rw [w64 (x := 2 + a0 % 5) (by omega) (by omega), ← hc, hx, hy]
  simp only [Option.bind_some]
  refine Ev.bind p (Ev.bind q (Ev.bind s (Ev.bind values_of (Ev.ifp rfl (Ev.ifp rfl (Ev.ifp rfl (Ev.ifp rfl (Ev.ifp ?_ (Ev.ifp ?_ (Ev.to ?_))))))))))
  · show (if x < y then (-1 : Int) else if x > y then 1 else 0) = wrap64 (-(if y < x then (-1 : Int) else if y > x then 1 else 0))
    have e1 : wrap64 (-(-1)) = 1 := by simp [wrap64]
    have e2 : wrap64 (-1) = -1 := by simp [wrap64]
    have e3 : wrap64 (-0) = 0 := by simp [wrap64]
    rcases Int.lt_trichotomy x y with g | g | g
    · rw [if_pos g, if_neg (by omega), if_pos (by omega), e2]
    · rw [if_neg (by omega), if_neg (by omega), if_neg (by omega), if_neg (by omega), e3]
    · rw [if_neg (by omega), if_pos g, if_pos g, e1]
  · show (((if x < y then (-1 : Int) else if x > y then 1 else 0) == 0) == ((c == c) && (x == y))) = true
    rcases Int.lt_trichotomy x y with g | g | g
    · rw [if_pos g, show (x == y) = false from beq_eq_false_iff_ne.2 (by omega)]; simp
    · rw [if_neg (by omega), if_neg (by omega), g]; simp
    · rw [if_neg (by omega), if_pos g, show (x == y) = false from beq_eq_false_iff_ne.2 (by omega)]; simp
  · show ((decide ((if x < y then (-1 : Int) else if x > y then 1 else 0) < 0)) == (decide ((if c = 4 then x - y else mx (uLo c) (mn (x - y) (uHi c))) < 0))) = true
    have hd : (if c = 4 then x - y else mx (uLo c) (mn (x - y) (uHi c))) < 0 ↔ x < y := by
      by_cases h4 : c = 4
      · rw [if_pos h4]; omega
      · rw [if_neg h4]
        have hlo : uLo c < 0 := by
          have : c = 2 ∨ c = 3 ∨ c = 5 ∨ c = 6 := by omega
          rcases this with h | h | h | h <;> rw [h] <;> decide
        unfold mx mn; repeat' split <;> omega
    rcases Int.lt_trichotomy x y with g | g | g
    · rw [if_pos g, decide_eq_true (hd.2 g)]; rfl
    · rw [if_neg (by omega), if_neg (by omega), decide_eq_false (mt hd.1 (by omega))]; rfl
    · rw [if_neg (by omega), if_pos g, decide_eq_false (mt hd.1 (by omega))]; rfl
end Go.Proofs.YtidpaaeflccpmaaDoor.Pure
