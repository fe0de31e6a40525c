/-
Sums of small values of one of the kinds Money, Days, Count and Share do not depend on the order, and a difference takes back what was added, whatever numbers come in.
-/
import Derived.Test.YtidpaaeflccpmaaDoorPUnitSumsx6
set_option linter.unusedVariables false
set_option linter.unusedSimpArgs false
namespace Go.Proofs.YtidpaaeflccpmaaDoor.Pure
open Go.RowKit Go.Proofs.YtidpaaeflccpmaaDoor.PUnitSums Go.Proofs.YtidpaaeflccpmaaDoorW.PrintWords Go.Proofs.YtidpaaeflccpmaaDoorW.PrintLast
/-- numbers that need no wrap -/
theorem w64 {x : Int} (h1 : -9223372036854775808 ≤ x) (h2 : x ≤ 9223372036854775807) : wrap64 x = x := by unfold wrap64; omega
theorem tdivnn {a b : Int} (h : 0 ≤ a) : Int.tdiv a b = a / b := Int.tdiv_eq_ediv_of_nonneg h
theorem tmodnn {a b : Int} (h : 0 ≤ a) : Int.tmod a b = a % b := Int.tmod_eq_emod_of_nonneg h
theorem Ev.ifp {α : Type} {c : Prop} [Decidable c] {a b : Nat → Option α} {r : α} (h : c) (k : Ev a r) : Ev (fun n => if c then a n else b n) r := Ev.congr (fun n => by rw [if_pos h]) k
theorem Ev.ifn {α : Type} {c : Prop} [Decidable c] {a b : Nat → Option α} {r : α} (h : ¬ c) (k : Ev b r) : Ev (fun n => if c then a n else b n) r := Ev.congr (fun n => by rw [if_neg h]) k
theorem Ev.to {α : Type} {a b : α} (h : a = b) : Ev (fun _ => some a) b := h ▸ Ev.now a
theorem below_of (x n : Int) (h0 : 0 < n) (h1 : n ≤ 4611686018427387904) : mootmake_Below.f x n = some (x % n) := by
  have hr := Int.emod_nonneg x (show n ≠ 0 by omega)
  have hl := Int.emod_lt_of_pos x h0
  unfold mootmake_Below.f
  rw [if_neg (by omega), Int.tmod_eq_emod]
  by_cases h : 0 ≤ x ∨ n ∣ x
  · rw [if_pos h, show x % n - ((0 : Nat) : Int) = x % n from by omega, if_neg (by omega)]
  · have h3 : x % n ≠ 0 := fun e => h (.inr (Int.dvd_of_emod_eq_zero e))
    rw [if_neg h, if_pos (by omega), w64 (by omega) (by omega)]
    congr 1; omega
theorem below_range (x n : Int) (h0 : 0 < n) : 0 ≤ x % n ∧ x % n < n := ⟨Int.emod_nonneg x (by omega), Int.emod_lt_of_pos x h0⟩
/-! #### values and their kinds -/
theorem le_ev {α : Type} {f : Nat → Option α} (hm : ∀ k, LeO (f k) (f (k + 1))) {r : α} (K : Nat) (h : f K = some r) : Ev f r := by
  refine ⟨K, fun k hk => ?_⟩
  obtain ⟨n, rfl⟩ : ∃ n, k = K + n := ⟨k - K, by omega⟩
  induction n with
  | zero => exact h
  | succ n ih => exact hm (K + n) r (ih (by omega))
theorem values_of : Ev (fun k => mootkeep1_values.f k) true := le_ev (f := fun k => mootkeep1_values.f k) mootkeep1_values.mono 9 (by decide +kernel)
def uLo (c : Int) : Int := if c = 2 then -1099511627776 else if c = 3 then -1048576 else if c = 4 then 0 else if c = 5 then -1048576 else -1000000000
def uHi (c : Int) : Int := if c = 2 then 1099511627776 else if c = 3 then 1048576 else if c = 4 then 1048575 else if c = 5 then 1048576 else 1000000000
theorem range_of {c : Int} (h0 : 2 ≤ c) (h1 : c ≤ 6) : unit_Range.f c = some (uLo c, uHi c) ∧ uLo c ≤ 0 ∧ 0 ≤ uHi c ∧ -1099511627776 ≤ uLo c ∧ uHi c ≤ 1099511627776 := by
  have : c = 2 ∨ c = 3 ∨ c = 4 ∨ c = 5 ∨ c = 6 := by omega
  rcases this with rfl | rfl | rfl | rfl | rfl <;> exact ⟨rfl, by decide, by decide, by decide, by decide⟩
theorem fit_of {c : Int} (h0 : 2 ≤ c) (h1 : c ≤ 6) (x : Int) : unit_Fit.f c x = some (c, mx (uLo c) (mn x (uHi c))) := by
  unfold unit_Fit.f unit_known.f
  rw [if_pos (by omega)]
  simp only [Option.bind_some]
  rw [if_pos (decide_eq_true (by omega)), (range_of h0 h1).1]
  rfl
theorem fit_in {c : Int} (h0 : 2 ≤ c) (h1 : c ≤ 6) {x : Int} (hl : uLo c ≤ x) (hh : x ≤ uHi c) : unit_Fit.f c x = some (c, x) := by
  rw [fit_of h0 h1]
  congr 2
  unfold mx mn; repeat' split <;> omega
theorem unitof_of {c : Int} (h0 : 2 ≤ c) (h1 : c ≤ 6) (x : Int) : unit_of.f c x = some (c, mx (uLo c) (mn x (uHi c))) := by
  unfold unit_of.f
  rw [fit_of h0 h1]; rfl
/-- a difference of two values of one kind -/
theorem sub_of {c : Int} (h0 : 2 ≤ c) (h1 : c ≤ 6) {x y : Int} (xl : uLo c ≤ x) (xh : x ≤ uHi c) (yl : uLo c ≤ y) (yh : y ≤ uHi c) : Ev (fun k => unit_Sub.f k c x c y) (if c = 4 then 3 else c, if c = 4 then x - y else mx (uLo c) (mn (x - y) (uHi c)), 0) := by
  obtain ⟨_, r1, r2, r3, r4⟩ := range_of h0 h1
  unfold unit_Sub.f
  rw [fit_in h0 h1 xl xh, fit_in h0 h1 yl yh]
  simp only [Option.bind_some]
  have hc : (c == 0) = false := beq_eq_false_iff_ne.2 (by omega)
  rw [hc]
  have hw : wrap64 (x - y) = x - y := w64 (by omega) (by omega)
  refine Ev.ifn (by omega) (Ev.step (fun k => by rw [unit_Sub.j0]) (Ev.ifn (by simp) ?_))
  by_cases h4 : c = 4
  · subst h4
    have hx : uLo 4 = 0 := rfl
    have hh : uHi 4 = 1048575 := rfl
    refine Ev.ifp rfl (Ev.step (fun k => by rw [unit_Sub.j1]) (Ev.ifp (by decide) ?_))
    rw [hw, unitof_of (c := 3) (by omega) (by omega)]
    refine Ev.to ?_
    have e : mx (uLo 3) (mn (x - y) (uHi 3)) = x - y := by
      have a : uLo 3 = -1048576 := rfl
      have b : uHi 3 = 1048576 := rfl
      rw [a, b]; unfold mx mn; repeat' split <;> omega
    simp only [Option.bind_some, e]; rfl
  · refine Ev.ifn h4 (Ev.step (fun k => by rw [unit_Sub.j1]) (Ev.ifn (by simp) (Ev.ifp (by trivial) (Ev.step (fun k => by rw [unit_Sub.j2]) ?_))))
    have h5 : (c != 1) = true := bne_iff_ne.2 (by omega)
    rw [h5]
    refine Ev.ifp rfl ?_
    rw [hw, unitof_of h0 h1]
    refine Ev.to ?_
    simp only [Option.bind_some, if_neg h4]
theorem addin {c : Int} (h0 : 2 ≤ c) (h1 : c ≤ 6) (h4 : c ≠ 4) {x y : Int} (x0 : -200000 ≤ x) (x1 : x ≤ 200000) (y0 : -200000 ≤ y) (y1 : y ≤ 200000) : Ev (fun k => unit_Add.f k c x c y) (c, x + y, 0) ∧ Ev (fun k => unit_Sub.f k c x c y) (c, x - y, 0) := by
  have r : uLo c ≤ -400000 ∧ 400000 ≤ uHi c := by
    have : c = 2 ∨ c = 3 ∨ c = 5 ∨ c = 6 := by omega
    rcases this with rfl | rfl | rfl | rfl <;> exact ⟨by decide, by decide⟩
  have fit : ∀ z, -400000 ≤ z → z ≤ 400000 → unit_of.f c z = some (c, z) := fun z z0 z1 => by
    rw [unitof_of h0 h1]
    congr 2
    unfold mx mn; repeat' split <;> omega
  constructor
  · unfold unit_Add.f
    rw [fit_in h0 h1 (x := x) (by omega) (by omega), fit_in h0 h1 (x := y) (by omega) (by omega)]
    simp only [Option.bind_some]
    have hc : (c == 0) = false := beq_eq_false_iff_ne.2 (by omega)
    rw [hc]
    refine Ev.ifn (by omega) (Ev.step (fun k => by rw [unit_Add.j0]) (Ev.ifn (by simp) (Ev.ifp (by trivial) (Ev.ifn (by omega) (Ev.step (fun k => by rw [unit_Add.j1]) ?_)))))
    rw [show (c != 4) = true from bne_iff_ne.2 h4]
    refine Ev.ifp rfl ?_
    rw [w64 (x := x + y) (by omega) (by omega), fit _ (by omega) (by omega)]
    exact Ev.to rfl
  · have := sub_of h0 h1 (x := x) (y := y) (by omega) (by omega) (by omega) (by omega)
    rw [if_neg h4, if_neg h4, show mx (uLo c) (mn (x - y) (uHi c)) = x - y by unfold mx mn; repeat' split <;> omega] at this
    exact this
theorem UnitSums : mootkeep1_UnitSums.Pure := by
  intro a0 a1 a2 a3
  intros
  have hb := below_range a0 4 (by omega)
  obtain ⟨c, hc⟩ : ∃ c, c = rd [2, 3, 5, 6] (a0 % 4) := ⟨_, rfl⟩
  have hc4 : 2 ≤ c ∧ c ≤ 6 ∧ c ≠ 4 := by
    have : a0 % 4 = 0 ∨ a0 % 4 = 1 ∨ a0 % 4 = 2 ∨ a0 % 4 = 3 := by omega
    rcases this with h | h | h | h <;> rw [h] at hc <;> subst hc <;> exact ⟨by decide, by decide, by decide⟩
  obtain ⟨c0, c1, c4⟩ := hc4
  have val : ∀ a : Int, ∃ x, unitSums_v.f a c = some (c, x) ∧ -50000 ≤ x ∧ x ≤ 50000 := fun a => by
    have hr := below_range a 100001 (by omega)
    refine ⟨a % 100001 - 50000, ?_, by omega, by omega⟩
    unfold unitSums_v.f
    rw [below_of _ _ (by omega) (by omega)]
    simp only [Option.bind_some]
    rw [w64 (by omega) (by omega)]
  obtain ⟨x, hx, x0, x1⟩ := val a1
  obtain ⟨y, hy, y0, y1⟩ := val a2
  obtain ⟨z, hz, z0, z1⟩ := val a3
  have e1 := (addin c0 c1 c4 (x := x) (y := y) (by omega) (by omega) (by omega) (by omega)).1
  have e2 := (addin c0 c1 c4 (x := x + y) (y := z) (by omega) (by omega) (by omega) (by omega)).1
  have e3 := (addin c0 c1 c4 (x := y) (y := z) (by omega) (by omega) (by omega) (by omega)).1
  have e4 := (addin c0 c1 c4 (x := y + z) (y := x) (by omega) (by omega) (by omega) (by omega)).1
  have e5 := (addin c0 c1 c4 (x := x + y) (y := y) (by omega) (by omega) (by omega) (by omega)).2
  refine Ev.rounds (g := fun k => mootkeep1_UnitSums.f k a0 a1 a2 a3) ?_
  unfold mootkeep1_UnitSums.f
  simp only [Option.bind_some]
  rw [below_of _ _ (by omega) (by omega)]
  simp only [Option.bind_some]
  rw [← hc, hx, hy, hz]
  simp only [Option.bind_some]
  refine Ev.ifp hb.1 (Ev.ifp hb.2 (Ev.bind e1 (Ev.bind e2 (Ev.bind e3 (Ev.bind e4 (Ev.bind e5 ?_))))))
  have hany : errno_Any.f [0, 0, 0, 0, 0] = some false := rfl
  simp only [hany, Option.bind_some]
  refine Ev.bind values_of (Ev.ifp rfl (Ev.ifn (by simp) (Ev.ifp ?_ (Ev.ifp ?_ (Ev.to ?_)))))
  · rw [show x + y + z = y + z + x by omega]; simp
  · rw [show x + y - y = x by omega]; simp
  · simp
end Go.Proofs.YtidpaaeflccpmaaDoor.Pure
