/-
A share of an amount and the rest of it differ from the whole by rounding alone, by at most a cent, whatever numbers come in.
-/
import Derived.Test.YtidpaaeflccpmaaDoorPUnitPartsx3
set_option linter.unusedVariables false
set_option linter.unusedSimpArgs false
namespace Go.Proofs.YtidpaaeflccpmaaDoor.Pure
open Go.RowKit Go.Proofs.YtidpaaeflccpmaaDoor.PUnitParts Go.Proofs.YtidpaaeflccpmaaDoorW.PrintWords Go.Proofs.YtidpaaeflccpmaaDoorW.PrintLast
/-- numbers that need no wrap -/
theorem w64 {x : Int} (h1 : -9223372036854775808 ≤ x) (h2 : x ≤ 9223372036854775807) : wrap64 x = x := by unfold wrap64; omega
theorem tdivnn {a b : Int} (h : 0 ≤ a) : Int.tdiv a b = a / b := Int.tdiv_eq_ediv_of_nonneg h
theorem tmodnn {a b : Int} (h : 0 ≤ a) : Int.tmod a b = a % b := Int.tmod_eq_emod_of_nonneg h
theorem Ev.ifp {α : Type} {c : Prop} [Decidable c] {a b : Nat → Option α} {r : α} (h : c) (k : Ev a r) : Ev (fun n => if c then a n else b n) r := Ev.congr (fun n => by rw [if_pos h]) k
theorem Ev.ifn {α : Type} {c : Prop} [Decidable c] {a b : Nat → Option α} {r : α} (h : ¬ c) (k : Ev b r) : Ev (fun n => if c then a n else b n) r := Ev.congr (fun n => by rw [if_neg h]) k
theorem Ev.to {α : Type} {a b : α} (h : a = b) : Ev (fun _ => some a) b := h ▸ Ev.now a
theorem below_of (x n : Int) (h0 : 0 < n) (h1 : n ≤ 4611686018427387904) : mootmake_Below.f x n = some (x % n) := by
  have hr := Int.emod_nonneg x (show n ≠ 0 by omega)
  have hl := Int.emod_lt_of_pos x h0
  unfold mootmake_Below.f
  rw [if_neg (by omega), Int.tmod_eq_emod]
  by_cases h : 0 ≤ x ∨ n ∣ x
  · rw [if_pos h, show x % n - ((0 : Nat) : Int) = x % n from by omega, if_neg (by omega)]
  · have h3 : x % n ≠ 0 := fun e => h (.inr (Int.dvd_of_emod_eq_zero e))
    rw [if_neg h, if_pos (by omega), w64 (by omega) (by omega)]
    congr 1; omega
theorem below_range (x n : Int) (h0 : 0 < n) : 0 ≤ x % n ∧ x % n < n := ⟨Int.emod_nonneg x (by omega), Int.emod_lt_of_pos x h0⟩
/-! #### values and their kinds -/
theorem le_ev {α : Type} {f : Nat → Option α} (hm : ∀ k, LeO (f k) (f (k + 1))) {r : α} (K : Nat) (h : f K = some r) : Ev f r := by
  refine ⟨K, fun k hk => ?_⟩
  obtain ⟨n, rfl⟩ : ∃ n, k = K + n := ⟨k - K, by omega⟩
  induction n with
  | zero => exact h
  | succ n ih => exact hm (K + n) r (ih (by omega))
theorem values_of : Ev (fun k => mootkeep1_values.f k) true := le_ev (f := fun k => mootkeep1_values.f k) mootkeep1_values.mono 9 (by decide +kernel)
def uLo (c : Int) : Int := if c = 2 then -1099511627776 else if c = 3 then -1048576 else if c = 4 then 0 else if c = 5 then -1048576 else -1000000000
def uHi (c : Int) : Int := if c = 2 then 1099511627776 else if c = 3 then 1048576 else if c = 4 then 1048575 else if c = 5 then 1048576 else 1000000000
theorem range_of {c : Int} (h0 : 2 ≤ c) (h1 : c ≤ 6) : unit_Range.f c = some (uLo c, uHi c) ∧ uLo c ≤ 0 ∧ 0 ≤ uHi c ∧ -1099511627776 ≤ uLo c ∧ uHi c ≤ 1099511627776 := by
  have : c = 2 ∨ c = 3 ∨ c = 4 ∨ c = 5 ∨ c = 6 := by omega
  rcases this with rfl | rfl | rfl | rfl | rfl <;> exact ⟨rfl, by decide, by decide, by decide, by decide⟩
theorem fit_of {c : Int} (h0 : 2 ≤ c) (h1 : c ≤ 6) (x : Int) : unit_Fit.f c x = some (c, mx (uLo c) (mn x (uHi c))) := by
  unfold unit_Fit.f unit_known.f
  rw [if_pos (by omega)]
  simp only [Option.bind_some]
  rw [if_pos (decide_eq_true (by omega)), (range_of h0 h1).1]
  rfl
theorem fit_in {c : Int} (h0 : 2 ≤ c) (h1 : c ≤ 6) {x : Int} (hl : uLo c ≤ x) (hh : x ≤ uHi c) : unit_Fit.f c x = some (c, x) := by
  rw [fit_of h0 h1]
  congr 2
  unfold mx mn; repeat' split <;> omega
theorem valued_of {c : Int} (h0 : 2 ≤ c) (h1 : c ≤ 6) (n : Int) : ∃ x, mootkeep1_valued.f c n = some (c, x) ∧ uLo c ≤ x ∧ x ≤ uHi c := by
  obtain ⟨hr, r1, r2, r3, r4⟩ := range_of h0 h1
  have hb := below_range n (uHi c - uLo c + 1) (by omega)
  refine ⟨uLo c + n % (uHi c - uLo c + 1), ?_, by omega, by omega⟩
  unfold mootkeep1_valued.f
  rw [below_of _ _ (by omega) (by omega)]
  simp only [Option.bind_some]
  rw [show c % 7 = c by omega, hr]
  simp only [Option.bind_some]
  rw [w64 (x := uHi c - uLo c) (by omega) (by omega), w64 (x := uHi c - uLo c + 1) (by omega) (by omega), below_of _ _ (by omega) (by omega)]
  simp only [Option.bind_some]
  rw [w64 (x := uLo c + _) (by omega) (by omega)]
theorem u64w {x : Int} (h0 : 0 ≤ x) (h1 : x < 18446744073709551616) : IntKind.u64.wrap x = x := by change x % 18446744073709551616 = x; omega
theorem uand (x : Int) (h0 : 0 ≤ x) (h1 : x < 18446744073709551616) : Go.bits .and .u64 x 4294967295 = x % 4294967296 :=
  Go.bits_mask .u64 64 (by decide) (fun n h0 h1 => u64w h0 (by simpa using h1)) 32 (by decide) x h0 (by simpa using h1)
theorem mul64_of (a b : Int) (ha0 : 0 ≤ a) (ha : a ≤ 2199023255552) (hb0 : 0 ≤ b) (hb : b ≤ 1000000) : bits_Mul64.f a b = some (0, a * b) := by
  obtain ⟨ah, hah⟩ : ∃ x, x = a / 4294967296 := ⟨_, rfl⟩
  obtain ⟨al, hal⟩ : ∃ x, x = a % 4294967296 := ⟨_, rfl⟩
  obtain ⟨p, hp⟩ : ∃ x, x = ah * b := ⟨_, rfl⟩
  obtain ⟨q, hq⟩ : ∃ x, x = al * b := ⟨_, rfl⟩
  have e1 : a * b = p * 4294967296 + q := by
    rw [hp, hq, show a = ah * 4294967296 + al by omega, Int.add_mul, Int.mul_right_comm]
  have p0 : 0 ≤ p := by rw [hp]; exact Int.mul_nonneg (by omega) hb0
  have q0 : 0 ≤ q := by rw [hq]; exact Int.mul_nonneg (by omega) hb0
  have p1 : p ≤ 512 * 1000000 := by rw [hp]; exact Int.mul_le_mul (by omega) hb hb0 (by omega)
  have q1 : q ≤ 4294967295 * 1000000 := by rw [hq]; exact Int.mul_le_mul (by omega) hb hb0 (by omega)
  unfold bits_Mul64.f
  rw [uand a ha0 (by omega), uand b hb0 (by omega), ← hah, ← hal, show b / 4294967296 = 0 by omega, show b % 4294967296 = b by omega, ← hp, ← hq, Int.mul_zero, Int.mul_zero,
    u64w (x := 0) (by omega) (by omega), u64w p0 (by omega), u64w q0 (by omega), u64w (x := p + q / 4294967296) (by omega) (by omega), uand _ (by omega) (by omega), u64w (x := 0 + _) (by omega) (by omega), u64w (x := (p + q / 4294967296) % 4294967296 + 0) (by omega) (by omega), u64w (by omega) (by omega), u64w (x := a * b) (by omega) (by omega)]
  congr 2; omega
theorem size_of {n : Int} (h0 : -1099511627776 ≤ n) (h1 : n ≤ 1099511627776) : unit_size.f n = some (if n < 0 then -n else n) := by
  unfold unit_size.f
  rw [w64 (x := -n) (by omega) (by omega)]
  have hm : mx n (-n) = if n < 0 then -n else n := by unfold mx; repeat' split <;> omega
  rw [hm, u64w (by split <;> omega) (by split <;> omega)]
/-- a share of an amount, rounded to the nearest, halves up -/
def shr (n s : Int) : Int := if n < 0 then -((-n * s + 499999) / 1000000) else (n * s + 500000) / 1000000
theorem shared_of {n s : Int} (h0 : -1099511627776 ≤ n) (h1 : n ≤ 1099511627776) (s0 : 0 ≤ s) (s1 : s ≤ 1000000) : Ev (fun k => unit_shared.f k n s 1099511627776) (shr n s) := by
  obtain ⟨m, hm⟩ : ∃ m, m = if n < 0 then -n else n := ⟨_, rfl⟩
  have m0 : 0 ≤ m := by rw [hm]; split <;> omega
  have m1 : m ≤ 1099511627776 := by rw [hm]; split <;> omega
  obtain ⟨p, hp⟩ : ∃ p, p = m * s := ⟨_, rfl⟩
  have p0 : 0 ≤ p := hp ▸ Int.mul_nonneg m0 s0
  have p1 : p ≤ 1099511627776 * 1000000 := hp ▸ Int.mul_le_mul m1 s1 s0 (by omega)
  unfold unit_shared.f
  rw [size_of h0 h1, size_of (n := s) (by omega) (by omega), ← hm, if_neg (show ¬ s < 0 by omega)]
  simp only [Option.bind_some]
  rw [mul64_of m s m0 (by omega) s0 s1, ← hp]
  simp only [Option.bind_some]
  rw [show (decide (s < 0)) = false from decide_eq_false (by omega)]
  -- the part behind the half
  have tail : ∀ (b : Bool) (half : Int), 0 ≤ half → half ≤ 500000 → Ev (fun k => unit_shared.j0 k 1099511627776 0 p b half) (if b = true then -(mn ((p + half) / 1000000) 1099511627776) else mn ((p + half) / 1000000) 1099511627776) := by
    intro b half g0 g1
    refine Ev.step (fun k => by rw [unit_shared.j0]) ?_
    have e1 : bits_Add64.f p half 0 = some (p + half, 0) := by
      unfold bits_Add64.f
      rw [if_pos ⟨p0, g0, rfl⟩, Int.emod_eq_of_lt (by omega) (by omega), Int.ediv_eq_zero_of_lt (by omega) (by omega)]
    rw [e1]
    simp only [Option.bind_some]
    rw [u64w (x := 0 + 0) (by omega) (by omega)]
    refine Ev.ifn (by omega) (Ev.step (fun k => by rw [unit_shared.j1]) ?_)
    have e2 : bits_Div64.f (0 + 0) (p + half) 1000000 = some ((p + half) / 1000000, (p + half) % 1000000) := by
      unfold bits_Div64.f
      rw [if_pos ⟨rfl, by omega, by omega, by omega, by omega⟩]
    rw [e2]
    simp only [Option.bind_some]
    rw [u64w (x := 1099511627776) (by omega) (by omega)]
    obtain ⟨q, hq⟩ : ∃ q, q = (p + half) / 1000000 := ⟨_, rfl⟩
    have q0 : 0 ≤ q := by omega
    have q1 : q ≤ 1099511627776 + 1 := by omega
    rw [← hq, w64 (x := q) (by omega) (by omega), w64 (x := -q) (by omega) (by omega), w64 (x := -1099511627776) (by omega) (by omega)]
    by_cases hc : q < 1099511627776
    · have e3 : mn q 1099511627776 = q := by unfold mn; rw [if_neg (by omega)]
      refine Ev.ifp hc ?_
      rw [e3]
      cases b
      · exact Ev.ifn (by simp) (Ev.to rfl)
      · exact Ev.ifp rfl (Ev.to rfl)
    · have e3 : mn q 1099511627776 = 1099511627776 := by unfold mn; split <;> omega
      refine Ev.ifn hc ?_
      rw [e3]
      cases b
      · exact Ev.ifn (by simp) (Ev.to rfl)
      · exact Ev.ifp rfl (Ev.to rfl)
  by_cases hn : n < 0
  · rw [decide_eq_true hn]
    refine Ev.ifp rfl ?_
    have := tail true (500000 - 1) (by omega) (by omega)
    have e : (if true = true then -(mn ((p + (500000 - 1)) / 1000000) 1099511627776) else mn ((p + (500000 - 1)) / 1000000) 1099511627776) = shr n s := by
      rw [if_pos rfl]
      unfold shr
      rw [if_pos hn, hp, hm, if_pos hn]
      rw [hp, hm, if_pos hn] at p1
      unfold mn; split <;> omega
    rw [e] at this
    exact this
  · rw [decide_eq_false hn]
    refine Ev.ifn (by simp) ?_
    have := tail false 500000 (by omega) (by omega)
    have e : (if false = true then -(mn ((p + 500000) / 1000000) 1099511627776) else mn ((p + 500000) / 1000000) 1099511627776) = shr n s := by
      rw [if_neg (by simp)]
      unfold shr
      rw [if_neg hn, hp, hm, if_neg hn]
      rw [hp, hm, if_neg hn] at p1
      unfold mn; split <;> omega
    rw [e] at this
    exact this
theorem shr_range {n s : Int} (h0 : -1099511627776 ≤ n) (h1 : n ≤ 1099511627776) (s0 : 0 ≤ s) (s1 : s ≤ 1000000) : -1099511627776 ≤ shr n s ∧ shr n s ≤ 1099511627776 := by
  unfold shr
  split
  · rename_i hn
    have := Int.mul_le_mul (show -n ≤ 1099511627776 by omega) s1 s0 (by omega)
    have := Int.mul_nonneg (show 0 ≤ -n by omega) s0
    omega
  · rename_i hn
    have := Int.mul_le_mul h1 s1 s0 (by omega)
    have := Int.mul_nonneg (show 0 ≤ n by omega) s0
    omega
theorem unitof_of {c : Int} (h0 : 2 ≤ c) (h1 : c ≤ 6) (x : Int) : unit_of.f c x = some (c, mx (uLo c) (mn x (uHi c))) := by
  unfold unit_of.f
  rw [fit_of h0 h1]; rfl
theorem times_of {n s : Int} (h0 : -1099511627776 ≤ n) (h1 : n ≤ 1099511627776) (s0 : 0 ≤ s) (s1 : s ≤ 1000000) : Ev (fun k => unit_Times.f k 2 n 6 s) (2, shr n s, 0) := by
  have a0 : uLo 2 = -1099511627776 := rfl
  have a1 : uHi 2 = 1099511627776 := rfl
  have b0 : uLo 6 = -1000000000 := rfl
  have b1 : uHi 6 = 1000000000 := rfl
  unfold unit_Times.f
  rw [fit_in (c := 2) (by omega) (by omega) (x := n) (by omega) (by omega), fit_in (c := 6) (by omega) (by omega) (x := s) (by omega) (by omega)]
  simp only [Option.bind_some]
  rw [(range_of (c := 2) (by omega) (by omega)).1]
  simp only [Option.bind_some]
  refine Ev.ifn (by omega) (Ev.step (fun k => by rw [unit_Times.j0]) (Ev.ifn (by decide) (Ev.ifn (by omega) (Ev.step (fun k => by rw [unit_Times.j1]) (Ev.ifn (by decide) (Ev.ifp rfl ?_))))))
  refine Ev.bind (by rw [a1]; exact shared_of h0 h1 s0 s1) ?_
  have r := shr_range h0 h1 s0 s1
  rw [unitof_of (c := 2) (by omega) (by omega), a0, a1]
  have e : mx (-1099511627776) (mn (shr n s) 1099511627776) = shr n s := by unfold mx mn; repeat' split <;> omega
  rw [e]
  exact Ev.to rfl
theorem shr_both {n s : Int} (s0 : 0 ≤ s) (s1 : s ≤ 1000000) : 0 ≤ shr n s + shr n (1000000 - s) - n ∧ shr n s + shr n (1000000 - s) - n ≤ 1 := by
  unfold shr
  by_cases hn : n < 0
  · rw [if_pos hn, if_pos hn, Int.mul_sub]
    generalize -n * s = p
    omega
  · rw [if_neg hn, if_neg hn, Int.mul_sub]
    generalize n * s = p
    omega
theorem UnitParts : mootkeep1_UnitParts.Pure := by
  intro a0 a1
  intros
  have hb := below_range a1 1000001 (by omega)
  obtain ⟨s, hs⟩ : ∃ s, s = a1 % 1000001 := ⟨_, rfl⟩
  obtain ⟨n, hn, nl, nh⟩ := valued_of (c := 2) (by omega) (by omega) a0
  have nl : -1099511627776 ≤ n := nl
  have nh : n ≤ 1099511627776 := nh
  have p := times_of nl nh (s := s) (by omega) (by omega)
  have q := times_of nl nh (s := 1000000 - s) (by omega) (by omega)
  have r := shr_range nl nh (s := s) (by omega) (by omega)
  have r' := shr_range nl nh (s := 1000000 - s) (by omega) (by omega)
  have d := shr_both (n := n) (s := s) (by omega) (by omega)
  refine Ev.rounds (g := fun k => mootkeep1_UnitParts.f k a0 a1) ?_
  unfold mootkeep1_UnitParts.f
  rw [hn]
  simp only [Option.bind_some]
  rw [below_of _ _ (by omega) (by omega)]
  simp only [Option.bind_some]
  rw [← hs, w64 (x := 1000000 - s) (by omega) (by omega)]
  refine Ev.bind p (Ev.bind q (Ev.bind values_of (Ev.ifp rfl (Ev.ifp rfl (Ev.ifp rfl (Ev.ifp rfl ?_))))))
  show Ev (fun k => if wrap64 (wrap64 (shr n s + shr n (1000000 - s)) - n) ≥ 0 then some (decide (wrap64 (wrap64 (shr n s + shr n (1000000 - s)) - n) ≤ 1)) else none) true
  rw [w64 (x := shr n s + shr n (1000000 - s)) (by omega) (by omega), w64 (x := shr n s + shr n (1000000 - s) - n) (by omega) (by omega)]
  exact Ev.ifp d.1 (Ev.to (decide_eq_true d.2))
end Go.Proofs.YtidpaaeflccpmaaDoor.Pure
