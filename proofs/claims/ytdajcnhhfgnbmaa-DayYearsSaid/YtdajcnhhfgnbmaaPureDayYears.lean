/-
There are k whole years to a date 12 * k months later, and one less to the day before it, whatever numbers come in.
-/
import Derived.Test.YtdajcnhhfgnbmaaPDayYearsx2
set_option linter.unusedVariables false
set_option linter.unusedSimpArgs false
namespace Go.Proofs.Ytdajcnhhfgnbmaa.Days
/-- the first day of a year -/
def F (y : Int) : Int := 365 * (y - 1) + (y - 1) / 4 - (y - 1) / 100 + (y - 1) / 400
def lp (y : Int) : Prop := y % 4 = 0 ∧ (y % 100 ≠ 0 ∨ y % 400 = 0)
instance (y : Int) : Decidable (lp y) := by unfold lp; infer_instance
/-- how many days of a year are ahead of a month -/
def A (y m : Int) : Int := (367 * m - 362) / 12 - (if m ≤ 2 then 0 else if lp y then 1 else 2)
def N (y m k : Int) : Int := F y + A y m + k - 1

theorem F_succ (y : Int) : F (y + 1) = F y + (if lp y then 366 else 365) := by
  unfold F
  by_cases h : lp y
  · rw [if_pos h]; unfold lp at h; omega
  · rw [if_neg h]; unfold lp at h; omega
theorem A13 (y : Int) : A y 13 = (if lp y then 366 else 365) := by
  unfold A; by_cases h : lp y <;> simp [h]
theorem A1 (y : Int) : A y 1 = 0 := by unfold A; simp
theorem months (m : Int) (h1 : 1 ≤ m) (h2 : m ≤ 12) : m = 1 ∨ m = 2 ∨ m = 3 ∨ m = 4 ∨ m = 5 ∨ m = 6 ∨ m = 7 ∨ m = 8 ∨ m = 9 ∨ m = 10 ∨ m = 11 ∨ m = 12 := by omega
/-- the size of a month -/
def L (y m : Int) : Int := A y (m + 1) - A y m
theorem L_range (y m : Int) (h1 : 1 ≤ m) (h2 : m ≤ 12) : 28 ≤ L y m ∧ L y m ≤ 31 := by
  unfold L A
  rcases months m h1 h2 with rfl | rfl | rfl | rfl | rfl | rfl | rfl | rfl | rfl | rfl | rfl | rfl <;> by_cases h : lp y <;> simp [h]
theorem A_range (y m : Int) (_ : 1 ≤ m) (_ : m ≤ 13) : 0 ≤ A y m ∧ A y m ≤ 366 ∧ 28 * (m - 1) ≤ A y m ∧ A y m ≤ 31 * (m - 1) := by
  unfold A; split <;> (try split) <;> omega
theorem A_mono (y m m' : Int) (h1 : 1 ≤ m) (h : m < m') (h2 : m' ≤ 13) : A y m + 28 ≤ A y m' := by
  unfold A; by_cases hl : lp y <;> simp only [hl, if_true, if_false] <;> (split <;> split <;> omega)
theorem F_mono (y y' : Int) (h : y < y') : F y + 365 ≤ F y' := by unfold F; omega
theorem F_range (y : Int) (h : 1 ≤ y) : 365 * (y - 1) ≤ F y ∧ F y ≤ 366 * (y - 1) := by unfold F; omega

/-- the first day of month number M, counted from 0 -/
def FM (M : Int) : Int := F (M / 12 + 1) + A (M / 12 + 1) (M % 12 + 1)
def SM (M : Int) : Int := L (M / 12 + 1) (M % 12 + 1)
theorem SM_range (M : Int) : 28 ≤ SM M ∧ SM M ≤ 31 := L_range _ _ (by omega) (by omega)
theorem FM_succ (M : Int) : FM (M + 1) = FM M + SM M := by
  unfold FM SM L
  by_cases h : M % 12 = 11
  · have e1 : (M + 1) / 12 = M / 12 + 1 := by omega
    have e2 : (M + 1) % 12 = 0 := by omega
    rw [e1, e2, h, F_succ]
    have := A13 (M / 12 + 1)
    have a1 := A1 (M / 12 + 1 + 1)
    rw [show (0 : Int) + 1 = 1 from rfl, show (11 : Int) + 1 = 12 from rfl, show (12 : Int) + 1 = 13 from rfl]
    omega
  · have e1 : (M + 1) / 12 = M / 12 := by omega
    have e2 : (M + 1) % 12 = M % 12 + 1 := by omega
    rw [e1, e2]; omega
theorem FM_mono_nat (M : Int) (n : Nat) : FM M + 28 * n ≤ FM (M + n) := by
  induction n with
  | zero => simp
  | succ n ih =>
    have := FM_succ (M + n)
    have := (SM_range (M + n)).1
    have e : M + ((n + 1 : Nat) : Int) = M + n + 1 := by omega
    rw [e]; omega
theorem FM_mono (M M' : Int) (h : M < M') : FM M + SM M ≤ FM M' := by
  obtain ⟨n, rfl⟩ : ∃ n : Nat, M' = M + 1 + n := ⟨(M' - (M + 1)).toNat, by omega⟩
  have := FM_mono_nat (M + 1) n
  have := FM_succ M
  omega
theorem FM_mono' (M M' : Int) (h : M < M') : FM M + 28 ≤ FM M' := by
  have := FM_mono M M' h; have := SM_range M; omega

/-- what a date's parts are -/
structure IsParts (d y m k : Int) : Prop where
  y1 : 1 ≤ y
  m1 : 1 ≤ m
  m2 : m ≤ 12
  k1 : 1 ≤ k
  k2 : k ≤ L y m
  eq : d = F y + A y m + k - 1
theorem IsParts.fm {d y m k : Int} (h : IsParts d y m k) : d = FM (12 * (y - 1) + m - 1) + k - 1 ∧ k ≤ SM (12 * (y - 1) + m - 1) := by
  have e1 : (12 * (y - 1) + m - 1) / 12 + 1 = y := by have := h.m1; have := h.m2; omega
  have e2 : (12 * (y - 1) + m - 1) % 12 + 1 = m := by have := h.m1; have := h.m2; omega
  unfold FM SM
  rw [e1, e2]; exact ⟨h.eq, h.k2⟩
theorem month_unique {d M k M' k' : Int} (h1 : 1 ≤ k) (h2 : k ≤ SM M) (e : d = FM M + k - 1) (h1' : 1 ≤ k') (h2' : k' ≤ SM M') (e' : d = FM M' + k' - 1) : M = M' ∧ k = k' := by
  have hM : M = M' := by
    rcases Int.lt_trichotomy M M' with h | h | h
    · have := FM_mono M M' h; omega
    · exact h
    · have := FM_mono M' M h; omega
  subst hM; exact ⟨rfl, by omega⟩
theorem IsParts.unique {d y m k y' m' k' : Int} (h : IsParts d y m k) (h' : IsParts d y' m' k') : y = y' ∧ m = m' ∧ k = k' := by
  have a := h.fm; have b := h'.fm
  have := month_unique h.k1 a.2 a.1 h'.k1 b.2 b.1
  have := h.m1; have := h.m2; have := h'.m1; have := h'.m2
  omega
theorem IsParts.of_month {d M k : Int} (hM : 0 ≤ M) (h1 : 1 ≤ k) (h2 : k ≤ SM M) (e : d = FM M + k - 1) : IsParts d (M / 12 + 1) (M % 12 + 1) k :=
  ⟨by omega, by omega, by omega, h1, h2, e⟩

theorem year_start (d : Int) (h : 0 ≤ d) : F (400 * (d / 146097) + d % 146097 / 366 + 1) ≤ d ∧ 1 ≤ 400 * (d / 146097) + d % 146097 / 366 + 1 := by
  unfold F; omega
theorem year_end (d y : Int) (h : F y ≤ d) (hd : d ≤ 1048575) : y ≤ 2871 := by
  unfold F at h; omega
theorem max_parts : IsParts 1048575 2871 11 26 := by
  refine ⟨by decide, by decide, by decide, by decide, by decide, by decide⟩
theorem FM_zero : FM 0 = 0 := by decide
theorem month_nonneg {d M k : Int} (hd : 0 ≤ d) (h1 : 1 ≤ k) (h2 : k ≤ SM M) (e : d = FM M + k - 1) : 0 ≤ M := by
  refine Int.not_lt.1 fun h => ?_
  have := FM_mono M 0 (by omega)
  rw [FM_zero] at this
  omega
theorem month_le {d M k d' M' k' : Int} (h1 : 1 ≤ k) (e : d = FM M + k - 1) (h2' : k' ≤ SM M') (e' : d' = FM M' + k' - 1) (h : d ≤ d') : M ≤ M' := by
  refine Int.not_lt.1 fun hl => ?_
  have := FM_mono M' M hl
  omega
/-- every date lies in a month -/
theorem month_exists (d : Int) (h : 0 ≤ d) : ∃ M k : Int, 0 ≤ M ∧ 1 ≤ k ∧ k ≤ SM M ∧ d = FM M + k - 1 := by
  obtain ⟨n, rfl⟩ := Int.eq_ofNat_of_zero_le h
  induction n with
  | zero => exact ⟨0, 1, by decide, by decide, by decide, by decide⟩
  | succ n ih =>
    obtain ⟨M, k, h0, h1, h2, e⟩ := ih (by omega)
    by_cases hk : k + 1 ≤ SM M
    · exact ⟨M, k + 1, h0, by omega, hk, by omega⟩
    · have := SM_range (M + 1); have := FM_succ M
      exact ⟨M + 1, 1, by omega, by omega, by omega, by omega⟩
theorem parts_exists (d : Int) (h : 0 ≤ d) : ∃ y m k, IsParts d y m k := by
  obtain ⟨M, k, h0, h1, h2, e⟩ := month_exists d h
  exact ⟨_, _, _, IsParts.of_month h0 h1 h2 e⟩
end Go.Proofs.Ytdajcnhhfgnbmaa.Days
namespace Go.Proofs.Ytdajcnhhfgnbmaa.Pure
open Go.RowKit Go.Proofs.Ytdajcnhhfgnbmaa.PDayYears Go.Proofs.YtdajcnhhfgnbmaaW.PrintWords Go.Proofs.YtdajcnhhfgnbmaaW.PrintLast Go.Proofs.Ytdajcnhhfgnbmaa.Days Go.Proofs.Ytdajcnhhfgnbmaa.Days Go.Proofs.Ytdajcnhhfgnbmaa.Days
/-- numbers that need no wrap -/
theorem w64 {x : Int} (h1 : -9223372036854775808 ≤ x) (h2 : x ≤ 9223372036854775807) : wrap64 x = x := by unfold wrap64; omega
theorem tdivnn {a b : Int} (h : 0 ≤ a) : Int.tdiv a b = a / b := Int.tdiv_eq_ediv_of_nonneg h
theorem tmodnn {a b : Int} (h : 0 ≤ a) : Int.tmod a b = a % b := Int.tmod_eq_emod_of_nonneg h
theorem Ev.ifp {α : Type} {c : Prop} [Decidable c] {a b : Nat → Option α} {r : α} (h : c) (k : Ev a r) : Ev (fun n => if c then a n else b n) r := Ev.congr (fun n => by rw [if_pos h]) k
theorem Ev.ifn {α : Type} {c : Prop} [Decidable c] {a b : Nat → Option α} {r : α} (h : ¬ c) (k : Ev b r) : Ev (fun n => if c then a n else b n) r := Ev.congr (fun n => by rw [if_neg h]) k
theorem Ev.to {α : Type} {a b : α} (h : a = b) : Ev (fun _ => some a) b := h ▸ Ev.now a
theorem below_of (x n : Int) (h0 : 0 < n) (h1 : n ≤ 4611686018427387904) : mootmake_Below.f x n = some (x % n) := by
  have hr := Int.emod_nonneg x (show n ≠ 0 by omega)
  have hl := Int.emod_lt_of_pos x h0
  unfold mootmake_Below.f
  rw [if_neg (by omega), Int.tmod_eq_emod]
  by_cases h : 0 ≤ x ∨ n ∣ x
  · rw [if_pos h, show x % n - ((0 : Nat) : Int) = x % n from by omega, if_neg (by omega)]
  · have h3 : x % n ≠ 0 := fun e => h (.inr (Int.dvd_of_emod_eq_zero e))
    rw [if_neg h, if_pos (by omega), w64 (by omega) (by omega)]
    congr 1; omega
theorem below_range (x n : Int) (h0 : 0 < n) : 0 ≤ x % n ∧ x % n < n := ⟨Int.emod_nonneg x (by omega), Int.emod_lt_of_pos x h0⟩
theorem day_of (x : Int) : mootmake_Day.f x = some (700000 + x % 40000) := by
  unfold mootmake_Day.f
  rw [below_of _ _ (by omega) (by omega)]
  simp only [Option.bind_some]
  rw [w64 (by omega) (by omega)]
theorem clamp_of (d : Int) (h0 : 0 ≤ d) (h1 : d ≤ 1048575) : day_clamp.f d = some d := by
  unfold day_clamp.f mx mn
  congr 1; split <;> split <;> omega
theorem first_of (y : Int) (h1 : 1 ≤ y) (h2 : y ≤ 100000) : day_first.f y = some (F y) := by
  unfold day_first.f F
  simp (disch := omega) only [w64, tdivnn]
theorem leap_of (y : Int) (h1 : 1 ≤ y) : day_Leap.f y = some (decide (lp y)) := by
  unfold day_Leap.f lp
  simp (disch := omega) only [tmodnn]
  by_cases a : y % 4 = 0
  · rw [if_pos a]
    by_cases b : y % 100 = 0
    · rw [if_pos b]; by_cases c : y % 400 = 0 <;> simp [a, b, c]
    · rw [if_neg b]; simp [a, b]
  · rw [if_neg a]; simp [a]
theorem ahead_of (y m : Int) (h1 : 1 ≤ y) (m1 : 1 ≤ m) (m2 : m ≤ 13) : day_ahead.f y m = some (A y m) := by
  unfold day_ahead.f A
  rw [leap_of y h1]
  simp only [Option.bind_some]
  simp (disch := omega) only [w64, tdivnn]
  by_cases hm : m ≤ 2
  · rw [if_pos hm, if_pos hm, Int.sub_zero]
  · rw [if_neg hm, if_neg hm]
    by_cases hl : lp y
    · simp only [hl, decide_true, if_true]
    · simp [hl]
theorem parts_l1 (y r : Int) (h1 : 1 ≤ y) (h2 : y ≤ 100000) (hr : r < A y 13) (n : Nat) : ∀ m : Int, 1 ≤ m → m ≤ 12 → (12 - m).toNat = n → A y m ≤ r →
    ∃ m' k' : Int, Ev (fun k => day_Parts.l1 k y r m) (y, m', k') ∧ 1 ≤ m' ∧ m' ≤ 12 ∧ 1 ≤ k' ∧ k' ≤ L y m' ∧ r = A y m' + k' - 1 := by
  have hA13 := A_range y 13 (by omega) (by omega)
  induction n with
  | zero =>
    intro m m1 m2 hn ha
    obtain rfl : m = 12 := by omega
    have := A_range y 12 (by omega) (by omega)
    refine ⟨12, r - A y 12 + 1, Ev.step (fun k => ?_) (Ev.now _), by omega, by omega, by omega, by unfold L; rw [show (12 : Int) + 1 = 13 from rfl]; omega, by omega⟩
    simp only [day_Parts.l1]
    rw [if_neg (by omega), ahead_of _ _ h1 (by omega) (by omega)]
    simp only [Option.bind_some]
    rw [w64 (x := r - A y 12) (by omega) (by omega), w64 (by omega) (by omega)]
  | succ n ih =>
    intro m m1 m2 hn ha
    have hb := A_range y m (by omega) (by omega)
    by_cases hc : A y (m + 1) ≤ r
    · obtain ⟨m', k', he, h⟩ := ih (m + 1) (by omega) (by omega) (by omega) hc
      refine ⟨m', k', Ev.step (fun k => ?_) he, h⟩
      simp only [day_Parts.l1]
      rw [if_pos (by omega), w64 (x := m + 1) (by omega) (by omega), ahead_of _ _ h1 (by omega) (by omega)]
      simp only [Option.bind_some]
      rw [if_pos hc]
    · refine ⟨m, r - A y m + 1, Ev.step (fun k => ?_) (Ev.now _), m1, m2, by omega, by unfold L; omega, by omega⟩
      simp only [day_Parts.l1]
      rw [if_pos (by omega), w64 (x := m + 1) (by omega) (by omega), ahead_of _ _ h1 (by omega) (by omega)]
      simp only [Option.bind_some]
      rw [if_neg hc, ahead_of _ _ h1 (by omega) (by omega)]
      simp only [Option.bind_some]
      rw [w64 (x := r - A y m) (by omega) (by omega), w64 (by omega) (by omega)]
theorem parts_l0 (d : Int) (h0 : 0 ≤ d) (hd : d ≤ 1048575) (n : Nat) : ∀ y : Int, 1 ≤ y → F y ≤ d → (3000 - y).toNat = n →
    ∃ y' m' k' : Int, Ev (fun k => day_Parts.l0 k d y) (y', m', k') ∧ IsParts d y' m' k' := by
  induction n with
  | zero => intro y h1 hf hn; have := year_end d y hf hd; omega
  | succ n ih =>
    intro y h1 hf hn
    have hy := year_end d y hf hd
    have hF := F_range y h1
    by_cases hc : F (y + 1) ≤ d
    · obtain ⟨y', m', k', he, h⟩ := ih (y + 1) (by omega) hc (by omega)
      refine ⟨y', m', k', Ev.step (fun k => ?_) he, h⟩
      simp only [day_Parts.l0]
      rw [w64 (x := y + 1) (by omega) (by omega), first_of _ (by omega) (by omega)]
      simp only [Option.bind_some]
      rw [if_pos hc]
    · have hs := F_succ y
      have h13 := A13 y
      obtain ⟨m', k', he, m1, m2, k1, k2, e⟩ := parts_l1 y (d - F y) h1 (by omega) (by omega) _ 1 (by omega) (by omega) rfl (by rw [A1]; omega)
      refine ⟨y, m', k', Ev.step (fun k => ?_) he, ⟨h1, m1, m2, k1, k2, by omega⟩⟩
      simp only [day_Parts.l0]
      rw [w64 (x := y + 1) (by omega) (by omega), first_of _ (by omega) (by omega)]
      simp only [Option.bind_some]
      rw [if_neg hc, first_of _ (by omega) (by omega)]
      simp only [Option.bind_some]
      rw [w64 (x := d - F y) (by omega) (by omega)]
theorem parts_of {d y m k : Int} (h0 : 0 ≤ d) (hd : d ≤ 1048575) (h : IsParts d y m k) : Ev (fun n => day_Parts.f n d) (y, m, k) := by
  have hs := year_start d h0
  obtain ⟨y', m', k', he, h'⟩ := parts_l0 d h0 hd _ _ hs.2 hs.1 rfl
  obtain ⟨rfl, rfl, rfl⟩ := h.unique h'
  refine Ev.congr (fun n => ?_) he
  unfold day_Parts.f
  rw [clamp_of d h0 hd]
  simp only [Option.bind_some]
  simp (disch := omega) only [w64, tdivnn, tmodnn]
/-- the month's number -/
def mo (y m : Int) : Int := 12 * (y - 1) + m - 1
theorem IsPartsB {d y m k : Int} (h : IsParts d y m k) (hd : d ≤ 1048575) : y ≤ 2871 := by
  refine year_end d y ?_ hd
  have := A_range y m h.m1 (by have := h.m2; omega)
  have := h.eq; have := h.k1; omega
theorem month_of {d y m k : Int} (h0 : 0 ≤ d) (hd : d ≤ 1048575) (h : IsParts d y m k) : Ev (fun n => day_Month.f n d) (12 * (y - 1) + m - 1) := by
  have := h.y1; have := IsPartsB h hd; have := h.m1; have := h.m2
  simp only [day_Month.f]
  refine Ev.bind (parts_of h0 hd h) ?_
  simp (disch := omega) only [w64]
  exact Ev.now _
theorem month_max : Ev (fun n => day_Month.f n 1048575) 34450 := month_of (by omega) (by omega) max_parts
theorem clip (M : Int) (h0 : 0 ≤ M) (h1 : M ≤ 34450) : mx 0 (mn M 34450) = M := by unfold mx mn; split <;> split <;> omega
theorem size_of (M : Int) (h0 : 0 ≤ M) (h1 : M ≤ 34450) : Ev (fun n => day_Size.f n M) (SM M) := by
  simp only [day_Size.f]
  refine Ev.bind month_max ?_
  rw [clip M h0 h1]
  simp (disch := omega) only [w64, tdivnn]
  rw [ahead_of _ _ (by omega) (by omega) (by omega), ahead_of _ _ (by omega) (by omega) (by omega)]
  simp only [Option.bind_some]
  have := A_range (M / 12 + 1) (M % 12 + 1 + 1) (by omega) (by omega)
  have := A_range (M / 12 + 1) (M % 12 + 1) (by omega) (by omega)
  rw [w64 (by omega) (by omega)]
  exact Ev.now _
theorem firstday_of (M : Int) (h0 : 0 ≤ M) (h1 : M ≤ 34450) : Ev (fun n => day_First.f n M) (FM M) := by
  simp only [day_First.f]
  refine Ev.bind month_max ?_
  rw [clip M h0 h1]
  simp (disch := omega) only [w64, tdivnn]
  rw [first_of _ (by omega) (by omega), ahead_of _ _ (by omega) (by omega) (by omega)]
  simp only [Option.bind_some]
  have := A_range (M / 12 + 1) (M % 12 + 1) (by omega) (by omega)
  have := F_range (M / 12 + 1) (by omega)
  rw [w64 (by omega) (by omega)]
  exact Ev.now _
theorem dates_of : Ev (fun n => mootkeep1_dates.f n) true := by
  simp only [mootkeep1_dates.f]
  refine Ev.bind (parts_of (y := 1) (m := 2) (k := 1) (by omega) (by omega) ⟨by decide, by decide, by decide, by decide, by decide, by decide⟩) ?_
  exact Ev.now _
/-- a date some months later: M, k: the month and the day of d -/
def later (M k n : Int) : Int := FM (M + n) + min k (SM (M + n)) - 1
theorem later_month (M n : Int) {k : Int} (h1 : 1 ≤ k) : 1 ≤ min k (SM (M + n)) ∧ min k (SM (M + n)) ≤ SM (M + n) := by
  have := SM_range (M + n); omega
theorem later_mono {M k M' k' n : Int} (h1 : 1 ≤ k) (h1' : 1 ≤ k') (h2' : k' ≤ SM M') (h : FM M + k - 1 ≤ FM M' + k' - 1) : later M k n ≤ later M' k' n := by
  have hM := month_le h1 rfl h2' rfl h
  unfold later
  by_cases e : M = M'
  · subst e; omega
  · have := FM_mono (M + n) (M' + n) (by omega)
    have := later_month M n h1; have := later_month M' n h1'
    omega
theorem FM_max : FM 34450 = 1048550 := by decide
theorem later_range {M k n : Int} (h1 : 1 ≤ k) (a : 0 ≤ M + n) (b : M + n < 34450) : 0 ≤ later M k n ∧ later M k n < 1048575 := by
  have := later_month M n h1
  have hl := FM_mono (M + n) 34450 b
  have : 0 ≤ FM (M + n) := by
    by_cases e : M + n = 0
    · rw [e, FM_zero]; omega
    · have := FM_mono 0 (M + n) (by omega); rw [FM_zero] at this; have := SM_range 0; omega
  rw [FM_max] at hl
  unfold later; omega
theorem months_of {d y m k n : Int} (h0 : 0 ≤ d) (hd : d ≤ 1048575) (h : IsParts d y m k) (hn1 : -40000 ≤ n) (hn2 : n ≤ 40000) (a : 0 ≤ mo y m + n) (b : mo y m + n < 34450) :
    Ev (fun c => day_Months.f c d n) (later (mo y m) k n) := by
  have hB := IsPartsB h hd; have := h.y1; have := h.m1; have := h.m2
  have hr := later_range (M := mo y m) (n := n) h.k1 a b
  have hs := SM_range (mo y m + n)
  have hmin : mn k (SM (mo y m + n)) = min k (SM (mo y m + n)) := by unfold mn; split <;> omega
  have hn : mx (-40000) (mn n 40000) = n := by unfold mx mn; split <;> split <;> omega
  have hL := L_range y m h.m1 h.m2; have := h.k2; have := h.k1
  simp only [day_Months.f]
  rw [clamp_of d h0 hd]
  simp only [Option.bind_some]
  refine Ev.bind (parts_of h0 hd h) ?_
  refine Ev.bind (month_of h0 hd h) ?_
  rw [hn, show wrap64 (12 * (y - 1) + m - 1 + n) = mo y m + n from by unfold mo at *; exact w64 (by omega) (by omega)]
  refine Ev.ifn (by omega) ?_
  refine Ev.bind month_max ?_
  refine Ev.ifn (by omega) ?_
  refine Ev.bind (firstday_of _ a (by omega)) ?_
  refine Ev.bind (size_of _ a (by omega)) ?_
  simp only []
  rw [hmin]
  unfold later at hr
  rw [w64 (x := FM (mo y m + n) + min k (SM (mo y m + n))) (by omega) (by omega), w64 (by omega) (by omega), clamp_of _ (by omega) (by omega)]
  exact Ev.now _
theorem later_parts {M k n : Int} (h1 : 1 ≤ k) (a : 0 ≤ M + n) : IsParts (later M k n) ((M + n) / 12 + 1) ((M + n) % 12 + 1) (min k (SM (M + n))) :=
  IsParts.of_month a (later_month M n h1).1 (later_month M n h1).2 rfl
theorem years_of {a y m k b y' m' k' : Int} (h0 : 0 ≤ a) (hab : a ≤ b) (hb : b ≤ 1048575) (h : IsParts a y m k) (h' : IsParts b y' m' k') :
    Ev (fun c => day_Years.f c a b) (if m' < m ∨ m' = m ∧ k' < min k (SM (mo y' m)) then mx 0 (y' - y - 1) else mx 0 (y' - y)) := by
  have hB := IsPartsB h (by omega); have hB' := IsPartsB h' hb
  have := h.y1; have := h'.y1; have := h.m1; have := h.m2; have := h'.m1; have := h'.m2
  simp only [day_Years.f]
  rw [clamp_of a h0 (by omega), clamp_of b (by omega) hb]
  simp only [Option.bind_some]
  refine Ev.ifn (by omega) ?_
  refine Ev.bind (parts_of h0 (by omega) h) ?_
  refine Ev.bind (parts_of (by omega) hb h') ?_
  simp (disch := omega) only [w64]
  by_cases c1 : m' < m
  · rw [if_pos (.inl c1)]
    exact Ev.ifp c1 (Ev.now _)
  · refine Ev.ifn c1 ?_
    by_cases c2 : m' = m
    · refine Ev.ifp c2 ?_
      have hmo : 12 * (y' - 1) + m - 1 = mo y' m := rfl
      rw [hmo]
      refine Ev.bind (size_of _ (by unfold mo; omega) ?_) ?_
      · -- b is a date of that year
        have hm := month_le (M := mo y' m') (M' := 34450) h'.k1 h'.fm.1 (max_parts.fm.2) max_parts.fm.1 hb
        rw [← c2]; exact hm
      have hmin : mn k (SM (mo y' m)) = min k (SM (mo y' m)) := by unfold mn; split <;> omega
      rw [hmin]
      by_cases c3 : k' < min k (SM (mo y' m))
      · refine Ev.ifp c3 (Ev.to ?_)
        exact (if_pos (.inr ⟨c2, c3⟩)).symm
      · refine Ev.ifn c3 (Ev.to ?_)
        exact (if_neg (fun h => h.elim (fun h => by omega) fun h => c3 h.2)).symm
    · refine Ev.ifn c2 (Ev.to ?_)
      exact (if_neg (fun h => h.elim (fun h => by omega) fun h => by omega)).symm
theorem mx0 {a : Int} (h : 0 ≤ a) : mx 0 a = a := by unfold mx; split <;> omega
theorem DayYears : mootkeep1_DayYears.Pure := by
  intro a0 a1 _ _
  have ra := below_range a0 40000 (by omega)
  have rk := below_range a1 150 (by omega)
  obtain ⟨d, hd⟩ : ∃ d, d = 700000 + a0 % 40000 := ⟨_, rfl⟩
  obtain ⟨j, hj⟩ : ∃ j, j = 1 + a1 % 150 := ⟨_, rfl⟩
  obtain ⟨y, m, k, hp⟩ := parts_exists d (by omega)
  have hB := IsPartsB hp (by omega)
  have hf := hp.fm
  have hm1 := hp.m1; have hm2 := hp.m2; have hk1 := hp.k1; have hy1 := hp.y1
  -- which months are met
  have hlo : 12 ≤ mo y m := by
    refine Int.not_lt.1 fun h => ?_
    have := FM_mono' (mo y m) 12 h
    have hk := SM_range (mo y m)
    rw [show FM 12 = 365 from by decide] at this
    unfold mo at *; omega
  have hhi : mo y m < 24400 := by
    refine Int.not_le.1 fun h => ?_
    have : FM 24400 ≤ FM (mo y m) := by
      by_cases e : mo y m = 24400
      · rw [e]; omega
      · have := FM_mono' 24400 (mo y m) (by omega); omega
    have h2 : 740100 ≤ FM 24400 := by decide
    unfold mo at *; omega
  have hx := months_of (n := 12 * j) (by omega) (by omega) hp (by omega) (by omega) (by omega) (by omega)
  have hxr := later_range (M := mo y m) (n := 12 * j) hk1 (by omega) (by omega)
  have hxp := later_parts (M := mo y m) (n := 12 * j) hk1 (by omega)
  have ey : (mo y m + 12 * j) / 12 + 1 = y + j := by unfold mo; omega
  have em : (mo y m + 12 * j) % 12 + 1 = m := by unfold mo; omega
  have eM : mo y m + 12 * j = mo (y + j) m := by unfold mo; omega
  rw [ey, em, eM] at hxp
  obtain ⟨x, hxe⟩ : ∃ x, x = later (mo y m) k (12 * j) := ⟨_, rfl⟩
  rw [← hxe] at hx hxr hxp
  have hS := SM_range (mo (y + j) m)
  have hdx : d < x := by
    have e := hxp.fm.1
    have hlt := FM_mono (mo y m) (mo (y + j) m) (by unfold mo; omega)
    have := hxp.k1
    unfold mo at *; omega
  have hY1 := years_of (by omega) (by omega) (by omega) hp hxp
  rw [if_neg (by rintro (h | ⟨_, h⟩) <;> omega), show y + j - y = j from by omega, mx0 (by omega)] at hY1
  -- the day before
  have hY2 : Ev (fun c => day_Years.f c d (x - 1)) (j - 1) := by
    by_cases h1 : min k (SM (mo (y + j) m)) = 1
    · have e := hxp.fm.1
      by_cases hm : m = 1
      · have hprev := FM_succ (mo (y + j) m - 1)
        have hSp := SM_range (mo (y + j) m - 1)
        rw [show mo (y + j) m - 1 + 1 = mo (y + j) m from by omega] at hprev
        have hpp : IsParts (x - 1) (y + j - 1) 12 (SM (mo (y + j) m - 1)) := by
          have := IsParts.of_month (d := x - 1) (M := mo (y + j) m - 1) (k := SM (mo (y + j) m - 1)) (by unfold mo; omega) (by omega) (by omega) (by unfold mo at *; omega)
          rwa [show (mo (y + j) m - 1) / 12 + 1 = y + j - 1 from by unfold mo; omega, show (mo (y + j) m - 1) % 12 + 1 = 12 from by unfold mo; omega] at this
        have := years_of (by omega) (by omega) (by omega) hp hpp
        rw [if_neg (by rintro (h | ⟨h, _⟩) <;> omega), mx0 (by omega)] at this
        rwa [show y + j - 1 - y = j - 1 from by omega] at this
      · have hprev := FM_succ (mo (y + j) m - 1)
        have hSp := SM_range (mo (y + j) m - 1)
        rw [show mo (y + j) m - 1 + 1 = mo (y + j) m from by omega] at hprev
        have hpp : IsParts (x - 1) (y + j) (m - 1) (SM (mo (y + j) m - 1)) := by
          have := IsParts.of_month (d := x - 1) (M := mo (y + j) m - 1) (k := SM (mo (y + j) m - 1)) (by unfold mo; omega) (by omega) (by omega) (by unfold mo at *; omega)
          rwa [show (mo (y + j) m - 1) / 12 + 1 = y + j from by unfold mo; omega, show (mo (y + j) m - 1) % 12 + 1 = m - 1 from by unfold mo; omega] at this
        have := years_of (by omega) (by omega) (by omega) hp hpp
        rw [if_pos (.inl (by omega)), mx0 (by omega)] at this
        rwa [show y + j - y - 1 = j - 1 from by omega] at this
    · have hpp : IsParts (x - 1) (y + j) m (min k (SM (mo (y + j) m)) - 1) :=
        ⟨hxp.y1, hm1, hm2, by have := hxp.k1; omega, by have := hxp.k2; omega, by have := hxp.eq; omega⟩
      have := years_of (by omega) (by omega) (by omega) hp hpp
      rw [if_pos (.inr ⟨rfl, by omega⟩), mx0 (by omega)] at this
      rwa [show y + j - y - 1 = j - 1 from by omega] at this
  have hY3 : Ev (fun c => day_Years.f c x d) 0 := by
    simp only [day_Years.f]
    rw [clamp_of x (by omega) (by omega), clamp_of d (by omega) (by omega)]
    simp only [Option.bind_some]
    exact Ev.ifp hdx (Ev.now _)
  refine Ev.rounds (g := fun c => mootkeep1_DayYears.f c a0 a1) ?_
  simp only [mootkeep1_DayYears.f]
  rw [day_of, below_of _ _ (by omega) (by omega), ← hd]
  simp only [Option.bind_some]
  rw [w64 (x := 1 + a1 % 150) (by omega) (by omega), ← hj, w64 (x := 12 * j) (by omega) (by omega)]
  refine Ev.bind hx ?_
  refine Ev.bind dates_of ?_
  refine Ev.ifp rfl ?_
  refine Ev.bind hY1 ?_
  refine Ev.ifp rfl ?_
  rw [w64 (x := x - 1) (by omega) (by omega), w64 (x := j - 1) (by omega) (by omega)]
  refine Ev.bind hY2 ?_
  refine Ev.ifp rfl ?_
  refine Ev.bind hY3 ?_
  exact Ev.now _
end Go.Proofs.Ytdajcnhhfgnbmaa.Pure
