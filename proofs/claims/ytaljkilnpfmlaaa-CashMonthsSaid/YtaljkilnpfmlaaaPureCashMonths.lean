/-
An amount that is divided over the months of a year by their days, as a course of daily amounts of months, is together the amount, whatever numbers come in.
-/
import Derived.Test.YtaljkilnpfmlaaaPCashMonthsx12
set_option linter.unusedVariables false
set_option linter.unusedSimpArgs false
namespace Go.Proofs.Ytaljkilnpfmlaaa.Days
/-- the first day of a year -/
def F (y : Int) : Int := 365 * (y - 1) + (y - 1) / 4 - (y - 1) / 100 + (y - 1) / 400
def lp (y : Int) : Prop := y % 4 = 0 ∧ (y % 100 ≠ 0 ∨ y % 400 = 0)
instance (y : Int) : Decidable (lp y) := by unfold lp; infer_instance
/-- how many days of a year are ahead of a month -/
def A (y m : Int) : Int := (367 * m - 362) / 12 - (if m ≤ 2 then 0 else if lp y then 1 else 2)
def N (y m k : Int) : Int := F y + A y m + k - 1

theorem F_succ (y : Int) : F (y + 1) = F y + (if lp y then 366 else 365) := by
  unfold F
  by_cases h : lp y
  · rw [if_pos h]; unfold lp at h; omega
  · rw [if_neg h]; unfold lp at h; omega
theorem A13 (y : Int) : A y 13 = (if lp y then 366 else 365) := by
  unfold A; by_cases h : lp y <;> simp [h]
theorem A1 (y : Int) : A y 1 = 0 := by unfold A; simp
theorem months (m : Int) (h1 : 1 ≤ m) (h2 : m ≤ 12) : m = 1 ∨ m = 2 ∨ m = 3 ∨ m = 4 ∨ m = 5 ∨ m = 6 ∨ m = 7 ∨ m = 8 ∨ m = 9 ∨ m = 10 ∨ m = 11 ∨ m = 12 := by omega
/-- the size of a month -/
def L (y m : Int) : Int := A y (m + 1) - A y m
theorem L_range (y m : Int) (h1 : 1 ≤ m) (h2 : m ≤ 12) : 28 ≤ L y m ∧ L y m ≤ 31 := by
  unfold L A
  rcases months m h1 h2 with rfl | rfl | rfl | rfl | rfl | rfl | rfl | rfl | rfl | rfl | rfl | rfl <;> by_cases h : lp y <;> simp [h]
theorem A_range (y m : Int) (_ : 1 ≤ m) (_ : m ≤ 13) : 0 ≤ A y m ∧ A y m ≤ 366 ∧ 28 * (m - 1) ≤ A y m ∧ A y m ≤ 31 * (m - 1) := by
  unfold A; split <;> (try split) <;> omega
theorem A_mono (y m m' : Int) (h1 : 1 ≤ m) (h : m < m') (h2 : m' ≤ 13) : A y m + 28 ≤ A y m' := by
  unfold A; by_cases hl : lp y <;> simp only [hl, if_true, if_false] <;> (split <;> split <;> omega)
theorem F_mono (y y' : Int) (h : y < y') : F y + 365 ≤ F y' := by unfold F; omega
theorem F_range (y : Int) (h : 1 ≤ y) : 365 * (y - 1) ≤ F y ∧ F y ≤ 366 * (y - 1) := by unfold F; omega

/-- the first day of month number M, counted from 0 -/
def FM (M : Int) : Int := F (M / 12 + 1) + A (M / 12 + 1) (M % 12 + 1)
def SM (M : Int) : Int := L (M / 12 + 1) (M % 12 + 1)
theorem SM_range (M : Int) : 28 ≤ SM M ∧ SM M ≤ 31 := L_range _ _ (by omega) (by omega)
theorem FM_succ (M : Int) : FM (M + 1) = FM M + SM M := by
  unfold FM SM L
  by_cases h : M % 12 = 11
  · have e1 : (M + 1) / 12 = M / 12 + 1 := by omega
    have e2 : (M + 1) % 12 = 0 := by omega
    rw [e1, e2, h, F_succ]
    have := A13 (M / 12 + 1)
    have a1 := A1 (M / 12 + 1 + 1)
    rw [show (0 : Int) + 1 = 1 from rfl, show (11 : Int) + 1 = 12 from rfl, show (12 : Int) + 1 = 13 from rfl]
    omega
  · have e1 : (M + 1) / 12 = M / 12 := by omega
    have e2 : (M + 1) % 12 = M % 12 + 1 := by omega
    rw [e1, e2]; omega
theorem FM_mono_nat (M : Int) (n : Nat) : FM M + 28 * n ≤ FM (M + n) := by
  induction n with
  | zero => simp
  | succ n ih =>
    have := FM_succ (M + n)
    have := (SM_range (M + n)).1
    have e : M + ((n + 1 : Nat) : Int) = M + n + 1 := by omega
    rw [e]; omega
theorem FM_mono (M M' : Int) (h : M < M') : FM M + SM M ≤ FM M' := by
  obtain ⟨n, rfl⟩ : ∃ n : Nat, M' = M + 1 + n := ⟨(M' - (M + 1)).toNat, by omega⟩
  have := FM_mono_nat (M + 1) n
  have := FM_succ M
  omega
theorem FM_mono' (M M' : Int) (h : M < M') : FM M + 28 ≤ FM M' := by
  have := FM_mono M M' h; have := SM_range M; omega

/-- what a date's parts are -/
structure IsParts (d y m k : Int) : Prop where
  y1 : 1 ≤ y
  m1 : 1 ≤ m
  m2 : m ≤ 12
  k1 : 1 ≤ k
  k2 : k ≤ L y m
  eq : d = F y + A y m + k - 1
theorem IsParts.fm {d y m k : Int} (h : IsParts d y m k) : d = FM (12 * (y - 1) + m - 1) + k - 1 ∧ k ≤ SM (12 * (y - 1) + m - 1) := by
  have e1 : (12 * (y - 1) + m - 1) / 12 + 1 = y := by have := h.m1; have := h.m2; omega
  have e2 : (12 * (y - 1) + m - 1) % 12 + 1 = m := by have := h.m1; have := h.m2; omega
  unfold FM SM
  rw [e1, e2]; exact ⟨h.eq, h.k2⟩
theorem month_unique {d M k M' k' : Int} (h1 : 1 ≤ k) (h2 : k ≤ SM M) (e : d = FM M + k - 1) (h1' : 1 ≤ k') (h2' : k' ≤ SM M') (e' : d = FM M' + k' - 1) : M = M' ∧ k = k' := by
  have hM : M = M' := by
    rcases Int.lt_trichotomy M M' with h | h | h
    · have := FM_mono M M' h; omega
    · exact h
    · have := FM_mono M' M h; omega
  subst hM; exact ⟨rfl, by omega⟩
theorem IsParts.unique {d y m k y' m' k' : Int} (h : IsParts d y m k) (h' : IsParts d y' m' k') : y = y' ∧ m = m' ∧ k = k' := by
  have a := h.fm; have b := h'.fm
  have := month_unique h.k1 a.2 a.1 h'.k1 b.2 b.1
  have := h.m1; have := h.m2; have := h'.m1; have := h'.m2
  omega
theorem IsParts.of_month {d M k : Int} (hM : 0 ≤ M) (h1 : 1 ≤ k) (h2 : k ≤ SM M) (e : d = FM M + k - 1) : IsParts d (M / 12 + 1) (M % 12 + 1) k :=
  ⟨by omega, by omega, by omega, h1, h2, e⟩

theorem year_start (d : Int) (h : 0 ≤ d) : F (400 * (d / 146097) + d % 146097 / 366 + 1) ≤ d ∧ 1 ≤ 400 * (d / 146097) + d % 146097 / 366 + 1 := by
  unfold F; omega
theorem year_end (d y : Int) (h : F y ≤ d) (hd : d ≤ 1048575) : y ≤ 2871 := by
  unfold F at h; omega
theorem max_parts : IsParts 1048575 2871 11 26 := by
  refine ⟨by decide, by decide, by decide, by decide, by decide, by decide⟩
theorem FM_zero : FM 0 = 0 := by decide
theorem month_nonneg {d M k : Int} (hd : 0 ≤ d) (h1 : 1 ≤ k) (h2 : k ≤ SM M) (e : d = FM M + k - 1) : 0 ≤ M := by
  refine Int.not_lt.1 fun h => ?_
  have := FM_mono M 0 (by omega)
  rw [FM_zero] at this
  omega
theorem month_le {d M k d' M' k' : Int} (h1 : 1 ≤ k) (e : d = FM M + k - 1) (h2' : k' ≤ SM M') (e' : d' = FM M' + k' - 1) (h : d ≤ d') : M ≤ M' := by
  refine Int.not_lt.1 fun hl => ?_
  have := FM_mono M' M hl
  omega
/-- every date lies in a month -/
theorem month_exists (d : Int) (h : 0 ≤ d) : ∃ M k : Int, 0 ≤ M ∧ 1 ≤ k ∧ k ≤ SM M ∧ d = FM M + k - 1 := by
  obtain ⟨n, rfl⟩ := Int.eq_ofNat_of_zero_le h
  induction n with
  | zero => exact ⟨0, 1, by decide, by decide, by decide, by decide⟩
  | succ n ih =>
    obtain ⟨M, k, h0, h1, h2, e⟩ := ih (by omega)
    by_cases hk : k + 1 ≤ SM M
    · exact ⟨M, k + 1, h0, by omega, hk, by omega⟩
    · have := SM_range (M + 1); have := FM_succ M
      exact ⟨M + 1, 1, by omega, by omega, by omega, by omega⟩
theorem parts_exists (d : Int) (h : 0 ≤ d) : ∃ y m k, IsParts d y m k := by
  obtain ⟨M, k, h0, h1, h2, e⟩ := month_exists d h
  exact ⟨_, _, _, IsParts.of_month h0 h1 h2 e⟩
end Go.Proofs.Ytaljkilnpfmlaaa.Days
namespace Go.Proofs.Ytaljkilnpfmlaaa.Pure
open Go.RowKit Go.Proofs.Ytaljkilnpfmlaaa.PCashMonths Go.Proofs.YtaljkilnpfmlaaaW.PrintWords Go.Proofs.YtaljkilnpfmlaaaW.PrintLast Go.Proofs.Ytaljkilnpfmlaaa.Days
/-- numbers that need no wrap -/
theorem w64 {x : Int} (h1 : -9223372036854775808 ≤ x) (h2 : x ≤ 9223372036854775807) : wrap64 x = x := by unfold wrap64; omega
theorem tdivnn {a b : Int} (h : 0 ≤ a) : Int.tdiv a b = a / b := Int.tdiv_eq_ediv_of_nonneg h
theorem tmodnn {a b : Int} (h : 0 ≤ a) : Int.tmod a b = a % b := Int.tmod_eq_emod_of_nonneg h
theorem Ev.ifp {α : Type} {c : Prop} [Decidable c] {a b : Nat → Option α} {r : α} (h : c) (k : Ev a r) : Ev (fun n => if c then a n else b n) r := Ev.congr (fun n => by rw [if_pos h]) k
theorem Ev.ifn {α : Type} {c : Prop} [Decidable c] {a b : Nat → Option α} {r : α} (h : ¬ c) (k : Ev b r) : Ev (fun n => if c then a n else b n) r := Ev.congr (fun n => by rw [if_neg h]) k
theorem Ev.to {α : Type} {a b : α} (h : a = b) : Ev (fun _ => some a) b := h ▸ Ev.now a
theorem below_of (x n : Int) (h0 : 0 < n) (h1 : n ≤ 4611686018427387904) : mootmake_Below.f x n = some (x % n) := by
  have hr := Int.emod_nonneg x (show n ≠ 0 by omega)
  have hl := Int.emod_lt_of_pos x h0
  unfold mootmake_Below.f
  rw [if_neg (by omega), Int.tmod_eq_emod]
  by_cases h : 0 ≤ x ∨ n ∣ x
  · rw [if_pos h, show x % n - ((0 : Nat) : Int) = x % n from by omega, if_neg (by omega)]
  · have h3 : x % n ≠ 0 := fun e => h (.inr (Int.dvd_of_emod_eq_zero e))
    rw [if_neg h, if_pos (by omega), w64 (by omega) (by omega)]
    congr 1; omega
theorem below_range (x n : Int) (h0 : 0 < n) : 0 ≤ x % n ∧ x % n < n := ⟨Int.emod_nonneg x (by omega), Int.emod_lt_of_pos x h0⟩
theorem drop_rd (l : List Int) (i : Nat) (h : i < l.length) : l.drop i = rd l (i : Int) :: l.drop (i + 1) := by
  rw [List.drop_eq_getElem_cons h]
  unfold rd
  simp [List.getD, h]
theorem w64_succ {i n : Nat} (h : i < n) (hn : n ≤ 9223372036854775807) : wrap64 ((i : Int) + 1) = ((i + 1 : Nat) : Int) := by
  rw [w64 (by omega) (by omega)]; omega
theorem day_of (x : Int) : mootmake_Day.f x = some (700000 + x % 40000) := by
  unfold mootmake_Day.f
  rw [below_of _ _ (by omega) (by omega)]
  simp only [Option.bind_some]
  rw [w64 (by omega) (by omega)]
theorem clamp_of (d : Int) (h0 : 0 ≤ d) (h1 : d ≤ 1048575) : day_clamp.f d = some d := by
  unfold day_clamp.f mx mn
  congr 1; split <;> split <;> omega
theorem first_of (y : Int) (h1 : 1 ≤ y) (h2 : y ≤ 100000) : day_first.f y = some (F y) := by
  unfold day_first.f F
  simp (disch := omega) only [w64, tdivnn]
theorem leap_of (y : Int) (h1 : 1 ≤ y) : day_Leap.f y = some (decide (lp y)) := by
  unfold day_Leap.f lp
  simp (disch := omega) only [tmodnn]
  by_cases a : y % 4 = 0
  · rw [if_pos a]
    by_cases b : y % 100 = 0
    · rw [if_pos b]; by_cases c : y % 400 = 0 <;> simp [a, b, c]
    · rw [if_neg b]; simp [a, b]
  · rw [if_neg a]; simp [a]
theorem ahead_of (y m : Int) (h1 : 1 ≤ y) (m1 : 1 ≤ m) (m2 : m ≤ 13) : day_ahead.f y m = some (A y m) := by
  unfold day_ahead.f A
  rw [leap_of y h1]
  simp only [Option.bind_some]
  simp (disch := omega) only [w64, tdivnn]
  by_cases hm : m ≤ 2
  · rw [if_pos hm, if_pos hm, Int.sub_zero]
  · rw [if_neg hm, if_neg hm]
    by_cases hl : lp y
    · simp only [hl, decide_true, if_true]
    · simp [hl]
theorem parts_l1 (y r : Int) (h1 : 1 ≤ y) (h2 : y ≤ 100000) (hr : r < A y 13) (n : Nat) : ∀ m : Int, 1 ≤ m → m ≤ 12 → (12 - m).toNat = n → A y m ≤ r →
    ∃ m' k' : Int, Ev (fun k => day_Parts.l1 k y r m) (y, m', k') ∧ 1 ≤ m' ∧ m' ≤ 12 ∧ 1 ≤ k' ∧ k' ≤ L y m' ∧ r = A y m' + k' - 1 := by
  have hA13 := A_range y 13 (by omega) (by omega)
  induction n with
  | zero =>
    intro m m1 m2 hn ha
    obtain rfl : m = 12 := by omega
    have := A_range y 12 (by omega) (by omega)
    refine ⟨12, r - A y 12 + 1, Ev.step (fun k => ?_) (Ev.now _), by omega, by omega, by omega, by unfold L; rw [show (12 : Int) + 1 = 13 from rfl]; omega, by omega⟩
    simp only [day_Parts.l1]
    rw [if_neg (by omega), ahead_of _ _ h1 (by omega) (by omega)]
    simp only [Option.bind_some]
    rw [w64 (x := r - A y 12) (by omega) (by omega), w64 (by omega) (by omega)]
  | succ n ih =>
    intro m m1 m2 hn ha
    have hb := A_range y m (by omega) (by omega)
    by_cases hc : A y (m + 1) ≤ r
    · obtain ⟨m', k', he, h⟩ := ih (m + 1) (by omega) (by omega) (by omega) hc
      refine ⟨m', k', Ev.step (fun k => ?_) he, h⟩
      simp only [day_Parts.l1]
      rw [if_pos (by omega), w64 (x := m + 1) (by omega) (by omega), ahead_of _ _ h1 (by omega) (by omega)]
      simp only [Option.bind_some]
      rw [if_pos hc]
    · refine ⟨m, r - A y m + 1, Ev.step (fun k => ?_) (Ev.now _), m1, m2, by omega, by unfold L; omega, by omega⟩
      simp only [day_Parts.l1]
      rw [if_pos (by omega), w64 (x := m + 1) (by omega) (by omega), ahead_of _ _ h1 (by omega) (by omega)]
      simp only [Option.bind_some]
      rw [if_neg hc, ahead_of _ _ h1 (by omega) (by omega)]
      simp only [Option.bind_some]
      rw [w64 (x := r - A y m) (by omega) (by omega), w64 (by omega) (by omega)]
theorem parts_l0 (d : Int) (h0 : 0 ≤ d) (hd : d ≤ 1048575) (n : Nat) : ∀ y : Int, 1 ≤ y → F y ≤ d → (3000 - y).toNat = n →
    ∃ y' m' k' : Int, Ev (fun k => day_Parts.l0 k d y) (y', m', k') ∧ IsParts d y' m' k' := by
  induction n with
  | zero => intro y h1 hf hn; have := year_end d y hf hd; omega
  | succ n ih =>
    intro y h1 hf hn
    have hy := year_end d y hf hd
    have hF := F_range y h1
    by_cases hc : F (y + 1) ≤ d
    · obtain ⟨y', m', k', he, h⟩ := ih (y + 1) (by omega) hc (by omega)
      refine ⟨y', m', k', Ev.step (fun k => ?_) he, h⟩
      simp only [day_Parts.l0]
      rw [w64 (x := y + 1) (by omega) (by omega), first_of _ (by omega) (by omega)]
      simp only [Option.bind_some]
      rw [if_pos hc]
    · have hs := F_succ y
      have h13 := A13 y
      obtain ⟨m', k', he, m1, m2, k1, k2, e⟩ := parts_l1 y (d - F y) h1 (by omega) (by omega) _ 1 (by omega) (by omega) rfl (by rw [A1]; omega)
      refine ⟨y, m', k', Ev.step (fun k => ?_) he, ⟨h1, m1, m2, k1, k2, by omega⟩⟩
      simp only [day_Parts.l0]
      rw [w64 (x := y + 1) (by omega) (by omega), first_of _ (by omega) (by omega)]
      simp only [Option.bind_some]
      rw [if_neg hc, first_of _ (by omega) (by omega)]
      simp only [Option.bind_some]
      rw [w64 (x := d - F y) (by omega) (by omega)]
theorem parts_of {d y m k : Int} (h0 : 0 ≤ d) (hd : d ≤ 1048575) (h : IsParts d y m k) : Ev (fun n => day_Parts.f n d) (y, m, k) := by
  have hs := year_start d h0
  obtain ⟨y', m', k', he, h'⟩ := parts_l0 d h0 hd _ _ hs.2 hs.1 rfl
  obtain ⟨rfl, rfl, rfl⟩ := h.unique h'
  refine Ev.congr (fun n => ?_) he
  unfold day_Parts.f
  rw [clamp_of d h0 hd]
  simp only [Option.bind_some]
  simp (disch := omega) only [w64, tdivnn, tmodnn]
/-- the month's number -/
def mo (y m : Int) : Int := 12 * (y - 1) + m - 1
theorem IsPartsB {d y m k : Int} (h : IsParts d y m k) (hd : d ≤ 1048575) : y ≤ 2871 := by
  refine year_end d y ?_ hd
  have := A_range y m h.m1 (by have := h.m2; omega)
  have := h.eq; have := h.k1; omega
theorem month_of {d y m k : Int} (h0 : 0 ≤ d) (hd : d ≤ 1048575) (h : IsParts d y m k) : Ev (fun n => day_Month.f n d) (12 * (y - 1) + m - 1) := by
  have := h.y1; have := IsPartsB h hd; have := h.m1; have := h.m2
  simp only [day_Month.f]
  refine Ev.bind (parts_of h0 hd h) ?_
  simp (disch := omega) only [w64]
  exact Ev.now _
theorem month_max : Ev (fun n => day_Month.f n 1048575) 34450 := month_of (by omega) (by omega) max_parts
theorem clip (M : Int) (h0 : 0 ≤ M) (h1 : M ≤ 34450) : mx 0 (mn M 34450) = M := by unfold mx mn; split <;> split <;> omega
theorem size_of (M : Int) (h0 : 0 ≤ M) (h1 : M ≤ 34450) : Ev (fun n => day_Size.f n M) (SM M) := by
  simp only [day_Size.f]
  refine Ev.bind month_max ?_
  rw [clip M h0 h1]
  simp (disch := omega) only [w64, tdivnn]
  rw [ahead_of _ _ (by omega) (by omega) (by omega), ahead_of _ _ (by omega) (by omega) (by omega)]
  simp only [Option.bind_some]
  have := A_range (M / 12 + 1) (M % 12 + 1 + 1) (by omega) (by omega)
  have := A_range (M / 12 + 1) (M % 12 + 1) (by omega) (by omega)
  rw [w64 (by omega) (by omega)]
  exact Ev.now _
theorem firstday_of (M : Int) (h0 : 0 ≤ M) (h1 : M ≤ 34450) : Ev (fun n => day_First.f n M) (FM M) := by
  simp only [day_First.f]
  refine Ev.bind month_max ?_
  rw [clip M h0 h1]
  simp (disch := omega) only [w64, tdivnn]
  rw [first_of _ (by omega) (by omega), ahead_of _ _ (by omega) (by omega) (by omega)]
  simp only [Option.bind_some]
  have := A_range (M / 12 + 1) (M % 12 + 1) (by omega) (by omega)
  have := F_range (M / 12 + 1) (by omega)
  rw [w64 (by omega) (by omega)]
  exact Ev.now _
theorem mo_range {d y m k : Int} (h : IsParts d y m k) (h0 : 700000 ≤ d) (h1 : d ≤ 740050) : 12000 ≤ mo y m ∧ mo y m < 24400 := by
  have hf := h.fm; have := h.k1; have hm1 := h.m1; have hm2 := h.m2
  constructor
  · refine Int.not_lt.1 fun hl => ?_
    have := FM_mono (mo y m) 12000 hl
    have h2 : FM 12000 ≤ 700000 := by decide
    unfold mo at *; omega
  · refine Int.not_le.1 fun hl => ?_
    have : FM 24400 ≤ FM (mo y m) := by
      by_cases e : mo y m = 24400
      · rw [e]; omega
      · have := FM_mono' 24400 (mo y m) (by omega); omega
    have h2 : 740100 ≤ FM 24400 := by decide
    unfold mo at *; omega
/-- a span of a number of things, within all dates -/
def okspan (s : S49) : Prop := 0 ≤ s.f0 ∧ s.f0 < s.f1 ∧ s.f1 ≤ 1048576 ∧ s.f2.f0 = 2 ∧ -268435456 ≤ s.f2.f1 ∧ s.f2.f1 ≤ 268435456
def follows (p s : S49) : Prop := p.f1 ≤ s.f0 ∧ ¬ (s.f0 = p.f1 ∧ s.f2.f0 = p.f2.f0 ∧ s.f2.f1 = p.f2.f1)
inductive Valid : List S49 → Prop
  | nil : Valid []
  | one (s : S49) : okspan s → Valid [s]
  | snoc (l : List S49) (p s : S49) : Valid (l ++ [p]) → okspan s → follows p s → Valid (l ++ [p] ++ [s])
theorem getD_app (l : List S49) (s : S49) (i : Nat) (z : S49) : (l ++ [s]).getD i z = if i < l.length then l.getD i z else if i = l.length then s else z := by
  simp only [List.getD_eq_getElem?_getD, List.getElem?_append]
  split
  · rfl
  · split
    · rename_i h; subst h; simp
    · rename_i h h'
      rw [List.getElem?_eq_none (by simp; omega)]; rfl
theorem Valid.index {l : List S49} (h : Valid l) : ∀ i, i < l.length → okspan (l.getD i z49) ∧ (0 < i → follows (l.getD (i - 1) z49) (l.getD i z49)) := by
  induction h with
  | nil => intro i hi; simp at hi
  | one s hs => intro i hi; obtain rfl : i = 0 := by simp at hi; omega
                exact ⟨hs, fun h => by omega⟩
  | snoc l p s _ hs hf ih =>
    intro i hi
    by_cases hlt : i < (l ++ [p]).length
    · rw [getD_app (l ++ [p]) s i, getD_app (l ++ [p]) s (i - 1), if_pos hlt, if_pos (by omega)]
      exact ih i hlt
    · have e : i = (l ++ [p]).length := by rw [List.length_append] at hi; simp at hi hlt ⊢; omega
      rw [getD_app (l ++ [p]) s i, getD_app (l ++ [p]) s (i - 1), if_neg hlt, if_pos e]
      refine ⟨hs, fun hp => ?_⟩
      rw [if_pos (by omega), getD_app l p, if_neg (by simp at e; omega), if_pos (by simp at e; omega)]
      exact hf
theorem Valid.indexR {l : List S49} (h : Valid l) (i : Nat) (hi : i < l.length) : okspan (rd_T49 l (i : Int)) ∧ (0 < i → follows (rd_T49 l ((i - 1 : Nat) : Int)) (rd_T49 l (i : Int))) := h.index i hi
theorem ucheck_of (n : Int) (h1 : -268435456 ≤ n) (h2 : n ≤ 268435456) : unit_Check.f 2 n = some 0 := by
  unfold unit_Check.f unit_Range.f unit_known.f
  rw [if_neg (by decide), if_pos rfl, if_pos (by decide)]
  simp only [Option.bind_some]
  rw [if_pos (by decide), if_neg (by omega), if_neg (by omega)]
theorem check_l0 (c : List S49) (hc : Valid c) (hl : c.length ≤ 1000) (n : Nat) : ∀ i : Nat, i ≤ c.length → c.length - i = n → Ev (fun k => course_Check.l0 k c c (c.length : Int) (i : Int)) 0 := by
  induction n with
  | zero =>
    intro i hi hn
    obtain rfl : i = c.length := by omega
    refine Ev.step (f := fun _ => some 0) (fun k => ?_) (Ev.now _)
    simp only [course_Check.l0]
    rw [if_neg (by omega)]
  | succ n ih =>
    intro i hi hn
    have hlt : i < c.length := by omega
    obtain ⟨⟨o1, o2, o3, o4, o5, o6⟩, hf⟩ := hc.indexR i hlt
    have ih' := ih (i + 1) (by omega) (by omega)
    refine Ev.step (f := fun k => course_Check.j1 k c (i : Int) 0 c (c.length : Int) (i : Int) false (rd_T49 c (i : Int)).f0 (rd_T49 c (i : Int)).f1 (rd_T49 c (i : Int)).f2.f0 (rd_T49 c (i : Int)).f2.f1) (fun k => ?_) ?_
    · simp only [course_Check.l0]
      rw [if_pos (by omega), if_pos (by omega), if_pos (by omega), o4, ucheck_of _ o5 o6]
      simp only [Option.bind_some]
      rw [if_neg (by omega), if_neg (by omega), decide_eq_false (by omega)]
    refine Ev.step (f := fun k => course_Check.j2 k c (i : Int) c (c.length : Int) (i : Int) false (rd_T49 c (i : Int)).f0 (rd_T49 c (i : Int)).f1 (rd_T49 c (i : Int)).f2.f0 (rd_T49 c (i : Int)).f2.f1) (fun k => ?_) ?_
    · simp only [course_Check.j1]
      rw [if_neg (by decide), if_pos (by trivial), if_neg (by omega)]
      by_cases hi0 : 0 < i
      · have hfo := (hf hi0).1
        rw [if_pos (by omega), w64 (x := (i : Int) - 1) (by omega) (by omega), if_pos (by omega), if_pos (by omega), show (i : Int) - 1 = ((i - 1 : Nat) : Int) from by omega, decide_eq_false (by omega)]
      · rw [if_neg (by omega)]
    refine Ev.step (fun k => ?_) ih'
    simp only [course_Check.j2]
    rw [if_neg (by decide), w64_succ hlt (by omega)]
    by_cases hi0 : 0 < i
    · have hfo := hf hi0
      rw [if_pos (by omega), w64 (x := (i : Int) - 1) (by omega) (by omega), if_pos (by omega), if_pos (by omega), show (i : Int) - 1 = ((i - 1 : Nat) : Int) from by omega]
      by_cases he : (rd_T49 c (i : Int)).f0 = (rd_T49 c ((i - 1 : Nat) : Int)).f1
      · rw [if_pos he, if_neg]
        intro hh
        rw [Bool.and_eq_true, beq_iff_eq, beq_iff_eq] at hh
        exact hfo.2 ⟨he, hh.1, hh.2⟩
      · rw [if_neg he]
    · rw [if_neg (by omega)]
theorem check_of {c : List S49} (hc : Valid c) (hl : c.length ≤ 1000) : Ev (fun k => course_Check.f k c) 0 := by
  simp only [course_Check.f]
  exact Ev.ifn (by omega) (check_l0 c hc hl _ 0 (by omega) rfl)
/-- what a course has on a day -/
def atv : List S49 → Int → Int × Int
  | [], _ => (0, 0)
  | s :: l, d => if s.f0 ≤ d ∧ d < s.f1 then (s.f2.f0, s.f2.f1) else atv l d
theorem drop_span (l : List S49) (i : Nat) (h : i < l.length) : l.drop i = rd_T49 l (i : Int) :: l.drop (i + 1) := by
  rw [List.drop_eq_getElem_cons h]
  unfold rd_T49
  simp [List.getD, h]
def has (s : S49) (d : Int) : Prop := s.f0 ≤ d ∧ d < s.f1
instance (s : S49) (d : Int) : Decidable (has s d) := by unfold has; infer_instance
theorem atv_none (l : List S49) (d : Int) (h : ∀ t ∈ l, ¬ has t d) : atv l d = (0, 0) := by
  induction l with
  | nil => rfl
  | cons s l ih =>
    simp only [atv]
    rw [if_neg (show ¬ (s.f0 ≤ d ∧ d < s.f1) from h s (by simp))]
    exact ih fun t ht => h t (by simp [ht])
theorem atv_snoc (l : List S49) (s : S49) (d : Int) : atv (l ++ [s]) d = if ∃ t ∈ l, has t d then atv l d else if has s d then (s.f2.f0, s.f2.f1) else (0, 0) := by
  induction l with
  | nil => simp [atv, has]
  | cons a l ih =>
    simp only [List.cons_append, atv]
    by_cases h : a.f0 ≤ d ∧ d < a.f1
    · rw [if_pos h, if_pos ⟨a, by simp, h⟩, if_pos h]
    · rw [if_neg h, ih, if_neg h]
      by_cases h2 : ∃ t ∈ l, has t d
      · obtain ⟨t, ht, hd⟩ := h2
        rw [if_pos ⟨t, ht, hd⟩, if_pos ⟨t, by simp [ht], hd⟩]
      · have h3 : ¬ ∃ t ∈ a :: l, has t d := by
          rintro ⟨t, ht, hd⟩
          rcases List.mem_cons.1 ht with rfl | ht
          · exact h hd
          · exact h2 ⟨t, ht, hd⟩
        rw [if_neg h2, if_neg h3]
theorem Valid.ok {l : List S49} (h : Valid l) : ∀ t ∈ l, okspan t := by
  induction h with
  | nil => intro t ht; simp at ht
  | one s hs => intro t ht; rw [List.mem_singleton.1 ht]; exact hs
  | snoc l p s _ hs _ ih =>
    intro t ht
    rcases List.mem_append.1 ht with ht | ht
    · exact ih t ht
    · rw [List.mem_singleton.1 ht]; exact hs
/-- no span of a course ends behind its last one -/
theorem Valid.hi {l : List S49} (h : Valid l) : ∀ p, l.getLast? = some p → ∀ t ∈ l, t.f1 ≤ p.f1 := by
  induction h with
  | nil => intro p hp; simp at hp
  | one s hs => intro p hp t ht; simp at hp; rw [List.mem_singleton.1 ht, hp]; omega
  | snoc l q s _ hs hf ih =>
    intro p hp t ht
    rw [List.getLast?_append] at hp
    simp at hp
    subst hp
    rcases List.mem_append.1 ht with ht | ht
    · have := ih q (by simp) t ht
      have := hf.1; have := hs.2.1
      omega
    · rw [List.mem_singleton.1 ht]; omega
theorem mn_min (a b : Int) : mn a b = min a b := by unfold mn; split <;> omega
theorem mx_max (a b : Int) : mx a b = max a b := by unfold mx; split <;> omega
theorem Ev.uniq {α : Type} {g : Nat → Option α} {a b : α} (h : Ev g a) (h' : Ev g b) : a = b := by
  obtain ⟨K, h⟩ := h
  obtain ⟨K', h'⟩ := h'
  have e1 := h (max K K') (by omega)
  have e2 := h' (max K K') (by omega)
  rw [e1] at e2
  exact Option.some.inj e2
theorem Valid.mk {l : List S49} {s : S49} (h : Valid l) (hs : okspan s) (hf : ∀ q, l.getLast? = some q → follows q s) : Valid (l ++ [s]) := by
  rcases List.eq_nil_or_concat l with rfl | ⟨l', p, rfl⟩
  · exact Valid.one s hs
  · simp only [List.concat_eq_append] at h hf ⊢
    exact Valid.snoc l' p s h hs (hf p (by simp))
theorem Valid.inv {l : List S49} {p : S49} (h : Valid (l ++ [p])) : Valid l ∧ okspan p ∧ ∀ q, l.getLast? = some q → follows q p := by
  generalize e : l ++ [p] = m at h
  cases h with
  | nil => simp at e
  | one s hs =>
    obtain ⟨rfl, rfl⟩ : l = [] ∧ p = s := by
      cases l with
      | nil => exact ⟨rfl, by simpa using e⟩
      | cons a l => simp at e
    exact ⟨Valid.nil, hs, fun q hq => by simp at hq⟩
  | snoc l2 p2 s2 hv hs hf =>
    obtain ⟨e1, e2⟩ := List.append_inj' e rfl
    obtain rfl : p = s2 := by simpa using e2
    subst e1
    refine ⟨hv, hs, fun q hq => ?_⟩
    obtain rfl : p2 = q := by simpa using hq
    exact hf
def Upto (l : List S49) (m : Int) : Prop := ∀ t ∈ l, t.f1 ≤ m
theorem Upto.mono {l : List S49} {m m' : Int} (h : Upto l m) (hm : m ≤ m') : Upto l m' := fun t ht => Int.le_trans (h t ht) hm
theorem grow_of (l : List S49) (f t kd n : Int) (hv : Valid l) (hl : l.length ≤ 2000) (hc : f ≥ t ∨ kd = 0 ∨ (okspan ⟨f, t, ⟨kd, n⟩⟩ ∧ Upto l f)) :
    ∃ r, Ev (fun k => course_grow.f k l f t kd n) r ∧ Valid r ∧ r.length ≤ l.length + 1 ∧ (∀ d, atv r d = if f ≤ d ∧ d < t ∧ kd ≠ 0 then (kd, n) else atv l d) ∧ ∀ m, Upto l m → (f < t → t ≤ m) → Upto r m := by
  simp only [course_grow.f]
  rw [w64 (x := (l.length : Int) - 1) (by omega) (by omega)]
  by_cases h1 : f ≥ t
  · refine ⟨l, Ev.ifp h1 (Ev.step (f := fun _ => some l) (fun k => ?_) (Ev.now _)), hv, by omega, fun d => ?_, fun m h _ => h⟩
    · simp only [course_grow.j0]; rfl
    · rw [if_neg (by omega)]
  by_cases h2 : kd = 0
  · refine ⟨l, Ev.ifn h1 (Ev.step (f := fun _ => some l) (fun k => ?_) (Ev.now _)), hv, by omega, fun d => ?_, fun m h _ => h⟩
    · simp only [course_grow.j0]; rw [if_pos (by simp [h2])]
    · rw [if_neg (fun h => h.2.2 h2)]
  obtain ⟨hok, hup⟩ : okspan ⟨f, t, ⟨kd, n⟩⟩ ∧ Upto l f := by
    rcases hc with h | h | h
    · exact absurd h h1
    · exact absurd h h2
    · exact h
  have o2 : f < t := hok.2.1
  -- a span more
  have happ : ∀ (d : Int), atv (l ++ [(⟨f, t, (⟨kd, n⟩ : S47)⟩ : S49)]) d = if f ≤ d ∧ d < t ∧ kd ≠ 0 then (kd, n) else atv l d := by
    intro d
    rw [atv_snoc]
    by_cases h : ∃ t ∈ l, has t d
    · obtain ⟨u, hu, hd⟩ := h
      have := hup u hu; have := hd.2
      rw [if_pos ⟨u, hu, hd⟩, if_neg (by omega)]
    · rw [if_neg h, atv_none l d (fun u hu hd => h ⟨u, hu, hd⟩)]
      by_cases hd : f ≤ d ∧ d < t
      · rw [if_pos (show has (⟨f, t, (⟨kd, n⟩ : S47)⟩ : S49) d from hd), if_pos ⟨hd.1, hd.2, h2⟩]
      · rw [if_neg (show ¬ has (⟨f, t, (⟨kd, n⟩ : S47)⟩ : S49) d from hd), if_neg (fun h => hd ⟨h.1, h.2.1⟩)]
  have happu : ∀ m, Upto l m → (f < t → t ≤ m) → Upto (l ++ [(⟨f, t, (⟨kd, n⟩ : S47)⟩ : S49)]) m := by
    intro m hm ht u hu
    rcases List.mem_append.1 hu with hu | hu
    · exact hm u hu
    · rw [List.mem_singleton.1 hu]; exact ht o2
  rcases List.eq_nil_or_concat l with rfl | ⟨l', p, rfl⟩
  · refine ⟨_, Ev.ifn h1 (Ev.step (f := fun _ => some ([] ++ [(⟨f, t, (⟨kd, n⟩ : S47)⟩ : S49)])) (fun k => ?_) (Ev.now _)), Valid.one _ hok, by simp, happ, happu⟩
    simp only [course_grow.j0]
    rw [if_neg (by simp [h2]), if_neg (by decide), if_pos (by decide)]
  · simp only [List.concat_eq_append] at *
    have hinv := hv.inv
    have hrd : rd_T49 (l' ++ [p]) (((l' ++ [p]).length : Int) - 1) = p := by
      have e : ((l' ++ [p]).length : Int) - 1 = ((l'.length : Nat) : Int) := by simp
      rw [e]
      show (l' ++ [p]).getD l'.length z49 = p
      rw [getD_app, if_neg (by omega), if_pos rfl]
    have hlen : (0 : Int) ≤ ((l' ++ [p]).length : Int) - 1 := by simp
    have hlt : ((l' ++ [p]).length : Int) - 1 < ((l' ++ [p]).length : Int) := by omega
    by_cases he : p.f1 = f ∧ p.f2.f0 = kd ∧ p.f2.f1 = n
    · obtain ⟨e1, e2, e3⟩ := he
      have hpo := hinv.2.1
      have hok' : okspan (⟨p.f0, t, (⟨p.f2.f0, p.f2.f1⟩ : S47)⟩ : S49) := ⟨hpo.1, by have := hpo.2.1; show p.f0 < t; omega, hok.2.2.1, by show p.f2.f0 = 2; exact hpo.2.2.2.1, hpo.2.2.2.2.1, hpo.2.2.2.2.2⟩
      have hlow : ∀ u ∈ l', u.f1 ≤ p.f0 := by
        intro u hu
        rcases List.eq_nil_or_concat l' with rfl | ⟨l2, q, rfl⟩
        · simp at hu
        · simp only [List.concat_eq_append] at *
          have := hinv.1.hi q (by simp) u hu
          have := (hinv.2.2 q (by simp)).1
          omega
      refine ⟨l' ++ [(⟨p.f0, t, (⟨p.f2.f0, p.f2.f1⟩ : S47)⟩ : S49)], Ev.ifn h1 (Ev.step (f := fun _ => some _) (fun k => ?_) (Ev.now _)), hinv.1.mk hok' (fun q hq => hinv.2.2 q hq), by simp, fun d => ?_, fun m hm ht u hu => ?_⟩
      · simp only [course_grow.j0]
        rw [if_neg (by simp [h2]), if_pos (by omega), if_pos hlen, if_pos hlt, hrd, if_pos e1, if_pos (by simp [e2, e3])]
        congr 1
        have e : (((l' ++ [p]).length : Int) - 1).toNat = l'.length := by simp
        rw [e]; simp
      · rw [atv_snoc, atv_snoc]
        by_cases h : ∃ t ∈ l', has t d
        · obtain ⟨u, hu, hd⟩ := h
          have := hlow u hu; have := hd.2; have := hpo.2.1
          rw [if_neg (c := f ≤ d ∧ d < t ∧ kd ≠ 0) (by omega), if_pos (c := ∃ t ∈ l', has t d) ⟨u, hu, hd⟩, if_pos (c := ∃ t ∈ l', has t d) ⟨u, hu, hd⟩]
        · rw [if_neg h, if_neg h]
          have hp1 := hpo.2.1
          by_cases hd : f ≤ d ∧ d < t
          · rw [if_pos (show has (⟨p.f0, t, (⟨p.f2.f0, p.f2.f1⟩ : S47)⟩ : S49) d from ⟨by show p.f0 ≤ d; omega, hd.2⟩), if_pos ⟨hd.1, hd.2, h2⟩]
            show (p.f2.f0, p.f2.f1) = (kd, n)
            rw [e2, e3]
          · rw [if_neg (c := f ≤ d ∧ d < t ∧ kd ≠ 0) (fun h => hd ⟨h.1, h.2.1⟩)]
            by_cases hd2 : has p d
            · have := hd2.1; have := hd2.2
              rw [if_pos hd2, if_pos (show has (⟨p.f0, t, (⟨p.f2.f0, p.f2.f1⟩ : S47)⟩ : S49) d from ⟨hd2.1, by show d < t; omega⟩)]
            · rw [if_neg hd2, if_neg]
              rintro ⟨ha, hb⟩
              have ha' : p.f0 ≤ d := ha; have hb' : d < t := hb
              exact hd2 ⟨ha', by omega⟩
      · rcases List.mem_append.1 hu with hu | hu
        · exact hm u (List.mem_append.2 (.inl hu))
        · rw [List.mem_singleton.1 hu]; exact ht o2
    · have hfo : follows p ⟨f, t, ⟨kd, n⟩⟩ := ⟨hup p (by simp), fun h => he ⟨h.1.symm, h.2.1.symm, h.2.2.symm⟩⟩
      refine ⟨_, Ev.ifn h1 (Ev.step (f := fun _ => some (l' ++ [p] ++ [(⟨f, t, (⟨kd, n⟩ : S47)⟩ : S49)])) (fun k => ?_) (Ev.now _)), Valid.snoc l' p _ hv hok hfo, by simp, happ, happu⟩
      simp only [course_grow.j0]
      rw [if_neg (by simp [h2]), if_pos (by omega), if_pos hlen, if_pos hlt, hrd]
      by_cases e1 : p.f1 = f
      · rw [if_pos e1, if_neg, if_pos (by omega)]
        intro hh
        rw [Bool.and_eq_true, beq_iff_eq, beq_iff_eq] at hh
        exact he ⟨e1, hh⟩
      · rw [if_neg e1, if_pos (by omega)]
theorem take_span (c : List S49) (i : Nat) (h : i < c.length) : c.take (i + 1) = c.take i ++ [rd_T49 c (i : Int)] := by
  rw [List.take_succ_eq_append_getElem h]
  show c.take i ++ [c[i]] = c.take i ++ [c.getD i z49]
  simp [List.getD, h]
/-- where the spans before number i end -/
def edge (c : List S49) (i : Nat) : Int := if i = 0 then 0 else (rd_T49 c ((i - 1 : Nat) : Int)).f1
theorem edge_le {c : List S49} (hc : Valid c) (i : Nat) (hi : i < c.length) : edge c i ≤ (rd_T49 c (i : Int)).f0 := by
  have h := hc.indexR i hi
  unfold edge
  by_cases e : i = 0
  · rw [if_pos e]; exact h.1.1
  · rw [if_neg e]; exact (h.2 (by omega)).1
theorem edge_succ (c : List S49) (i : Nat) : edge c (i + 1) = (rd_T49 c (i : Int)).f1 := by
  unfold edge; rw [if_neg (by omega)]; rfl
theorem edge_upto {c : List S49} (hc : Valid c) (i : Nat) (hi : i ≤ c.length) : Upto (c.take i) (edge c i) := by
  induction i with
  | zero => intro t ht; simp at ht
  | succ i ih =>
    have := edge_le hc i (by omega)
    have h := (hc.indexR i (by omega)).1.2.1
    rw [take_span c i (by omega), edge_succ]
    intro t ht
    rcases List.mem_append.1 ht with ht | ht
    · have := ih (by omega) t ht; omega
    · rw [List.mem_singleton.1 ht]; omega
theorem atv_take {c : List S49} (hc : Valid c) (i : Nat) (hi : i < c.length) (d : Int) : atv (c.take (i + 1)) d = if has (rd_T49 c (i : Int)) d then ((rd_T49 c (i : Int)).f2.f0, (rd_T49 c (i : Int)).f2.f1) else atv (c.take i) d := by
  rw [take_span c i hi, atv_snoc]
  have he := edge_le hc i hi
  have hu := edge_upto hc i (by omega)
  by_cases h : ∃ t ∈ c.take i, has t d
  · obtain ⟨u, hm, hd⟩ := h
    have := hu u hm; have := hd.2
    rw [if_pos ⟨u, hm, hd⟩, if_neg (fun h => by have := h.1; omega)]
  · rw [if_neg h, atv_none _ d (fun u hu hd => h ⟨u, hu, hd⟩)]
theorem grow_same (l : List S49) (f t kd n : Int) (hl : l.length ≤ 2000) (h1 : f ≥ t) : Ev (fun k => course_grow.f k l f t kd n) l := by
  simp only [course_grow.f]
  rw [w64 (x := (l.length : Int) - 1) (by omega) (by omega)]
  refine Ev.ifp h1 (Ev.step (f := fun _ => some l) (fun k => ?_) (Ev.now _))
  simp only [course_grow.j0]; rfl
theorem put_l1 {c : List S49} (hc : Valid c) (hl : c.length ≤ 100) (F T kd n : Int) (hT : F ≤ T) (hT0 : 0 ≤ T) (hU : ∀ t ∈ c, t.f1 ≤ T) (n' : Nat) : ∀ (i : Nat) (out : List S49), i ≤ c.length → c.length - i = n' → Valid out → out.length ≤ c.length + 1 → Upto out (max (edge c i) T) →
    (∀ d, atv out d = if F ≤ d ∧ d < T then (if kd ≠ 0 then (kd, n) else (0, 0)) else if d < F then atv c d else atv (c.take i) d) →
    ∃ r, Ev (fun k => course_Put.l1 k out c (c.length : Int) (i : Int) F T kd n) (r, 0) ∧ Valid r ∧ (r.length ≤ c.length + 1 ∧ Upto r T) ∧ ∀ d, atv r d = if F ≤ d ∧ d < T then (if kd ≠ 0 then (kd, n) else (0, 0)) else atv c d := by
  induction n' with
  | zero =>
    intro i out hi hn hv hlen hup hat
    obtain rfl : i = c.length := by omega
    refine ⟨out, Ev.step (f := fun k => (course_Check.f k out).bind fun t => if t = 0 then some (out, 0) else some ([], t)) (fun k => ?_) (Ev.bind (check_of hv (by omega)) (Ev.ifp rfl (Ev.now _))), hv, ⟨by omega, hup.mono (by
      have : edge c c.length ≤ T := by
        unfold edge
        split
        · exact hT0
        · refine hU _ ?_
          have : rd_T49 c ((c.length - 1 : Nat) : Int) = c.getD (c.length - 1) z49 := rfl
          rw [this, List.getD_eq_getElem?_getD, List.getElem?_eq_getElem (by omega)]; simp
      omega)⟩, fun d => ?_⟩
    · simp only [course_Put.l1]
      rw [if_neg (by omega)]
    · rw [hat d, List.take_length]
      by_cases h1 : F ≤ d ∧ d < T
      · rw [if_pos h1, if_pos h1]
      · rw [if_neg h1, if_neg h1]
        split <;> rfl
  | succ n' ih =>
    intro i out hi hn hv hlen hup hat
    have hlt : i < c.length := by omega
    have hx := hc.indexR i hlt
    have he := edge_le hc i hlt
    obtain ⟨⟨o1, o2, o3, o4, o5, o6⟩, _⟩ := hx
    have hsp := atv_take hc i hlt
    have hs := edge_succ c i
    obtain ⟨r, hr, hrv, hrl, hra, hru⟩ := grow_of out (max (rd_T49 c (i : Int)).f0 T) (rd_T49 c (i : Int)).f1 (rd_T49 c (i : Int)).f2.f0 (rd_T49 c (i : Int)).f2.f1 hv (by omega) (by
      by_cases h : max (rd_T49 c (i : Int)).f0 T ≥ (rd_T49 c (i : Int)).f1
      · exact .inl h
      · exact .inr (.inr ⟨⟨by show 0 ≤ max (rd_T49 c (i : Int)).f0 T; omega, by show max (rd_T49 c (i : Int)).f0 T < (rd_T49 c (i : Int)).f1; omega, o3, o4, o5, o6⟩, hup.mono (by omega)⟩))
    have hm : rd_T49 c (i : Int) ∈ c := by have : rd_T49 c (i : Int) = c.getD i z49 := rfl; rw [this, List.getD_eq_getElem?_getD, List.getElem?_eq_getElem hlt]; simp
    have hrl2 : r.length ≤ out.length := by rw [Ev.uniq hr (grow_same out _ _ _ _ (by omega) (by have := hU _ hm; omega))]; omega
    obtain ⟨r', hr', h'⟩ := ih (i + 1) r (by omega) (by omega) hrv (by omega) (hru _ (hup.mono (by omega)) (fun _ => by omega)) (fun d => by
      rw [hra d, hat d, hsp d]
      by_cases h1 : F ≤ d ∧ d < T
      · rw [if_neg (by omega), if_pos h1, if_pos h1]
      · rw [if_neg (c := F ≤ d ∧ d < T) h1, if_neg (c := F ≤ d ∧ d < T) h1]
        by_cases h2 : d < F
        · rw [if_neg (by omega), if_pos h2, if_pos h2]
        · rw [if_neg h2, if_neg h2]
          by_cases h3 : has (rd_T49 c (i : Int)) d
          · have h3' : (rd_T49 c (i : Int)).f0 ≤ d ∧ d < (rd_T49 c (i : Int)).f1 := h3
            rw [if_pos (c := _ ∧ _ ∧ _) ⟨by omega, h3'.2, by omega⟩, if_pos h3]
          · have h3' : ¬ ((rd_T49 c (i : Int)).f0 ≤ d ∧ d < (rd_T49 c (i : Int)).f1) := h3
            rw [if_neg (c := _ ∧ _ ∧ _) (by omega), if_neg h3])
    refine ⟨r', Ev.step (f := fun k => (course_grow.f k out (max (rd_T49 c (i : Int)).f0 T) (rd_T49 c (i : Int)).f1 (rd_T49 c (i : Int)).f2.f0 (rd_T49 c (i : Int)).f2.f1).bind fun t => course_Put.l1 k t c (c.length : Int) ((i + 1 : Nat) : Int) F T kd n) (fun k => ?_) (Ev.bind hr hr'), h'⟩
    simp only [course_Put.l1]
    rw [if_pos (by omega), if_pos (by omega), if_pos (by omega), mx_max, w64_succ hlt (by omega)]
theorem put_l0 {c : List S49} (hc : Valid c) (hl : c.length ≤ 100) (F T kd n : Int) (hF : 0 ≤ F) (hT : F ≤ T) (hU : ∀ t ∈ c, t.f1 ≤ T) (hT2 : T ≤ 1048576) (hk : kd = 0 ∨ kd = 2 ∧ -268435456 ≤ n ∧ n ≤ 268435456) (n' : Nat) : ∀ (i : Nat) (out : List S49), i ≤ c.length → c.length - i = n' → Valid out → out.length ≤ i → Upto out (edge c i) → Upto out F →
    (∀ d, atv out d = if d < F then atv (c.take i) d else (0, 0)) →
    ∃ r, Ev (fun k => course_Put.l0 k c out c (c.length : Int) (i : Int) F T kd n) (r, 0) ∧ Valid r ∧ (r.length ≤ c.length + 1 ∧ Upto r T) ∧ ∀ d, atv r d = if F ≤ d ∧ d < T then (if kd ≠ 0 then (kd, n) else (0, 0)) else atv c d := by
  induction n' with
  | zero =>
    intro i out hi hn hv hlen hup hupF hat
    obtain rfl : i = c.length := by omega
    obtain ⟨r, hr, hrv, hrl, hra, hru⟩ := grow_of out F T kd n hv (by omega) (by
      by_cases h : F ≥ T
      · exact .inl h
      · rcases hk with h0 | ⟨h0, h1, h2⟩
        · exact .inr (.inl h0)
        · exact .inr (.inr ⟨⟨hF, by show F < T; omega, hT2, h0, h1, h2⟩, hupF⟩))
    obtain ⟨r', hr', h'⟩ := put_l1 hc hl F T kd n hT (by omega) hU _ 0 r (by omega) rfl hrv (by omega) (by
        refine hru _ (hupF.mono (by omega)) (fun _ => by omega)) (fun d => by
      rw [hra d, hat d, List.take_length, List.take_zero]
      simp only [atv]
      by_cases h1 : F ≤ d ∧ d < T
      · rw [if_pos h1]
        by_cases h2 : kd ≠ 0
        · rw [if_pos ⟨h1.1, h1.2, h2⟩, if_pos h2]
        · rw [if_neg (fun h => h2 h.2.2), if_neg h2, if_neg (by omega)]
      · rw [if_neg h1, if_neg (c := F ≤ d ∧ d < T ∧ kd ≠ 0) (fun h => h1 ⟨h.1, h.2.1⟩)])
    refine ⟨r', Ev.step (f := fun k => (course_grow.f k out F T kd n).bind fun t => course_Put.l1 k t c (c.length : Int) ((0 : Nat) : Int) F T kd n) (fun k => ?_) (Ev.bind hr hr'), h'⟩
    simp only [course_Put.l0]
    rw [if_neg (by omega)]
    rfl
  | succ n' ih =>
    intro i out hi hn hv hlen hup hupF hat
    have hlt : i < c.length := by omega
    have hx := hc.indexR i hlt
    have he := edge_le hc i hlt
    obtain ⟨⟨o1, o2, o3, o4, o5, o6⟩, _⟩ := hx
    have hsp := atv_take hc i hlt
    have hs := edge_succ c i
    obtain ⟨r, hr, hrv, hrl, hra, hru⟩ := grow_of out (rd_T49 c (i : Int)).f0 (min (rd_T49 c (i : Int)).f1 F) (rd_T49 c (i : Int)).f2.f0 (rd_T49 c (i : Int)).f2.f1 hv (by omega) (by
      by_cases h : (rd_T49 c (i : Int)).f0 ≥ min (rd_T49 c (i : Int)).f1 F
      · exact .inl h
      · exact .inr (.inr ⟨⟨o1, by show (rd_T49 c (i : Int)).f0 < min (rd_T49 c (i : Int)).f1 F; omega, by show min (rd_T49 c (i : Int)).f1 F ≤ 1048576; omega, o4, o5, o6⟩, hup.mono he⟩))
    obtain ⟨r', hr', h'⟩ := ih (i + 1) r (by omega) (by omega) hrv (by omega) (hru _ (hup.mono (by omega)) (fun _ => by omega)) (hru _ hupF (fun _ => by omega)) (fun d => by
      rw [hra d, hat d, hsp d]
      by_cases h2 : d < F
      · rw [if_pos h2, if_pos h2]
        by_cases h3 : has (rd_T49 c (i : Int)) d
        · have h3' : (rd_T49 c (i : Int)).f0 ≤ d ∧ d < (rd_T49 c (i : Int)).f1 := h3
          rw [if_pos (c := _ ∧ _ ∧ _) ⟨h3'.1, by omega, by omega⟩, if_pos h3]
        · have h3' : ¬ ((rd_T49 c (i : Int)).f0 ≤ d ∧ d < (rd_T49 c (i : Int)).f1) := h3
          rw [if_neg (c := _ ∧ _ ∧ _) (by omega), if_neg h3]
      · rw [if_neg h2, if_neg h2, if_neg (by omega)])
    refine ⟨r', Ev.step (f := fun k => (course_grow.f k out (rd_T49 c (i : Int)).f0 (min (rd_T49 c (i : Int)).f1 F) (rd_T49 c (i : Int)).f2.f0 (rd_T49 c (i : Int)).f2.f1).bind fun t => course_Put.l0 k c t c (c.length : Int) ((i + 1 : Nat) : Int) F T kd n) (fun k => ?_) (Ev.bind hr hr'), h'⟩
    simp only [course_Put.l0]
    rw [if_pos (by omega), if_pos (by omega), if_pos (by omega), mn_min, w64_succ hlt (by omega)]
theorem put_of {c : List S49} (hc : Valid c) (hl : c.length ≤ 100) (F T kd n : Int) (hF : 0 ≤ F) (hT : F ≤ T) (hU : ∀ t ∈ c, t.f1 ≤ T) (hT2 : T ≤ 1048576) (hk : kd = 0 ∧ n = 0 ∨ kd = 2 ∧ -268435456 ≤ n ∧ n ≤ 268435456) :
    ∃ r, Ev (fun k => course_Put.f k c F T kd n) (r, 0) ∧ Valid r ∧ (r.length ≤ c.length + 1 ∧ Upto r T) ∧ ∀ d, atv r d = if F ≤ d ∧ d < T then (kd, n) else atv c d := by
  obtain ⟨r, hr, hv, hlen, hat⟩ := put_l0 hc hl F T kd n hF hT hU hT2 (hk.imp (fun h => h.1) id) _ 0 [] (by omega) rfl Valid.nil (by simp) (fun t ht => by simp at ht) (fun t ht => by simp at ht) (fun d => by rw [List.take_zero]; simp [atv])
  have hu : unit_Check.f kd n = some 0 := by
    rcases hk with ⟨rfl, rfl⟩ | ⟨rfl, h1, h2⟩
    · decide
    · exact ucheck_of n h1 h2
  refine ⟨r, ?_, hv, hlen, fun d => ?_⟩
  · simp only [course_Put.f]
    refine Ev.bind (check_of hc (by omega)) (Ev.ifp rfl (Ev.ifn (by omega) (Ev.ifn (by omega) ?_)))
    refine Ev.step (f := fun k => course_Put.l0 k c [] c (c.length : Int) ((0 : Nat) : Int) F T kd n) (fun k => ?_) hr
    simp only [course_Put.j0]
    rw [if_neg (by simp; omega), hu]
    simp
  · rw [hat d]
    by_cases h1 : F ≤ d ∧ d < T
    · rw [if_pos h1, if_pos h1]
      by_cases h2 : kd ≠ 0
      · rw [if_pos h2]
      · rw [if_neg h2]
        rcases hk with ⟨rfl, rfl⟩ | ⟨rfl, _, _⟩
        · rfl
        · exact absurd (by decide : (2 : Int) ≠ 0) h2
    · rw [if_neg h1, if_neg h1]
def term (a b : Int) (s : S49) : Int := if min b s.f1 - max a s.f0 > 0 then (min b s.f1 - max a s.f0) * s.f2.f1 else 0
def sumv (c : List S49) (a b : Int) : Int := (c.map (term a b)).foldr (· + ·) 0
theorem sumv_cons (s : S49) (c : List S49) (a b : Int) : sumv (s :: c) a b = term a b s + sumv c a b := rfl
theorem sumv_snoc (c : List S49) (s : S49) (a b : Int) : sumv (c ++ [s]) a b = sumv c a b + term a b s := by
  induction c with
  | nil => simp [sumv]
  | cons t c ih => rw [List.cons_append, sumv_cons, sumv_cons, ih]; omega
theorem mul_bound {x y A B : Int} (hx0 : 0 ≤ x) (hx : x ≤ A) (hy0 : -B ≤ y) (hy : y ≤ B) (hB : 0 ≤ B) : -(A * B) ≤ x * y ∧ x * y ≤ A * B := by
  have h1 : x * y ≤ x * B := Int.mul_le_mul_of_nonneg_left hy hx0
  have h2 : x * B ≤ A * B := Int.mul_le_mul_of_nonneg_right hx hB
  have h3 : x * (-B) ≤ x * y := Int.mul_le_mul_of_nonneg_left hy0 hx0
  rw [Int.mul_neg] at h3
  omega
theorem term_bound {a b : Int} {s : S49} (hs : okspan s) (ha : 0 ≤ a) (hb : b ≤ 1048576) : -281474976710656 ≤ term a b s ∧ term a b s ≤ 281474976710656 := by
  obtain ⟨o1, o2, o3, o4, o5, o6⟩ := hs
  unfold term
  split
  · have := mul_bound (x := min b s.f1 - max a s.f0) (y := s.f2.f1) (A := 1048576) (B := 268435456) (by omega) (by omega) o5 o6 (by omega)
    omega
  · omega
theorem sum_l0 (c : List S49) (hc : ∀ t ∈ c, okspan t) (a b : Int) (hab : a ≤ b) (ha : 0 ≤ a) (hb : b ≤ 1048576) (hb0 : 0 ≤ b) (hl : c.length ≤ 1000) (n : Nat) : ∀ (i : Nat) (x : Int), i ≤ c.length → c.length - i = n → -(281474976710656 * i) ≤ x → x ≤ 281474976710656 * i →
    Ev (fun k => course_Sum.l0 k 2 a b x c (c.length : Int) (i : Int)) (x + sumv (c.drop i) a b, 0) := by
  induction n with
  | zero =>
    intro i x hi hn h1 h2
    obtain rfl : i = c.length := by omega
    rw [List.drop_length]
    refine Ev.step (f := fun _ => some (x, 0)) (fun k => ?_) (Ev.to (by simp [sumv]))
    simp only [course_Sum.l0]
    rw [if_neg (by omega)]
  | succ n ih =>
    intro i x hi hn h1 h2
    have hlt : i < c.length := by omega
    have hs : okspan (rd_T49 c (i : Int)) := hc _ (by have : rd_T49 c (i : Int) = c.getD i z49 := rfl; rw [this, List.getD_eq_getElem?_getD, List.getElem?_eq_getElem hlt]; simp)
    have ht := term_bound hs ha hb
    rw [drop_span c i hlt, sumv_cons]
    have ih' := ih (i + 1) (x + term a b (rd_T49 c (i : Int))) (by omega) (by omega) (by omega) (by omega)
    obtain ⟨o1, o2, o3, o4, o5, o6⟩ := hs
    by_cases hd : min b (rd_T49 c (i : Int)).f1 - max a (rd_T49 c (i : Int)).f0 > 0
    · have hm := mul_bound (x := min b (rd_T49 c (i : Int)).f1 - max a (rd_T49 c (i : Int)).f0) (y := (rd_T49 c (i : Int)).f2.f1) (A := 1048576) (B := 268435456) (by omega) (by omega) o5 o6 (by omega)
      have e : term a b (rd_T49 c (i : Int)) = (min b (rd_T49 c (i : Int)).f1 - max a (rd_T49 c (i : Int)).f0) * (rd_T49 c (i : Int)).f2.f1 := if_pos hd
      rw [e] at ih' ⊢
      rw [← Int.add_assoc]
      refine Ev.step (fun k => ?_) ih'
      simp only [course_Sum.l0]
      rw [if_pos (by omega), if_pos (by omega), if_pos (by omega), mn_min, mx_max, w64 (x := min b (rd_T49 c (i : Int)).f1 - max a (rd_T49 c (i : Int)).f0) (by omega) (by omega), if_pos hd, if_pos o4, w64 (x := (min b (rd_T49 c (i : Int)).f1 - max a (rd_T49 c (i : Int)).f0) * (rd_T49 c (i : Int)).f2.f1) (by omega) (by omega), w64_succ hlt (by omega)]
      rw [w64 (by omega) (by omega)]
    · have e : term a b (rd_T49 c (i : Int)) = 0 := if_neg hd
      rw [e, Int.add_zero] at ih'
      rw [e, Int.zero_add]
      refine Ev.step (fun k => ?_) ih'
      simp only [course_Sum.l0]
      rw [if_pos (by omega), if_pos (by omega), if_pos (by omega), mn_min, mx_max, w64 (x := min b (rd_T49 c (i : Int)).f1 - max a (rd_T49 c (i : Int)).f0) (by omega) (by omega), if_neg hd, w64_succ hlt (by omega)]
theorem sum_of {c : List S49} (hc : Valid c) (hl : c.length ≤ 1000) {a b : Int} (ha : 0 ≤ a) (hab : a ≤ b) (hb : b ≤ 1048576) : Ev (fun k => course_Sum.f k c 2 a b) (sumv c a b, 0) := by
  have h := sum_l0 c hc.ok a b hab ha hb (by omega) hl _ 0 0 (by omega) rfl (by omega) (by omega)
  rw [List.drop_zero, Int.zero_add] at h
  simp only [course_Sum.f]
  refine Ev.bind (check_of hc hl) (Ev.ifp rfl (Ev.ifn (by omega) (Ev.ifn (by omega) ?_)))
  refine Ev.step (f := fun k => course_Sum.j1 k c 2 a b false) (fun k => ?_) ?_
  · simp only [course_Sum.j0]
    rw [if_neg (by simp; omega), if_neg (by decide), if_neg (by decide), if_neg (by decide)]
    rfl
  refine Ev.step (fun k => ?_) h
  simp only [course_Sum.j1]
  rw [if_neg (by decide)]; rfl
theorem sumv_add (c : List S49) (x y z : Int) (h1 : x ≤ y) (h2 : y ≤ z) : sumv c x y + sumv c y z = sumv c x z := by
  induction c with
  | nil => rfl
  | cons s c ih =>
    rw [sumv_cons, sumv_cons, sumv_cons]
    have : term x y s + term y z s = term x z s := by
      unfold term
      by_cases a1 : min y s.f1 - max x s.f0 > 0
      · by_cases a2 : min z s.f1 - max y s.f0 > 0
        · rw [if_pos a1, if_pos a2, if_pos (by omega), ← Int.add_mul]; congr 1; omega
        · rw [if_pos a1, if_neg a2, if_pos (by omega), Int.add_zero]; congr 1; omega
      · by_cases a2 : min z s.f1 - max y s.f0 > 0
        · rw [if_neg a1, if_pos a2, if_pos (by omega), Int.zero_add]; congr 1; omega
        · rw [if_neg a1, if_neg a2]
          by_cases a3 : min z s.f1 - max x s.f0 > 0
          · exfalso; omega
          · rw [if_neg a3]; rfl
    omega
theorem term_in (s : S49) (d : Int) : term d (d + 1) s = if has s d then s.f2.f1 else 0 := by
  unfold term
  by_cases h : has s d
  · have h' := h; unfold has at h'
    rw [if_pos h, if_pos (by omega), show min (d + 1) s.f1 - max d s.f0 = 1 from by omega, Int.one_mul]
  · have h' := h; unfold has at h'
    rw [if_neg h, if_neg (by omega)]
theorem sumv_zero (l : List S49) (d : Int) (h : ∀ t ∈ l, ¬ has t d) : sumv l d (d + 1) = 0 := by
  induction l with
  | nil => rfl
  | cons s l ih => rw [sumv_cons, term_in, if_neg (h s (by simp)), ih fun t ht => h t (by simp [ht])]; rfl
theorem sumv_at {c : List S49} (hc : Valid c) (d : Int) : sumv c d (d + 1) = (atv c d).2 := by
  induction hc with
  | nil => rfl
  | one s hs =>
    rw [sumv_cons, term_in]
    simp only [atv]
    by_cases h : has s d
    · rw [if_pos h, if_pos (show s.f0 ≤ d ∧ d < s.f1 from h)]; simp [sumv]
    · rw [if_neg h, if_neg (show ¬ (s.f0 ≤ d ∧ d < s.f1) from h)]; simp [sumv]
  | snoc l p s hv hs hf ih =>
    rw [sumv_snoc, term_in, atv_snoc]
    by_cases h : has s d
    · have hn : ¬ ∃ t ∈ l ++ [p], has t d := by
        rintro ⟨t, ht, h1, h2⟩
        have := hv.hi p (by simp) t ht
        have := hf.1; have := h.1
        omega
      have hz := sumv_zero (l ++ [p]) d (fun t ht hh => hn ⟨t, ht, hh⟩)
      rw [if_pos h, if_neg hn, if_pos h, hz]; simp
    · rw [if_neg h, if_neg h, ih, Int.add_zero]
      by_cases he : ∃ t ∈ l ++ [p], has t d
      · rw [if_pos he]
      · rw [if_neg he, atv_none _ _ (fun t ht hh => he ⟨t, ht, hh⟩)]
/-- a course that has one value in a time: its sum there -/
theorem sumv_const {c : List S49} (hc : Valid c) (v : Int) (n : Nat) : ∀ (a : Int), (∀ d, a ≤ d → d < a + n → (atv c d).2 = v) → sumv c a (a + n) = v * n := by
  induction n with
  | zero =>
    intro a _
    have h := sumv_add c a a a (by omega) (by omega)
    simp only [Int.natCast_zero, Int.add_zero, Int.mul_zero]
    omega
  | succ n ih =>
    intro a h
    have h1 := sumv_add c a (a + 1) (a + ((n + 1 : Nat) : Int)) (by omega) (by omega)
    have h2 := sumv_at hc a
    have h3 := ih (a + 1) (fun d h4 h5 => h d (by omega) (by omega))
    rw [show a + 1 + (n : Int) = a + ((n + 1 : Nat) : Int) by omega] at h3
    rw [h a (by omega) (by omega)] at h2
    rw [← h1, h2, h3]
    rw [Int.natCast_add, Int.mul_add]
    simp
    omega
theorem rd_app (p : List Int) (x : Int) (l : List Int) : rd (p ++ x :: l) (p.length : Int) = x := by
  unfold rd
  simp
theorem set_app (p : List Int) (x v : Int) (l : List Int) : (p ++ x :: l).set ((p.length : Int)).toNat v = p ++ v :: l := by simp
theorem app1 (p : List Int) (x : Int) (l : List Int) : p ++ x :: l = (p ++ [x]) ++ l := by simp
/-- each weight is valid -/
def GoodW (ws : List Int) : Prop := ∀ w ∈ ws, 0 ≤ w ∧ w ≤ 1048576
theorem sum_range : ∀ ws : List Int, GoodW ws → 0 ≤ ws.sum ∧ ws.sum ≤ 1048576 * ws.length
  | [], _ => by simp
  | w :: l, h => by
    have h1 := h w (by simp)
    have h2 := sum_range l (fun x hx => h x (by simp [hx]))
    simp only [List.sum_cons, List.length_cons]
    omega
theorem split_l0 (n : Int) (hn : 0 ≤ n) (ws : List Int) (hw : GoodW ws) (hlen : ws.length ≤ 1000) (hS : ws.sum ≠ 0) (r : List Int × Int) (hr : Ev (fun k => cash_Split.j2 k 1 n ws ws.sum) r) : ∀ (l p : List Int), p ++ l = ws → Ev (fun k => cash_Split.l0 k ws (ws.length : Int) (p.length : Int) n ws p.sum) r
  | [], p, h => by
    have h' : p = ws := by simpa using h
    subst h'
    refine Ev.step (fun k => ?_) hr
    simp only [cash_Split.l0]
    rw [if_neg (by omega), if_neg hS, if_neg (by omega)]
  | x :: l, p, h => by
    have hx := hw x (by rw [← h]; simp)
    have hl : ws.length = p.length + (l.length + 1) := by rw [← h]; simp
    have hp := sum_range p (fun z hz => hw z (by rw [← h]; simp [hz]))
    have hrd : rd ws (p.length : Int) = x := by rw [← h]; exact rd_app p x l
    have := split_l0 n hn ws hw hlen hS r hr l (p ++ [x]) (by rw [← app1]; exact h)
    refine Ev.step (fun k => ?_) this
    simp only [cash_Split.l0]
    rw [if_pos (by omega), if_pos (by omega), if_pos (by omega), hrd, if_neg (by omega), if_neg (by omega), w64 (x := (p.length : Int) + 1) (by omega) (by omega), w64 (x := p.sum + x) (by omega) (by omega)]
    simp
def qs (n S : Int) (ws : List Int) : List Int := ws.map fun w => n * w / S
def idx : Nat → List Int
  | 0 => []
  | n + 1 => idx n ++ [(n : Int)]
theorem idx_len : ∀ n, (idx n).length = n
  | 0 => rfl
  | n + 1 => by simp [idx, idx_len n]
theorem idx_mem : ∀ n (z : Int), z ∈ idx n → 0 ≤ z ∧ z < n
  | 0, z, h => by simp [idx] at h
  | n + 1, z, h => by
    simp only [idx, List.mem_append, List.mem_singleton] at h
    rcases h with h | h
    · have := idx_mem n z h; omega
    · omega
theorem zeros_succ (n : Nat) : List.replicate (n + 1) (0 : Int) = 0 :: List.replicate n 0 := rfl
theorem q_range {n S w : Int} (hn : 0 ≤ n) (hS : 0 < S) (w0 : 0 ≤ w) (w1 : w ≤ S) : 0 ≤ n * w / S ∧ n * w / S ≤ n := by
  have h0 : 0 ≤ n * w := Int.mul_nonneg hn w0
  constructor
  · exact Int.ediv_nonneg h0 (by omega)
  · refine Int.ediv_le_of_le_mul hS ?_
    exact Int.mul_le_mul_of_nonneg_left w1 hn
theorem qs_sum {n S : Int} (hn : 0 ≤ n) (hS : 0 < S) : ∀ ws : List Int, GoodW ws → S * (qs n S ws).sum ≤ n * ws.sum ∧ n * ws.sum ≤ S * (qs n S ws).sum + ws.length * (S - 1)
  | [], _ => by simp [qs]
  | w :: l, h => by
    have ih := qs_sum hn hS l (fun x hx => h x (by simp [hx]))
    have e := Int.mul_ediv_add_emod (n * w) S
    have e1 := Int.emod_nonneg (n * w) (show S ≠ 0 by omega)
    have e2 := Int.emod_lt_of_pos (n * w) hS
    have hq : (qs n S (w :: l)).sum = n * w / S + (qs n S l).sum := by simp [qs]
    have hl : (((w :: l).length : Nat) : Int) * (S - 1) = l.length * (S - 1) + (S - 1) := by
      rw [List.length_cons, Int.natCast_add, Int.add_mul]; simp
    rw [hq, hl, List.sum_cons, Int.mul_add, Int.mul_add]
    omega
/-- one more for a place -/
def bump (c : List Int) (i : Int) : List Int := c.set i.toNat (rd c i + 1)
theorem set_rd (c : List Int) (i : Int) (h0 : 0 ≤ i) (h1 : i < c.length) : c.set i.toNat (rd c i) = c := by
  unfold rd
  have hlt : i.toNat < c.length := by omega
  rw [List.getD_eq_getElem?_getD, List.getElem?_eq_getElem hlt]
  simp
theorem split_l3 (c : List Int) (hc : ∀ x ∈ c, -9223372036854775808 ≤ x ∧ x ≤ 9223372036854775807) (hl : c.length ≤ 1000000) (n : Nat) : ∀ i : Int, 0 ≤ i → i + n = c.length → Ev (fun k => cash_Split.l3 k 1 c (c.length : Int) i) (c, 0) := by
  induction n with
  | zero =>
    intro i h0 h1
    refine Ev.step (f := fun _ => some (c, 0)) (fun k => ?_) (Ev.now _)
    simp only [cash_Split.l3]
    rw [if_neg (by omega)]
  | succ n ih =>
    intro i h0 h1
    have hm : rd c i ∈ c := by
      unfold rd
      have hlt : i.toNat < c.length := by omega
      rw [List.getD_eq_getElem?_getD, List.getElem?_eq_getElem hlt]
      simp
    have hb := hc _ hm
    have := ih (i + 1) (by omega) (by omega)
    refine Ev.step (fun k => ?_) this
    simp only [cash_Split.l3]
    rw [if_pos (by omega), if_pos h0, if_pos (by omega), Int.mul_one, w64 hb.1 hb.2, set_rd c i h0 (by omega), w64 (x := i + 1) (by omega) (by omega)]
theorem rd_mem (c : List Int) (i : Int) (h0 : 0 ≤ i) (h1 : i < c.length) : rd c i ∈ c := by
  unfold rd
  have hlt : i.toNat < c.length := by omega
  rw [List.getD_eq_getElem?_getD, List.getElem?_eq_getElem hlt]
  simp
theorem bump_mem {c : List Int} {i B : Int} (h0 : 0 ≤ i) (h1 : i < c.length) (hc : ∀ x ∈ c, 0 ≤ x ∧ x ≤ B) : ∀ x ∈ bump c i, 0 ≤ x ∧ x ≤ B + 1 := by
  intro x hx
  unfold bump at hx
  rcases List.mem_or_eq_of_mem_set hx with h | h
  · have := hc x h; omega
  · have := hc _ (rd_mem c i h0 h1); omega
theorem split_l2 (o y : List Int) (hy : y.length ≤ 1000) (B : Int) (hB : B ≤ 4000000000000) (L : Nat) (hL : L ≤ 1000) : ∀ (l p c : List Int), p ++ l = y → (∀ z ∈ l, 0 ≤ z ∧ z < L) → c.length = L → (∀ x ∈ c, 0 ≤ x ∧ x ≤ B + p.length) → Ev (fun k => cash_Split.l2 k 1 c o y (y.length : Int) (p.length : Int)) (l.foldl bump c, 0)
  | [], p, c, h, _, hc, hb => by
    have h' : p = y := by simpa using h
    subst h'
    have h3 := split_l3 c (fun x hx => by have := hb x hx; omega) (by omega) c.length 0 (by omega) (by omega)
    refine Ev.step (fun k => ?_) h3
    simp only [cash_Split.l2]
    rw [if_neg (by omega)]
  | z :: l, p, c, h, hz, hc, hb => by
    have hl : y.length = p.length + (l.length + 1) := by rw [← h]; simp
    have hrd : rd y (p.length : Int) = z := by rw [← h]; exact rd_app p z l
    have hz0 := hz z (by simp)
    have hm := hb _ (rd_mem c z hz0.1 (by omega))
    have := split_l2 o y hy B hB L hL l (p ++ [z]) (bump c z) (by rw [← app1]; exact h) (fun w hw => hz w (by simp [hw])) (by simp [bump, hc]) (fun x hx => by
      have := bump_mem hz0.1 (by omega) hb x hx
      simp only [List.length_append, List.length_cons, List.length_nil]
      omega)
    refine Ev.step (fun k => ?_) this
    simp only [cash_Split.l2]
    rw [if_pos (by omega), if_pos (by omega), if_pos (by omega), hrd, if_pos hz0.1, if_pos (by omega), w64 (x := rd c z + 1) (by omega) (by omega), w64 (x := (p.length : Int) + 1) (by omega) (by omega)]
    simp [bump]
theorem bump_sum (c : List Int) (i : Int) (h0 : 0 ≤ i) (h1 : i < c.length) : (bump c i).sum = c.sum + 1 := by
  obtain ⟨k, rfl⟩ : ∃ k : Nat, i = k := ⟨i.toNat, by omega⟩
  have hk : k < c.length := by omega
  obtain ⟨p, x, l, rfl, hp⟩ : ∃ p x l, c = p ++ x :: l ∧ p.length = k := ⟨c.take k, c[k], c.drop (k + 1), by rw [← List.drop_eq_getElem_cons hk]; exact (List.take_append_drop k c).symm, by simp; omega⟩
  subst hp
  unfold bump
  rw [rd_app, set_app]
  simp
  omega
theorem bumps_sum (L : Nat) : ∀ (l c : List Int), (∀ z ∈ l, 0 ≤ z ∧ z < L) → c.length = L → (l.foldl bump c).sum = c.sum + l.length ∧ (l.foldl bump c).length = L
  | [], c, _, h => by simp [h]
  | z :: l, c, hz, h => by
    have h0 := hz z (by simp)
    have := bumps_sum L l (bump c z) (fun w hw => hz w (by simp [hw])) (by simp [bump, h])
    rw [List.foldl_cons, List.length_cons]
    have h2 := bump_sum c z h0.1 (by omega)
    omega
/-- the order in which what is left is given -/
def ordr (n : Int) (ws : List Int) : List Int := slices_SortStableFunc_int_int.srt n ws ws.sum (idx ws.length)
theorem nm_mem (m : Nat) (hm : 1 ≤ m) (z : Int) : 0 ≤ slices_SortStableFunc_int_int.nm m z ∧ slices_SortStableFunc_int_int.nm m z < m := by
  unfold slices_SortStableFunc_int_int.nm
  split <;> omega
theorem ordr_mem (n : Int) (ws : List Int) (h : 1 ≤ ws.length) (z : Int) (hz : z ∈ ordr n ws) : 0 ≤ z ∧ z < ws.length := by
  unfold ordr slices_SortStableFunc_int_int.srt at hz
  obtain ⟨x, _, rfl⟩ := List.mem_map.1 hz
  exact nm_mem _ h x
def left (n : Int) (ws : List Int) : Int := n - (qs n ws.sum ws).sum
theorem left_range (n : Int) (hn : 0 ≤ n) (ws : List Int) (hw : GoodW ws) (hS : 0 < ws.sum) : 0 ≤ left n ws ∧ left n ws ≤ ws.length := by
  have h := qs_sum hn hS ws hw
  have e : ws.sum * left n ws = n * ws.sum - ws.sum * (qs n ws.sum ws).sum := by unfold left; rw [Int.mul_sub, Int.mul_comm ws.sum n]
  constructor
  · refine Int.not_lt.1 fun hl => ?_
    have : ws.sum * left n ws < 0 := Int.mul_neg_of_pos_of_neg hS hl
    omega
  · refine Int.not_lt.1 fun hl => ?_
    have h1 : ws.sum * ((ws.length : Int) + 1) ≤ ws.sum * left n ws := Int.mul_le_mul_of_nonneg_left (by omega) (by omega)
    rw [Int.mul_add, Int.mul_one, Int.mul_comm] at h1
    rw [Int.mul_sub, Int.mul_one] at h
    omega
theorem split_l1 (n : Int) (hn : 0 ≤ n) (hn2 : n ≤ 1099511627776) (ws : List Int) (hw : GoodW ws) (hlen : 1 ≤ ws.length) (hlen2 : ws.length ≤ 19) (hS : 0 < ws.sum) (hso : (ordr n ws).length = ws.length) : ∀ (l p : List Int), p ++ l = ws →
    Ev (fun k => cash_Split.l1 k 1 (qs n ws.sum p ++ List.replicate l.length 0) (idx p.length ++ List.replicate l.length 0) (n - (qs n ws.sum p).sum) ws (ws.length : Int) (p.length : Int) n ws ws.sum) (((ordr n ws).take (left n ws).toNat).foldl bump (qs n ws.sum ws), 0)
  | [], p, h => by
    have h' : p = ws := by simpa using h
    subst h'
    have hl := left_range n hn p hw hS
    have hq : ∀ x ∈ qs n p.sum p, 0 ≤ x ∧ x ≤ 1099511627776 := by
      intro x hx
      obtain ⟨w, hw2, rfl⟩ := List.mem_map.1 hx
      have := q_range hn hS (hw w hw2).1 (by
        have : ∀ (l : List Int), GoodW l → w ∈ l → w ≤ l.sum := by
          intro l
          induction l with
          | nil => intro _ h; simp at h
          | cons a l ih =>
            intro hg hm
            have h1 := hg a (by simp)
            have h2 := sum_range l (fun x hx => hg x (by simp [hx]))
            rcases List.mem_cons.1 hm with rfl | hm
            · simp only [List.sum_cons]; omega
            · have := ih (fun x hx => hg x (by simp [hx])) hm
              simp only [List.sum_cons]; omega
        exact this p hw hw2)
      omega
    have h2 := split_l2 (ordr n p) ((ordr n p).take (left n p).toNat) (by simp; omega) 1099511627776 (by omega) p.length (by omega) ((ordr n p).take (left n p).toNat) [] (qs n p.sum p) rfl (fun z hz => ordr_mem n p hlen z (List.mem_of_mem_take hz)) (by simp [qs]) (fun x hx => by have := hq x hx; simp; omega)
    have hs : slices_SortStableFunc_int_int.f (idx p.length) n p p.sum = some (ordr n p) := by
      unfold slices_SortStableFunc_int_int.f
      rw [if_pos ⟨hlen, by rw [idx_len]; exact hlen2, by rw [idx_len]; exact hlen, by omega, List.all_eq_true.2 fun z hz => decide_eq_true (idx_mem _ z hz)⟩]
      rfl
    simp only [List.length_nil, List.replicate_zero, List.append_nil]
    refine Ev.step (fun k => ?_) h2
    simp only [cash_Split.l1]
    rw [if_neg (by omega), hs]
    simp only [Option.bind_some]
    rw [if_pos (show 0 ≤ n - (qs n p.sum p).sum from hl.1), idx_len, if_pos (show n - (qs n p.sum p).sum ≤ _ from hl.2)]
    rfl
  | x :: l, p, h => by
    have hl : ws.length = p.length + (l.length + 1) := by rw [← h]; simp
    have hx := hw x (by rw [← h]; simp)
    have hgp : GoodW p := fun z hz => hw z (by rw [← h]; simp [hz])
    have hps := sum_range p hgp
    have hrd : rd ws (p.length : Int) = x := by rw [← h]; exact rd_app p x l
    have hlS : (ws.length : Int) ≤ 19 := by omega
    have hqp := qs_sum hn hS p hgp
    have ih := split_l1 n hn hn2 ws hw hlen hlen2 hS hso l (p ++ [x]) (by rw [← app1]; exact h)
    have hnx : 0 ≤ n * x := Int.mul_nonneg hn hx.1
    have hnx2 : n * x ≤ 1099511627776 * 1048576 := Int.mul_le_mul hn2 hx.2 hx.1 (by omega)
    have hq0 : 0 ≤ n * x / ws.sum := Int.ediv_nonneg hnx (by omega)
    have hq1 : n * x / ws.sum ≤ n * x := Int.ediv_le_self _ hnx
    have hlq : (qs n ws.sum p).length = p.length := by simp [qs]
    have hqs : 0 ≤ (qs n ws.sum p).sum ∧ (qs n ws.sum p).sum ≤ n := by
      have hpw : p.sum ≤ ws.sum := by
        rw [← h, List.sum_append]
        have := sum_range (x :: l) (fun z hz => hw z (by rw [← h]; exact List.mem_append_right _ hz))
        omega
      constructor
      · have : ∀ q : List Int, GoodW q → 0 ≤ (qs n ws.sum q).sum := by
          intro q
          induction q with
          | nil => intro _; simp [qs]
          | cons a q ih =>
            intro hg
            have h1 : 0 ≤ n * a / ws.sum := Int.ediv_nonneg (Int.mul_nonneg hn (hg a (by simp)).1) (by omega)
            have h2 := ih (fun z hz => hg z (by simp [hz]))
            have h3 : (qs n ws.sum (a :: q)).sum = n * a / ws.sum + (qs n ws.sum q).sum := by simp [qs]
            omega
        exact this p hgp
      · refine Int.not_lt.1 fun hlt => ?_
        have h1 : ws.sum * (n + 1) ≤ ws.sum * (qs n ws.sum p).sum := Int.mul_le_mul_of_nonneg_left (by omega) (by omega)
        have h2 : n * p.sum ≤ n * ws.sum := Int.mul_le_mul_of_nonneg_left hpw hn
        rw [Int.mul_add, Int.mul_one, Int.mul_comm] at h1
        omega
    refine Ev.step (fun k => ?_) ih
    simp only [cash_Split.l1]
    rw [if_pos (by omega), if_pos (by omega), if_pos (by omega), if_neg (by omega), hrd, w64 (x := n * x) (by omega) (by omega), tdivnn hnx, w64 (x := n * x / ws.sum) (by omega) (by omega)]
    rw [if_pos (by simp [hlq]; omega)]
    simp only [Option.bind_some]
    rw [if_pos (by simp [idx_len]; omega)]
    have e1 : (qs n ws.sum p ++ List.replicate (x :: l).length 0).set ((p.length : Int)).toNat (n * x / ws.sum) = qs n ws.sum (p ++ [x]) ++ List.replicate l.length 0 := by
      have := set_app (qs n ws.sum p) 0 (n * x / ws.sum) (List.replicate l.length 0)
      rw [hlq] at this
      rw [List.length_cons, zeros_succ, this]
      simp [qs]
    have e2 : (idx p.length ++ List.replicate (x :: l).length 0).set ((p.length : Int)).toNat (p.length : Int) = idx (p ++ [x]).length ++ List.replicate l.length 0 := by
      have := set_app (idx p.length) 0 (p.length : Int) (List.replicate l.length 0)
      rw [idx_len] at this
      rw [List.length_cons, zeros_succ, this]
      simp [idx]
    have e3 : rd (qs n ws.sum (p ++ [x]) ++ List.replicate l.length 0) (p.length : Int) = n * x / ws.sum := by
      have := rd_app (qs n ws.sum p) (n * x / ws.sum) (List.replicate l.length 0)
      rw [hlq] at this
      rw [← this]
      simp [qs]
    rw [e1, e2, e3]
    have e4 : (qs n ws.sum (p ++ [x])).sum = (qs n ws.sum p).sum + n * x / ws.sum := by simp [qs]
    rw [e4, w64 (x := n - (qs n ws.sum p).sum - n * x / ws.sum) (by omega) (by omega), w64 (x := (p.length : Int) + 1) (by omega) (by omega)]
    have e5 : n - ((qs n ws.sum p).sum + n * x / ws.sum) = n - (qs n ws.sum p).sum - n * x / ws.sum := by omega
    rw [e5]
    simp
theorem inner_size (lt : Int → Int → Bool) (a : Nat) : ∀ (j : Nat) (d : Array Int), (Sort.insInner lt a j d).size = d.size
  | 0, d => rfl
  | j + 1, d => by
    rw [Sort.insInner]
    split
    · rw [inner_size lt a j, Sort.size_swp]
    · rfl
theorem outer_size (lt : Int → Int → Bool) (a b : Nat) : ∀ (n i : Nat) (d : Array Int), b - i = n → (Sort.insOuter lt a b i d).size = d.size := by
  intro n
  induction n with
  | zero => intro i d h; rw [Sort.insOuter, if_neg (by omega)]
  | succ n ih => intro i d h; rw [Sort.insOuter, if_pos (by omega), ih _ _ (by omega), inner_size]
theorem ordr_len (n : Int) (ws : List Int) : (ordr n ws).length = ws.length := by
  unfold ordr slices_SortStableFunc_int_int.srt Sort.insertionSort
  rw [List.length_map, Array.length_toList, outer_size _ _ _ _ _ _ rfl]
  simp [idx_len]
/-- the parts of an amount that is not negative -/
def parts_ (n : Int) (ws : List Int) : List Int := ((ordr n ws).take (left n ws).toNat).foldl bump (qs n ws.sum ws)
theorem split_of (n : Int) (hn : 0 ≤ n) (hn2 : n ≤ 1099511627776) (ws : List Int) (hw : GoodW ws) (hlen : 1 ≤ ws.length) (hlen2 : ws.length ≤ 19) (hS : 0 < ws.sum) : Ev (fun k => cash_Split.f k n ws) (parts_ n ws, 0) := by
  have h1 := split_l1 n hn hn2 ws hw hlen hlen2 hS (ordr_len n ws) ws [] rfl
  have h2 : Ev (fun k => cash_Split.j2 k 1 n ws ws.sum) (parts_ n ws, 0) := by
    refine Ev.step (fun k => ?_) h1
    simp only [cash_Split.j2]
    rw [if_pos (by omega), if_pos (by omega)]
    simp [qs, idx]
  have h3 := split_l0 n hn ws hw (by omega) (by omega) _ h2 ws [] rfl
  have hL : cash_large.f n = some false := by
    unfold cash_large.f
    rw [if_neg (by omega), decide_eq_false (by omega)]
  simp only [cash_Split.f, hL, Option.bind_some]
  refine Ev.ifn (by decide) (Ev.step (fun k => ?_) h3)
  simp only [cash_Split.j0]
  rw [decide_eq_false (by omega), if_neg (by decide)]
  rfl
theorem parts_sum (n : Int) (hn : 0 ≤ n) (ws : List Int) (hw : GoodW ws) (hlen : 1 ≤ ws.length) (hS : 0 < ws.sum) : (parts_ n ws).sum = n ∧ (parts_ n ws).length = ws.length := by
  have hl := left_range n hn ws hw hS
  have hb := bumps_sum ws.length ((ordr n ws).take (left n ws).toNat) (qs n ws.sum ws) (fun z hz => ordr_mem n ws hlen z (List.mem_of_mem_take hz)) (by simp [qs])
  have ht : (((ordr n ws).take (left n ws).toNat).length : Int) = left n ws := by rw [List.length_take, ordr_len]; omega
  unfold parts_
  refine ⟨?_, hb.2⟩
  rw [hb.1, ht]
  unfold left
  omega
theorem ev_mono {α : Type} {g : Nat → Option α} (hm : ∀ k, LeO (g k) (g (k + 1))) (K : Nat) {r : α} (h : g K = some r) : Ev g r := by
  refine ⟨K, fun k hk => ?_⟩
  obtain ⟨j, rfl⟩ : ∃ j, k = K + j := ⟨k - K, by omega⟩
  induction j with
  | zero => exact h
  | succ j ih => exact hm (K + j) r (ih (by omega))
theorem h6_of : Ev (fun k => moottop_h6told.f k) true := ev_mono moottop_h6told.mono 40 (by decide +kernel)
/-- the days of n months from a month on -/
def wl (M : Int) : Nat → List Int
  | 0 => []
  | n + 1 => wl M n ++ [SM (M + n)]
theorem wl_len (M : Int) : ∀ n, (wl M n).length = n
  | 0 => rfl
  | n + 1 => by simp [wl, wl_len M n]
theorem wl_good (M : Int) : ∀ n, ∀ w ∈ wl M n, 28 ≤ w ∧ w ≤ 31
  | 0, w, h => by simp [wl] at h
  | n + 1, w, h => by
    simp only [wl, List.mem_append, List.mem_singleton] at h
    rcases h with h | h
    · exact wl_good M n w h
    · subst h; exact SM_range _
theorem rd_wl (M : Int) : ∀ n j : Nat, j < n → rd (wl M n) (j : Int) = SM (M + j)
  | 0, j, h => by omega
  | n + 1, j, h => by
    simp only [wl]
    by_cases hj : j < n
    · rw [← rd_wl M n j hj]
      unfold rd
      simp [List.getD_eq_getElem?_getD, List.getElem?_append_left (show j < (wl M n).length by rw [wl_len]; exact hj)]
    · obtain rfl : j = n := by omega
      have := rd_app (wl M j) (SM (M + j)) []
      rw [wl_len] at this
      exact this
theorem mem_sum : ∀ l : List Int, (∀ x ∈ l, 0 ≤ x) → 0 ≤ l.sum ∧ ∀ x ∈ l, x ≤ l.sum
  | [], _ => ⟨by simp, fun x h => by simp at h⟩
  | a :: l, h => by
    have ih := mem_sum l (fun x hx => h x (by simp [hx]))
    have ha := h a (by simp)
    refine ⟨by simp only [List.sum_cons]; omega, fun x hx => ?_⟩
    rw [List.sum_cons]
    rcases List.mem_cons.1 hx with rfl | hx
    · omega
    · have := ih.2 x hx; omega
theorem bumps_pos (L : Nat) : ∀ (l c : List Int), (∀ z ∈ l, 0 ≤ z ∧ z < L) → c.length = L → (∀ x ∈ c, 0 ≤ x) → ∀ x ∈ l.foldl bump c, 0 ≤ x
  | [], c, _, _, hc => hc
  | z :: l, c, hz, h, hc => by
    have h0 := hz z (by simp)
    refine bumps_pos L l (bump c z) (fun w hw => hz w (by simp [hw])) (by simp [bump, h]) (fun x hx => ?_)
    unfold bump at hx
    rcases List.mem_or_eq_of_mem_set hx with h1 | h1
    · exact hc x h1
    · have := hc _ (rd_mem c z h0.1 (by omega)); omega
theorem parts_pos (n : Int) (hn : 0 ≤ n) (ws : List Int) (hw : GoodW ws) (hlen : 1 ≤ ws.length) (hS : 0 < ws.sum) : ∀ x ∈ parts_ n ws, 0 ≤ x ∧ x ≤ n := by
  have hp : ∀ x ∈ parts_ n ws, 0 ≤ x := by
    unfold parts_
    refine bumps_pos ws.length _ _ (fun z hz => ordr_mem n ws hlen z (List.mem_of_mem_take hz)) (by simp [qs]) (fun x hx => ?_)
    obtain ⟨w, hw2, rfl⟩ := List.mem_map.1 hx
    exact Int.ediv_nonneg (Int.mul_nonneg hn (hw w hw2).1) (by omega)
  have hs := (parts_sum n hn ws hw hlen hS).1
  intro x hx
  exact ⟨hp x hx, by have := (mem_sum _ hp).2 x hx; omega⟩
theorem months_l2 (n M : Int) (hM0 : 0 ≤ M) (hM1 : M + 13 < 34450) (c : List S49) (hc : Valid c) (hcl : c.length ≤ 100) (xs : List Int) (hxl : xs.length = 12) (hx : ∀ x ∈ xs, 0 ≤ x ∧ x ≤ n) (hn : n ≤ 268435456) (hs : xs.sum = n) (hat : ∀ j : Nat, j < 12 → ∀ d, FM (M + j) ≤ d → d < FM (M + j + 1) → (atv c d).2 = rd xs (j : Int)) :
    ∀ (l p : List Int), p ++ l = xs → Ev (fun k => moottop_CashMonths.l2 k n M (wl M 12) c p.sum xs (xs.length : Int) (p.length : Int)) true
  | [], p, h => by
    have h' : p = xs := by simpa using h
    subst h'
    refine Ev.step (f := fun _ => some true) (fun k => ?_) (Ev.now _)
    simp only [moottop_CashMonths.l2]
    rw [if_neg (by omega), hs]
    simp
  | x :: l, p, h => by
    have hl : xs.length = p.length + (l.length + 1) := by rw [← h]; simp
    have hrd : rd xs (p.length : Int) = x := by rw [← h]; exact rd_app p x l
    have hxx := hx x (by rw [← h]; simp)
    have ih := months_l2 n M hM0 hM1 c hc hcl xs hxl hx hn hs hat l (p ++ [x]) (by rw [← app1]; exact h)
    have hj : p.length < 12 := by omega
    have hsz := SM_range (M + p.length)
    have hfs := FM_succ (M + p.length)
    have hfm : 0 ≤ FM (M + p.length) := by
      by_cases e : M + p.length = 0
      · rw [e, FM_zero]; omega
      · have := FM_mono 0 (M + p.length) (by omega); rw [FM_zero] at this; have := SM_range 0; omega
    have hfm2 : FM (M + p.length + 1) ≤ 1048576 := by
      have h2 : FM (M + p.length + 1) ≤ FM 34450 := by
        by_cases e : M + p.length + 1 = 34450
        · rw [e]; omega
        · have := FM_mono' (M + p.length + 1) 34450 (by omega); omega
      have h3 : FM 34450 = 1048550 := by decide
      omega
    have hsum := sumv_const hc (rd xs (p.length : Int)) (SM (M + p.length)).toNat (FM (M + p.length)) (fun d h1 h2 => hat p.length hj d h1 (by omega))
    rw [show FM (M + p.length) + ((SM (M + p.length)).toNat : Int) = FM (M + p.length + 1) by omega, show ((SM (M + p.length)).toNat : Int) = SM (M + p.length) by omega, hrd] at hsum
    have hS := sum_of hc (by omega) (a := FM (M + p.length)) (b := FM (M + p.length + 1)) hfm (by omega) hfm2
    rw [hsum] at hS
    have f1 := firstday_of (M + p.length) (by omega) (by omega)
    have f2 := firstday_of (M + p.length + 1) (by omega) (by omega)
    have hpx : 0 ≤ x * SM (M + p.length) := Int.mul_nonneg hxx.1 (by omega)
    have hpx2 : x * SM (M + p.length) ≤ 268435456 * 31 := Int.mul_le_mul (by omega) hsz.2 (by omega) (by omega)
    have hps := (mem_sum p (fun z hz => (hx z (by rw [← h]; simp [hz])).1)).1
    have hps2 : p.sum + x ≤ n := by
      have e : xs.sum = p.sum + (x + l.sum) := by rw [← h]; simp
      have := (mem_sum l (fun z hz => (hx z (by rw [← h]; simp [hz])).1)).1
      omega
    refine Ev.step (f := fun k => (day_First.f k (M + p.length)).bind fun t271 => ((day_First.f k (M + p.length + 1)).bind fun t272 => ((course_Sum.f k c 2 t271 t272).bind fun bt273 => (if bt273.2 = 0 then (if ((p.length : Nat) : Int) < ((wl M 12).length : Int) then (if bt273.1 = x * SM (M + p.length) then (moottop_CashMonths.l2 k n M (wl M 12) c (p ++ [x]).sum xs (xs.length : Int) ((p ++ [x]).length : Int)) else (some false)) else (none)) else (some false))))) (fun k => ?_) ?_
    · simp only [moottop_CashMonths.l2]
      rw [if_pos (by omega), if_pos (by omega), if_pos (by omega), hrd, rd_wl M 12 p.length hj, w64 (x := M + p.length) (by omega) (by omega), w64 (x := M + p.length + 1) (by omega) (by omega), w64 (x := x * SM (M + p.length)) (by omega) (by omega), w64 (x := p.sum + x) (by omega) (by omega), w64 (x := (p.length : Int) + 1) (by omega) (by omega)]
      simp
    · exact Ev.bind f1 (Ev.bind f2 (Ev.bind hS (Ev.ifp rfl (Ev.ifp (by rw [wl_len]; omega) (Ev.ifp rfl ih)))))
theorem months_l1 (n M : Int) (hM0 : 0 ≤ M) (hM1 : M + 13 < 34450) (xs : List Int) (hxl : xs.length = 12) (hx : ∀ x ∈ xs, 0 ≤ x ∧ x ≤ n) (hn : n ≤ 268435456) (hs : xs.sum = n) :
    ∀ (l p : List Int) (c : List S49), p ++ l = xs → Valid c → c.length ≤ p.length → Upto c (FM (M + p.length)) → (∀ j : Nat, j < p.length → ∀ d, FM (M + j) ≤ d → d < FM (M + j + 1) → (atv c d).2 = rd xs (j : Int)) → Ev (fun k => moottop_CashMonths.l1 k n M (wl M 12) xs c xs (xs.length : Int) (p.length : Int)) true
  | [], p, c, h, hv, hcl, hup, hat => by
    have h' : p = xs := by simpa using h
    subst h'
    have := months_l2 n M hM0 hM1 c hv (by omega) p hxl hx hn hs (fun j hj => hat j (by omega)) p [] rfl
    refine Ev.step (fun k => ?_) this
    simp only [moottop_CashMonths.l1]
    rw [if_neg (by omega)]
    rfl
  | x :: l, p, c, h, hv, hcl, hup, hat => by
    have hl : xs.length = p.length + (l.length + 1) := by rw [← h]; simp
    have hrd : rd xs (p.length : Int) = x := by rw [← h]; exact rd_app p x l
    have hxx := hx x (by rw [← h]; simp)
    have hsz := SM_range (M + p.length)
    have hfs := FM_succ (M + p.length)
    have hfm : 0 ≤ FM (M + p.length) := by
      by_cases e : M + p.length = 0
      · rw [e, FM_zero]; omega
      · have := FM_mono 0 (M + p.length) (by omega); rw [FM_zero] at this; have := SM_range 0; omega
    have hfm2 : FM (M + p.length + 1) ≤ 1048576 := by
      have h2 : FM (M + p.length + 1) ≤ FM 34450 := by
        by_cases e : M + p.length + 1 = 34450
        · rw [e]; omega
        · have := FM_mono' (M + p.length + 1) 34450 (by omega); omega
      have h3 : FM 34450 = 1048550 := by decide
      omega
    obtain ⟨r, hr, hrv, ⟨hrl, hru⟩, hra⟩ := put_of hv (by omega) (FM (M + p.length)) (FM (M + p.length + 1)) 2 x hfm (by omega) (fun t ht => by have := hup t ht; omega) hfm2 (.inr ⟨rfl, by omega, by omega⟩)
    have f1 := firstday_of (M + p.length) (by omega) (by omega)
    have f2 := firstday_of (M + p.length + 1) (by omega) (by omega)
    have ih := months_l1 n M hM0 hM1 xs hxl hx hn hs l (p ++ [x]) r (by rw [← app1]; exact h) hrv (by simp; omega) (by
      rw [show M + ((p ++ [x]).length : Int) = M + p.length + 1 by simp; omega]; exact hru) (fun j hj d h1 h2 => by
      rw [hra d]
      have hj' : j < p.length + 1 := by simpa using hj
      by_cases e : j = p.length
      · subst e
        rw [if_pos ⟨h1, h2⟩, hrd]
      · have hlt : FM (M + j + 1) ≤ FM (M + p.length) := by
          by_cases e2 : M + j + 1 = M + p.length
          · rw [e2]; omega
          · have := FM_mono' (M + j + 1) (M + p.length) (by omega); omega
        rw [if_neg (by omega)]
        exact hat j (by omega) d h1 h2)
    refine Ev.step (f := fun k => (day_First.f k (M + p.length)).bind fun t264 => ((day_First.f k (M + p.length + 1)).bind fun t265 => ((course_Put.f k c t264 t265 2 x).bind fun bt266 => (if bt266.2 = 0 then (moottop_CashMonths.l1 k n M (wl M 12) xs bt266.1 xs (xs.length : Int) ((p ++ [x]).length : Int)) else (some false))))) (fun k => ?_) ?_
    · simp only [moottop_CashMonths.l1]
      rw [if_pos (by omega), if_pos (by omega), if_pos (by omega), hrd, w64 (x := M + p.length) (by omega) (by omega), w64 (x := M + p.length + 1) (by omega) (by omega), w64 (x := (p.length : Int) + 1) (by omega) (by omega)]
      simp
    · exact Ev.bind f1 (Ev.bind f2 (Ev.bind hr (Ev.ifp rfl ih)))
theorem months_l0 (n M : Int) (hM0 : 0 ≤ M) (hM1 : M + 13 < 34450) (hn0 : 0 ≤ n) (hn : n ≤ 268435456) (m : Nat) : ∀ i : Nat, i + m = 12 → Ev (fun k => moottop_CashMonths.l0 k n M (wl M i) (i : Int)) true := by
  induction m with
  | zero =>
    intro i hi
    obtain rfl : i = 12 := by omega
    have hg : GoodW (wl M 12) := fun w hw => by have := wl_good M 12 w hw; omega
    have hS : 0 < (wl M 12).sum := by
      have := (mem_sum (wl M 12) (fun w hw => by have := wl_good M 12 w hw; omega)).2 (SM (M + (11 : Nat))) (by simp [wl])
      have := SM_range (M + (11 : Nat))
      omega
    have h1 := split_of n hn0 (by omega) (wl M 12) hg (by rw [wl_len]; omega) (by rw [wl_len]; omega) hS
    have h2 := parts_sum n hn0 (wl M 12) hg (by rw [wl_len]; omega) hS
    have h3 := parts_pos n hn0 (wl M 12) hg (by rw [wl_len]; omega) hS
    rw [wl_len] at h2
    have h4 := months_l1 n M hM0 hM1 (parts_ n (wl M 12)) h2.2 h3 hn h2.1 (parts_ n (wl M 12)) [] [] rfl Valid.nil (by simp) (fun t ht => by simp at ht) (fun j hj => by simp at hj)
    refine Ev.step (f := fun k => (cash_Split.f k n (wl M 12)).bind fun bt258 => ((moottop_h6told.f k).bind fun t262 => (if t262 = true then (if bt258.2 = 0 then (moottop_CashMonths.j1 k n M (wl M 12) bt258.1 ((bt258.1.length : Int) != 12)) else (moottop_CashMonths.j1 k n M (wl M 12) bt258.1 true)) else (moottop_CashMonths.j1 k n M (wl M 12) bt258.1 true)))) (fun k => ?_) ?_
    · simp only [moottop_CashMonths.l0]
      rw [if_neg (by omega)]
    · refine Ev.bind h1 (Ev.bind h6_of (Ev.ifp rfl (Ev.ifp rfl (Ev.step (fun k => ?_) h4))))
      simp only [moottop_CashMonths.j1]
      rw [h2.2, if_neg (by decide)]
      simp
  | succ m ih =>
    intro i hi
    have hz := size_of (M + i) (by omega) (by omega)
    refine Ev.step (f := fun k => (day_Size.f k (M + i)).bind fun t254 => (if (wl M i).length < 17592186044416 then (moottop_CashMonths.l0 k n M (wl M i ++ [t254]) ((i + 1 : Nat) : Int)) else none)) (fun k => ?_) (Ev.bind hz (Ev.ifp (by rw [wl_len]; omega) (ih (i + 1) (by omega))))
    simp only [moottop_CashMonths.l0]
    rw [if_pos (by omega), w64 (x := M + i) (by omega) (by omega), w64 (x := (i : Int) + 1) (by omega) (by omega)]
    rfl
theorem CashMonths : moottop_CashMonths.Pure := by
  intro a0 a1
  intros
  have r0 := below_range a0 268435456 (by omega)
  have r1 := below_range a1 40000 (by omega)
  obtain ⟨d, hd⟩ : ∃ d, d = 700000 + a1 % 40000 := ⟨_, rfl⟩
  obtain ⟨y, m, k, hp⟩ := parts_exists d (by omega)
  have hr := mo_range hp (by omega) (by omega)
  have hM := month_of (by omega) (by omega) hp
  have hl := months_l0 (a0 % 268435456) (mo y m) (by omega) (by omega) (by omega) (by omega) 12 0 rfl
  refine Ev.rounds (g := fun k => moottop_CashMonths.f k a0 a1) ?_
  simp only [moottop_CashMonths.f]
  rw [below_of _ _ (by omega) (by omega), day_of]
  simp only [Option.bind_some]
  rw [← hd]
  exact Ev.bind hM hl
end Go.Proofs.Ytaljkilnpfmlaaa.Pure
