/-
A period of worked days with a pause ends when so many days outside of the pause have been worked, and a period of months ends in the right month if no day is free, whatever numbers come in.
-/
import Derived.Test.YtaljkilnpfmlaaaPDueCountedx14
set_option linter.unusedVariables false
set_option linter.unusedSimpArgs false
namespace Go.Proofs.Ytaljkilnpfmlaaa.Days
/-- the first day of a year -/
def F (y : Int) : Int := 365 * (y - 1) + (y - 1) / 4 - (y - 1) / 100 + (y - 1) / 400
def lp (y : Int) : Prop := y % 4 = 0 ∧ (y % 100 ≠ 0 ∨ y % 400 = 0)
instance (y : Int) : Decidable (lp y) := by unfold lp; infer_instance
/-- how many days of a year are ahead of a month -/
def A (y m : Int) : Int := (367 * m - 362) / 12 - (if m ≤ 2 then 0 else if lp y then 1 else 2)
def N (y m k : Int) : Int := F y + A y m + k - 1

theorem F_succ (y : Int) : F (y + 1) = F y + (if lp y then 366 else 365) := by
  unfold F
  by_cases h : lp y
  · rw [if_pos h]; unfold lp at h; omega
  · rw [if_neg h]; unfold lp at h; omega
theorem A13 (y : Int) : A y 13 = (if lp y then 366 else 365) := by
  unfold A; by_cases h : lp y <;> simp [h]
theorem A1 (y : Int) : A y 1 = 0 := by unfold A; simp
theorem months (m : Int) (h1 : 1 ≤ m) (h2 : m ≤ 12) : m = 1 ∨ m = 2 ∨ m = 3 ∨ m = 4 ∨ m = 5 ∨ m = 6 ∨ m = 7 ∨ m = 8 ∨ m = 9 ∨ m = 10 ∨ m = 11 ∨ m = 12 := by omega
/-- the size of a month -/
def L (y m : Int) : Int := A y (m + 1) - A y m
theorem L_range (y m : Int) (h1 : 1 ≤ m) (h2 : m ≤ 12) : 28 ≤ L y m ∧ L y m ≤ 31 := by
  unfold L A
  rcases months m h1 h2 with rfl | rfl | rfl | rfl | rfl | rfl | rfl | rfl | rfl | rfl | rfl | rfl <;> by_cases h : lp y <;> simp [h]
theorem A_range (y m : Int) (_ : 1 ≤ m) (_ : m ≤ 13) : 0 ≤ A y m ∧ A y m ≤ 366 ∧ 28 * (m - 1) ≤ A y m ∧ A y m ≤ 31 * (m - 1) := by
  unfold A; split <;> (try split) <;> omega
theorem A_mono (y m m' : Int) (h1 : 1 ≤ m) (h : m < m') (h2 : m' ≤ 13) : A y m + 28 ≤ A y m' := by
  unfold A; by_cases hl : lp y <;> simp only [hl, if_true, if_false] <;> (split <;> split <;> omega)
theorem F_mono (y y' : Int) (h : y < y') : F y + 365 ≤ F y' := by unfold F; omega
theorem F_range (y : Int) (h : 1 ≤ y) : 365 * (y - 1) ≤ F y ∧ F y ≤ 366 * (y - 1) := by unfold F; omega

/-- the first day of month number M, counted from 0 -/
def FM (M : Int) : Int := F (M / 12 + 1) + A (M / 12 + 1) (M % 12 + 1)
def SM (M : Int) : Int := L (M / 12 + 1) (M % 12 + 1)
theorem SM_range (M : Int) : 28 ≤ SM M ∧ SM M ≤ 31 := L_range _ _ (by omega) (by omega)
theorem FM_succ (M : Int) : FM (M + 1) = FM M + SM M := by
  unfold FM SM L
  by_cases h : M % 12 = 11
  · have e1 : (M + 1) / 12 = M / 12 + 1 := by omega
    have e2 : (M + 1) % 12 = 0 := by omega
    rw [e1, e2, h, F_succ]
    have := A13 (M / 12 + 1)
    have a1 := A1 (M / 12 + 1 + 1)
    rw [show (0 : Int) + 1 = 1 from rfl, show (11 : Int) + 1 = 12 from rfl, show (12 : Int) + 1 = 13 from rfl]
    omega
  · have e1 : (M + 1) / 12 = M / 12 := by omega
    have e2 : (M + 1) % 12 = M % 12 + 1 := by omega
    rw [e1, e2]; omega
theorem FM_mono_nat (M : Int) (n : Nat) : FM M + 28 * n ≤ FM (M + n) := by
  induction n with
  | zero => simp
  | succ n ih =>
    have := FM_succ (M + n)
    have := (SM_range (M + n)).1
    have e : M + ((n + 1 : Nat) : Int) = M + n + 1 := by omega
    rw [e]; omega
theorem FM_mono (M M' : Int) (h : M < M') : FM M + SM M ≤ FM M' := by
  obtain ⟨n, rfl⟩ : ∃ n : Nat, M' = M + 1 + n := ⟨(M' - (M + 1)).toNat, by omega⟩
  have := FM_mono_nat (M + 1) n
  have := FM_succ M
  omega
theorem FM_mono' (M M' : Int) (h : M < M') : FM M + 28 ≤ FM M' := by
  have := FM_mono M M' h; have := SM_range M; omega

/-- what a date's parts are -/
structure IsParts (d y m k : Int) : Prop where
  y1 : 1 ≤ y
  m1 : 1 ≤ m
  m2 : m ≤ 12
  k1 : 1 ≤ k
  k2 : k ≤ L y m
  eq : d = F y + A y m + k - 1
theorem IsParts.fm {d y m k : Int} (h : IsParts d y m k) : d = FM (12 * (y - 1) + m - 1) + k - 1 ∧ k ≤ SM (12 * (y - 1) + m - 1) := by
  have e1 : (12 * (y - 1) + m - 1) / 12 + 1 = y := by have := h.m1; have := h.m2; omega
  have e2 : (12 * (y - 1) + m - 1) % 12 + 1 = m := by have := h.m1; have := h.m2; omega
  unfold FM SM
  rw [e1, e2]; exact ⟨h.eq, h.k2⟩
theorem month_unique {d M k M' k' : Int} (h1 : 1 ≤ k) (h2 : k ≤ SM M) (e : d = FM M + k - 1) (h1' : 1 ≤ k') (h2' : k' ≤ SM M') (e' : d = FM M' + k' - 1) : M = M' ∧ k = k' := by
  have hM : M = M' := by
    rcases Int.lt_trichotomy M M' with h | h | h
    · have := FM_mono M M' h; omega
    · exact h
    · have := FM_mono M' M h; omega
  subst hM; exact ⟨rfl, by omega⟩
theorem IsParts.unique {d y m k y' m' k' : Int} (h : IsParts d y m k) (h' : IsParts d y' m' k') : y = y' ∧ m = m' ∧ k = k' := by
  have a := h.fm; have b := h'.fm
  have := month_unique h.k1 a.2 a.1 h'.k1 b.2 b.1
  have := h.m1; have := h.m2; have := h'.m1; have := h'.m2
  omega
theorem IsParts.of_month {d M k : Int} (hM : 0 ≤ M) (h1 : 1 ≤ k) (h2 : k ≤ SM M) (e : d = FM M + k - 1) : IsParts d (M / 12 + 1) (M % 12 + 1) k :=
  ⟨by omega, by omega, by omega, h1, h2, e⟩

theorem year_start (d : Int) (h : 0 ≤ d) : F (400 * (d / 146097) + d % 146097 / 366 + 1) ≤ d ∧ 1 ≤ 400 * (d / 146097) + d % 146097 / 366 + 1 := by
  unfold F; omega
theorem year_end (d y : Int) (h : F y ≤ d) (hd : d ≤ 1048575) : y ≤ 2871 := by
  unfold F at h; omega
theorem max_parts : IsParts 1048575 2871 11 26 := by
  refine ⟨by decide, by decide, by decide, by decide, by decide, by decide⟩
theorem FM_zero : FM 0 = 0 := by decide
theorem month_nonneg {d M k : Int} (hd : 0 ≤ d) (h1 : 1 ≤ k) (h2 : k ≤ SM M) (e : d = FM M + k - 1) : 0 ≤ M := by
  refine Int.not_lt.1 fun h => ?_
  have := FM_mono M 0 (by omega)
  rw [FM_zero] at this
  omega
theorem month_le {d M k d' M' k' : Int} (h1 : 1 ≤ k) (e : d = FM M + k - 1) (h2' : k' ≤ SM M') (e' : d' = FM M' + k' - 1) (h : d ≤ d') : M ≤ M' := by
  refine Int.not_lt.1 fun hl => ?_
  have := FM_mono M' M hl
  omega
/-- every date lies in a month -/
theorem month_exists (d : Int) (h : 0 ≤ d) : ∃ M k : Int, 0 ≤ M ∧ 1 ≤ k ∧ k ≤ SM M ∧ d = FM M + k - 1 := by
  obtain ⟨n, rfl⟩ := Int.eq_ofNat_of_zero_le h
  induction n with
  | zero => exact ⟨0, 1, by decide, by decide, by decide, by decide⟩
  | succ n ih =>
    obtain ⟨M, k, h0, h1, h2, e⟩ := ih (by omega)
    by_cases hk : k + 1 ≤ SM M
    · exact ⟨M, k + 1, h0, by omega, hk, by omega⟩
    · have := SM_range (M + 1); have := FM_succ M
      exact ⟨M + 1, 1, by omega, by omega, by omega, by omega⟩
theorem parts_exists (d : Int) (h : 0 ≤ d) : ∃ y m k, IsParts d y m k := by
  obtain ⟨M, k, h0, h1, h2, e⟩ := month_exists d h
  exact ⟨_, _, _, IsParts.of_month h0 h1 h2 e⟩
end Go.Proofs.Ytaljkilnpfmlaaa.Days
namespace Go.Proofs.Ytaljkilnpfmlaaa.Pure
open Go.RowKit Go.Proofs.Ytaljkilnpfmlaaa.PDueCounted Go.Proofs.YtaljkilnpfmlaaaW.PrintWords Go.Proofs.YtaljkilnpfmlaaaW.PrintLast Go.Proofs.Ytaljkilnpfmlaaa.Days Go.Proofs.Ytaljkilnpfmlaaa.Days
/-- numbers that need no wrap -/
theorem w64 {x : Int} (h1 : -9223372036854775808 ≤ x) (h2 : x ≤ 9223372036854775807) : wrap64 x = x := by unfold wrap64; omega
theorem tdivnn {a b : Int} (h : 0 ≤ a) : Int.tdiv a b = a / b := Int.tdiv_eq_ediv_of_nonneg h
theorem tmodnn {a b : Int} (h : 0 ≤ a) : Int.tmod a b = a % b := Int.tmod_eq_emod_of_nonneg h
theorem Ev.ifp {α : Type} {c : Prop} [Decidable c] {a b : Nat → Option α} {r : α} (h : c) (k : Ev a r) : Ev (fun n => if c then a n else b n) r := Ev.congr (fun n => by rw [if_pos h]) k
theorem Ev.ifn {α : Type} {c : Prop} [Decidable c] {a b : Nat → Option α} {r : α} (h : ¬ c) (k : Ev b r) : Ev (fun n => if c then a n else b n) r := Ev.congr (fun n => by rw [if_neg h]) k
theorem Ev.to {α : Type} {a b : α} (h : a = b) : Ev (fun _ => some a) b := h ▸ Ev.now a
theorem below_of (x n : Int) (h0 : 0 < n) (h1 : n ≤ 4611686018427387904) : mootmake_Below.f x n = some (x % n) := by
  have hr := Int.emod_nonneg x (show n ≠ 0 by omega)
  have hl := Int.emod_lt_of_pos x h0
  unfold mootmake_Below.f
  rw [if_neg (by omega), Int.tmod_eq_emod]
  by_cases h : 0 ≤ x ∨ n ∣ x
  · rw [if_pos h, show x % n - ((0 : Nat) : Int) = x % n from by omega, if_neg (by omega)]
  · have h3 : x % n ≠ 0 := fun e => h (.inr (Int.dvd_of_emod_eq_zero e))
    rw [if_neg h, if_pos (by omega), w64 (by omega) (by omega)]
    congr 1; omega
theorem below_range (x n : Int) (h0 : 0 < n) : 0 ≤ x % n ∧ x % n < n := ⟨Int.emod_nonneg x (by omega), Int.emod_lt_of_pos x h0⟩
theorem drop_rd (l : List Int) (i : Nat) (h : i < l.length) : l.drop i = rd l (i : Int) :: l.drop (i + 1) := by
  rw [List.drop_eq_getElem_cons h]
  unfold rd
  simp [List.getD, h]
theorem w64_succ {i n : Nat} (h : i < n) (hn : n ≤ 9223372036854775807) : wrap64 ((i : Int) + 1) = ((i + 1 : Nat) : Int) := by
  rw [w64 (by omega) (by omega)]; omega
theorem day_of (x : Int) : mootmake_Day.f x = some (700000 + x % 40000) := by
  unfold mootmake_Day.f
  rw [below_of _ _ (by omega) (by omega)]
  simp only [Option.bind_some]
  rw [w64 (by omega) (by omega)]
theorem clamp_of (d : Int) (h0 : 0 ≤ d) (h1 : d ≤ 1048575) : day_clamp.f d = some d := by
  unfold day_clamp.f mx mn
  congr 1; split <;> split <;> omega
theorem first_of (y : Int) (h1 : 1 ≤ y) (h2 : y ≤ 100000) : day_first.f y = some (F y) := by
  unfold day_first.f F
  simp (disch := omega) only [w64, tdivnn]
theorem leap_of (y : Int) (h1 : 1 ≤ y) : day_Leap.f y = some (decide (lp y)) := by
  unfold day_Leap.f lp
  simp (disch := omega) only [tmodnn]
  by_cases a : y % 4 = 0
  · rw [if_pos a]
    by_cases b : y % 100 = 0
    · rw [if_pos b]; by_cases c : y % 400 = 0 <;> simp [a, b, c]
    · rw [if_neg b]; simp [a, b]
  · rw [if_neg a]; simp [a]
theorem ahead_of (y m : Int) (h1 : 1 ≤ y) (m1 : 1 ≤ m) (m2 : m ≤ 13) : day_ahead.f y m = some (A y m) := by
  unfold day_ahead.f A
  rw [leap_of y h1]
  simp only [Option.bind_some]
  simp (disch := omega) only [w64, tdivnn]
  by_cases hm : m ≤ 2
  · rw [if_pos hm, if_pos hm, Int.sub_zero]
  · rw [if_neg hm, if_neg hm]
    by_cases hl : lp y
    · simp only [hl, decide_true, if_true]
    · simp [hl]
theorem parts_l1 (y r : Int) (h1 : 1 ≤ y) (h2 : y ≤ 100000) (hr : r < A y 13) (n : Nat) : ∀ m : Int, 1 ≤ m → m ≤ 12 → (12 - m).toNat = n → A y m ≤ r →
    ∃ m' k' : Int, Ev (fun k => day_Parts.l1 k y r m) (y, m', k') ∧ 1 ≤ m' ∧ m' ≤ 12 ∧ 1 ≤ k' ∧ k' ≤ L y m' ∧ r = A y m' + k' - 1 := by
  have hA13 := A_range y 13 (by omega) (by omega)
  induction n with
  | zero =>
    intro m m1 m2 hn ha
    obtain rfl : m = 12 := by omega
    have := A_range y 12 (by omega) (by omega)
    refine ⟨12, r - A y 12 + 1, Ev.step (fun k => ?_) (Ev.now _), by omega, by omega, by omega, by unfold L; rw [show (12 : Int) + 1 = 13 from rfl]; omega, by omega⟩
    simp only [day_Parts.l1]
    rw [if_neg (by omega), ahead_of _ _ h1 (by omega) (by omega)]
    simp only [Option.bind_some]
    rw [w64 (x := r - A y 12) (by omega) (by omega), w64 (by omega) (by omega)]
  | succ n ih =>
    intro m m1 m2 hn ha
    have hb := A_range y m (by omega) (by omega)
    by_cases hc : A y (m + 1) ≤ r
    · obtain ⟨m', k', he, h⟩ := ih (m + 1) (by omega) (by omega) (by omega) hc
      refine ⟨m', k', Ev.step (fun k => ?_) he, h⟩
      simp only [day_Parts.l1]
      rw [if_pos (by omega), w64 (x := m + 1) (by omega) (by omega), ahead_of _ _ h1 (by omega) (by omega)]
      simp only [Option.bind_some]
      rw [if_pos hc]
    · refine ⟨m, r - A y m + 1, Ev.step (fun k => ?_) (Ev.now _), m1, m2, by omega, by unfold L; omega, by omega⟩
      simp only [day_Parts.l1]
      rw [if_pos (by omega), w64 (x := m + 1) (by omega) (by omega), ahead_of _ _ h1 (by omega) (by omega)]
      simp only [Option.bind_some]
      rw [if_neg hc, ahead_of _ _ h1 (by omega) (by omega)]
      simp only [Option.bind_some]
      rw [w64 (x := r - A y m) (by omega) (by omega), w64 (by omega) (by omega)]
theorem parts_l0 (d : Int) (h0 : 0 ≤ d) (hd : d ≤ 1048575) (n : Nat) : ∀ y : Int, 1 ≤ y → F y ≤ d → (3000 - y).toNat = n →
    ∃ y' m' k' : Int, Ev (fun k => day_Parts.l0 k d y) (y', m', k') ∧ IsParts d y' m' k' := by
  induction n with
  | zero => intro y h1 hf hn; have := year_end d y hf hd; omega
  | succ n ih =>
    intro y h1 hf hn
    have hy := year_end d y hf hd
    have hF := F_range y h1
    by_cases hc : F (y + 1) ≤ d
    · obtain ⟨y', m', k', he, h⟩ := ih (y + 1) (by omega) hc (by omega)
      refine ⟨y', m', k', Ev.step (fun k => ?_) he, h⟩
      simp only [day_Parts.l0]
      rw [w64 (x := y + 1) (by omega) (by omega), first_of _ (by omega) (by omega)]
      simp only [Option.bind_some]
      rw [if_pos hc]
    · have hs := F_succ y
      have h13 := A13 y
      obtain ⟨m', k', he, m1, m2, k1, k2, e⟩ := parts_l1 y (d - F y) h1 (by omega) (by omega) _ 1 (by omega) (by omega) rfl (by rw [A1]; omega)
      refine ⟨y, m', k', Ev.step (fun k => ?_) he, ⟨h1, m1, m2, k1, k2, by omega⟩⟩
      simp only [day_Parts.l0]
      rw [w64 (x := y + 1) (by omega) (by omega), first_of _ (by omega) (by omega)]
      simp only [Option.bind_some]
      rw [if_neg hc, first_of _ (by omega) (by omega)]
      simp only [Option.bind_some]
      rw [w64 (x := d - F y) (by omega) (by omega)]
theorem parts_of {d y m k : Int} (h0 : 0 ≤ d) (hd : d ≤ 1048575) (h : IsParts d y m k) : Ev (fun n => day_Parts.f n d) (y, m, k) := by
  have hs := year_start d h0
  obtain ⟨y', m', k', he, h'⟩ := parts_l0 d h0 hd _ _ hs.2 hs.1 rfl
  obtain ⟨rfl, rfl, rfl⟩ := h.unique h'
  refine Ev.congr (fun n => ?_) he
  unfold day_Parts.f
  rw [clamp_of d h0 hd]
  simp only [Option.bind_some]
  simp (disch := omega) only [w64, tdivnn, tmodnn]
/-- the month's number -/
def mo (y m : Int) : Int := 12 * (y - 1) + m - 1
theorem IsPartsB {d y m k : Int} (h : IsParts d y m k) (hd : d ≤ 1048575) : y ≤ 2871 := by
  refine year_end d y ?_ hd
  have := A_range y m h.m1 (by have := h.m2; omega)
  have := h.eq; have := h.k1; omega
theorem month_of {d y m k : Int} (h0 : 0 ≤ d) (hd : d ≤ 1048575) (h : IsParts d y m k) : Ev (fun n => day_Month.f n d) (12 * (y - 1) + m - 1) := by
  have := h.y1; have := IsPartsB h hd; have := h.m1; have := h.m2
  simp only [day_Month.f]
  refine Ev.bind (parts_of h0 hd h) ?_
  simp (disch := omega) only [w64]
  exact Ev.now _
theorem month_max : Ev (fun n => day_Month.f n 1048575) 34450 := month_of (by omega) (by omega) max_parts
theorem clip (M : Int) (h0 : 0 ≤ M) (h1 : M ≤ 34450) : mx 0 (mn M 34450) = M := by unfold mx mn; split <;> split <;> omega
theorem size_of (M : Int) (h0 : 0 ≤ M) (h1 : M ≤ 34450) : Ev (fun n => day_Size.f n M) (SM M) := by
  simp only [day_Size.f]
  refine Ev.bind month_max ?_
  rw [clip M h0 h1]
  simp (disch := omega) only [w64, tdivnn]
  rw [ahead_of _ _ (by omega) (by omega) (by omega), ahead_of _ _ (by omega) (by omega) (by omega)]
  simp only [Option.bind_some]
  have := A_range (M / 12 + 1) (M % 12 + 1 + 1) (by omega) (by omega)
  have := A_range (M / 12 + 1) (M % 12 + 1) (by omega) (by omega)
  rw [w64 (by omega) (by omega)]
  exact Ev.now _
theorem firstday_of (M : Int) (h0 : 0 ≤ M) (h1 : M ≤ 34450) : Ev (fun n => day_First.f n M) (FM M) := by
  simp only [day_First.f]
  refine Ev.bind month_max ?_
  rw [clip M h0 h1]
  simp (disch := omega) only [w64, tdivnn]
  rw [first_of _ (by omega) (by omega), ahead_of _ _ (by omega) (by omega) (by omega)]
  simp only [Option.bind_some]
  have := A_range (M / 12 + 1) (M % 12 + 1) (by omega) (by omega)
  have := F_range (M / 12 + 1) (by omega)
  rw [w64 (by omega) (by omega)]
  exact Ev.now _
theorem size_gen (X M : Int) (h0 : 0 ≤ M) (h1 : M ≤ 34450) (hc : mx 0 (mn X 34450) = M) : Ev (fun n => day_Size.f n X) (SM M) := by
  simp only [day_Size.f]
  refine Ev.bind month_max ?_
  rw [hc]
  simp (disch := omega) only [w64, tdivnn]
  rw [ahead_of _ _ (by omega) (by omega) (by omega), ahead_of _ _ (by omega) (by omega) (by omega)]
  simp only [Option.bind_some]
  have := A_range (M / 12 + 1) (M % 12 + 1 + 1) (by omega) (by omega)
  have := A_range (M / 12 + 1) (M % 12 + 1) (by omega) (by omega)
  rw [w64 (by omega) (by omega)]
  exact Ev.now _
/-- a date some months later: M, k: the month and the day of d -/
def later (M k n : Int) : Int := FM (M + n) + min k (SM (M + n)) - 1
theorem later_month (M n : Int) {k : Int} (h1 : 1 ≤ k) : 1 ≤ min k (SM (M + n)) ∧ min k (SM (M + n)) ≤ SM (M + n) := by
  have := SM_range (M + n); omega
theorem later_mono {M k M' k' n : Int} (h1 : 1 ≤ k) (h1' : 1 ≤ k') (h2' : k' ≤ SM M') (h : FM M + k - 1 ≤ FM M' + k' - 1) : later M k n ≤ later M' k' n := by
  have hM := month_le h1 rfl h2' rfl h
  unfold later
  by_cases e : M = M'
  · subst e; omega
  · have := FM_mono (M + n) (M' + n) (by omega)
    have := later_month M n h1; have := later_month M' n h1'
    omega
theorem FM_max : FM 34450 = 1048550 := by decide
theorem later_range {M k n : Int} (h1 : 1 ≤ k) (a : 0 ≤ M + n) (b : M + n < 34450) : 0 ≤ later M k n ∧ later M k n < 1048575 := by
  have := later_month M n h1
  have hl := FM_mono (M + n) 34450 b
  have : 0 ≤ FM (M + n) := by
    by_cases e : M + n = 0
    · rw [e, FM_zero]; omega
    · have := FM_mono 0 (M + n) (by omega); rw [FM_zero] at this; have := SM_range 0; omega
  rw [FM_max] at hl
  unfold later; omega
theorem months_of {d y m k n : Int} (h0 : 0 ≤ d) (hd : d ≤ 1048575) (h : IsParts d y m k) (hn1 : -40000 ≤ n) (hn2 : n ≤ 40000) (a : 0 ≤ mo y m + n) (b : mo y m + n < 34450) :
    Ev (fun c => day_Months.f c d n) (later (mo y m) k n) := by
  have hB := IsPartsB h hd; have := h.y1; have := h.m1; have := h.m2
  have hr := later_range (M := mo y m) (n := n) h.k1 a b
  have hs := SM_range (mo y m + n)
  have hmin : mn k (SM (mo y m + n)) = min k (SM (mo y m + n)) := by unfold mn; split <;> omega
  have hn : mx (-40000) (mn n 40000) = n := by unfold mx mn; split <;> split <;> omega
  have hL := L_range y m h.m1 h.m2; have := h.k2; have := h.k1
  simp only [day_Months.f]
  rw [clamp_of d h0 hd]
  simp only [Option.bind_some]
  refine Ev.bind (parts_of h0 hd h) ?_
  refine Ev.bind (month_of h0 hd h) ?_
  rw [hn, show wrap64 (12 * (y - 1) + m - 1 + n) = mo y m + n from by unfold mo at *; exact w64 (by omega) (by omega)]
  refine Ev.ifn (by omega) ?_
  refine Ev.bind month_max ?_
  refine Ev.ifn (by omega) ?_
  refine Ev.bind (firstday_of _ a (by omega)) ?_
  refine Ev.bind (size_of _ a (by omega)) ?_
  simp only []
  rw [hmin]
  unfold later at hr
  rw [w64 (x := FM (mo y m + n) + min k (SM (mo y m + n))) (by omega) (by omega), w64 (by omega) (by omega), clamp_of _ (by omega) (by omega)]
  exact Ev.now _
theorem later_parts {M k n : Int} (h1 : 1 ≤ k) (a : 0 ≤ M + n) : IsParts (later M k n) ((M + n) / 12 + 1) ((M + n) % 12 + 1) (min k (SM (M + n))) :=
  IsParts.of_month a (later_month M n h1).1 (later_month M n h1).2 rfl
theorem mo_range {d y m k : Int} (h : IsParts d y m k) (h0 : 700000 ≤ d) (h1 : d ≤ 740050) : 12000 ≤ mo y m ∧ mo y m < 24400 := by
  have hf := h.fm; have := h.k1; have hm1 := h.m1; have hm2 := h.m2
  constructor
  · refine Int.not_lt.1 fun hl => ?_
    have := FM_mono (mo y m) 12000 hl
    have h2 : FM 12000 ≤ 700000 := by decide
    unfold mo at *; omega
  · refine Int.not_le.1 fun hl => ?_
    have : FM 24400 ≤ FM (mo y m) := by
      by_cases e : mo y m = 24400
      · rw [e]; omega
      · have := FM_mono' 24400 (mo y m) (by omega); omega
    have h2 : 740100 ≤ FM 24400 := by decide
    unfold mo at *; omega
theorem of_gen (y m k : Int) (h1 : 1 ≤ y) (h2 : y ≤ 4000) (m1 : 1 ≤ m) (m2 : m ≤ 12) (k1 : 1 ≤ k) :
    Ev (fun c => day_Of.f c y m k) (if k > L y m then (0, 1) else if F y + A y m + k - 1 > 1048575 then (0, 2) else (F y + A y m + k - 1, 0)) := by
  have hA := A_range y m m1 (by omega)
  have hA' := A_range y (m + 1) (by omega) (by omega)
  have hF := F_range y h1
  have hL := L_range y m m1 m2
  simp only [day_Of.f]
  refine Ev.ifn (by omega) (Ev.ifn (by omega) (Ev.ifn (by omega) ?_))
  refine Ev.step (f := fun _ => some (if k > L y m then (0, 1) else if F y + A y m + k - 1 > 1048575 then (0, 2) else (F y + A y m + k - 1, 0))) (fun c => ?_) (Ev.now _)
  simp only [day_Of.j0]
  rw [if_neg (by simpa using k1), if_neg (by omega), w64 (x := m + 1) (by omega) (by omega), ahead_of _ _ h1 (by omega) (by omega), ahead_of _ _ h1 (by omega) (by omega), first_of _ h1 (by omega)]
  simp only [Option.bind_some]
  rw [show A y (m + 1) - A y m = L y m from rfl, w64 (x := L y m) (by omega) (by omega)]
  by_cases c1 : k > L y m
  · rw [if_pos c1, if_pos c1]
  · rw [if_neg c1, if_neg c1]
    rw [w64 (x := F y + A y m) (by omega) (by omega), w64 (x := F y + A y m + k) (by omega) (by omega), w64 (x := F y + A y m + k - 1) (by omega) (by omega)]
    split <;> rfl
theorem of_of {d y m k : Int} (hd : d ≤ 1048575) (h : IsParts d y m k) : Ev (fun c => day_Of.f c y m k) (d, 0) := by
  have hB := IsPartsB h hd; have he := h.eq; have hk2 := h.k2
  have := of_gen y m k h.y1 (by omega) h.m1 h.m2 h.k1
  rw [if_neg (by omega), if_neg (by omega), ← he] at this
  exact this
def okS (y : Int) : Bool :=
  match feast_Sunday.f 1 y with
  | some (d, e) => e == 0 && decide (F y + A y 3 + 21 ≤ d) && decide (d ≤ F y + A y 4 + 24) && d % 7 == 6
  | none => false
set_option maxRecDepth 100000 in
theorem all_okS : (List.range 2871).all (fun n => okS ((n : Int) + 1)) = true := by decide +kernel
theorem sun_step (y : Int) (c : Nat) : feast_Sunday.f (c + 1) y = feast_Sunday.f 1 y := by
  unfold feast_Sunday.f day_Of.f
  simp only [day_Of.j0]
theorem sun_of (y : Int) (h1 : 1 ≤ y) (h2 : y ≤ 2871) : ∃ d, Ev (fun c => feast_Sunday.f c y) (d, 0) ∧ F y + A y 3 + 21 ≤ d ∧ d ≤ F y + A y 4 + 24 ∧ d % 7 = 6 := by
  have := List.all_eq_true.1 all_okS (y - 1).toNat (List.mem_range.2 (by omega))
  rw [show (((y - 1).toNat : Nat) : Int) + 1 = y from by omega] at this
  unfold okS at this
  split at this
  · rename_i d e he
    simp only [Bool.and_eq_true, beq_iff_eq, decide_eq_true_eq] at this
    obtain ⟨⟨⟨rfl, b⟩, c⟩, f⟩ := this
    exact ⟨d, Ev.step (fun c => (sun_step y c).trans he) (Ev.now _), b, c, f⟩
  · exact absurd this (by simp)
theorem sun_parts {y d : Int} (h1 : 1 ≤ y) (ha : F y + A y 3 + 21 ≤ d) (hb : d ≤ F y + A y 4 + 24) : (∃ k, IsParts d y 3 k ∧ 22 ≤ k) ∨ ∃ k, IsParts d y 4 k ∧ k ≤ 25 := by
  have hL : L y 3 = 31 := by unfold L A; by_cases h : lp y <;> simp [h]
  have hL4 : L y 4 = 30 := by unfold L A; by_cases h : lp y <;> simp [h]
  have hd : A y 4 = A y 3 + 31 := by have : L y 3 = A y 4 - A y 3 := rfl; omega
  by_cases hc : d < F y + A y 4
  · exact .inl ⟨d - F y - A y 3 + 1, ⟨h1, by omega, by omega, by omega, by omega, by omega⟩, by omega⟩
  · exact .inr ⟨d - F y - A y 4 + 1, ⟨h1, by omega, by omega, by omega, by omega, by omega⟩, by omega⟩
theorem Ev.unique {α : Type} {g : Nat → Option α} {a b : α} (h : Ev g a) (h' : Ev g b) : a = b := by
  obtain ⟨K, h⟩ := h
  obtain ⟨K', h'⟩ := h'
  have e1 := h (max K K') (by omega)
  have e2 := h' (max K K') (by omega)
  rw [e1] at e2
  exact Option.some.inj e2
/-- the rules that the maker of calendars makes -/
def GoodRule (s : S80) : Prop :=
  (s.f0 = 0 ∧ 1 ≤ s.f1 ∧ s.f1 ≤ 12 ∧ 1 ≤ s.f2 ∧ s.f2 ≤ 29 ∧ s.f3 = 0 ∧ s.f4 = 0) ∨
  (s.f0 = 1 ∧ 1 ≤ s.f1 ∧ s.f1 ≤ 12 ∧ s.f2 = 0 ∧ 0 ≤ s.f3 ∧ s.f3 ≤ 6 ∧ (s.f4 = -1 ∨ 1 ≤ s.f4 ∧ s.f4 ≤ 5)) ∨
  (s.f0 = 2 ∧ s.f1 = 0 ∧ -80 ≤ s.f2 ∧ s.f2 ≤ 250 ∧ s.f3 = 0 ∧ s.f4 = 0) ∨
  (s.f0 = 3 ∧ s.f1 = 0 ∧ 0 ≤ s.f2 ∧ s.f2 ≤ 1048575 ∧ s.f3 = 0 ∧ s.f4 = 0)
theorem fcheck_j0 (a b c d e : Int) (x : Bool) (hx : x = true) : Ev (fun k => feast_check.j0 k x a b c d e a b c d e) 0 := by
  subst hx
  exact Ev.step (f := fun _ => some 0) (fun k => by simp [feast_check.j0]) (Ev.now _)
theorem L4 (m : Int) (h1 : 1 ≤ m) (h2 : m ≤ 12) : 29 ≤ L 4 m ∧ F 4 + A 4 m ≤ 2000 := by
  rcases months m h1 h2 with rfl | rfl | rfl | rfl | rfl | rfl | rfl | rfl | rfl | rfl | rfl | rfl <;> decide
theorem fcheck_of (s : S80) (h : GoodRule s) : Ev (fun k => feast_check.f k s.f0 s.f1 s.f2 s.f3 s.f4) 0 := by
  obtain ⟨f0, f1, f2, f3, f4⟩ := s
  rcases h with ⟨h0, h1, h2, h3, h4, h5, h6⟩ | ⟨h0, h1, h2, h3, h4, h5, h6⟩ | ⟨h0, h1, h2, h3, h4, h5⟩ | ⟨h0, h1, h2, h3, h4, h5⟩ <;> simp only at * <;> subst h0
  · subst h5 h6
    have hL := L4 f1 h1 h2
    have ho := of_gen 4 f1 f2 (by omega) (by omega) h1 h2 h3
    rw [if_neg (by omega), if_neg (by omega)] at ho
    simp only [feast_check.f]
    exact Ev.ifp trivial (Ev.bind ho (fcheck_j0 _ _ _ _ _ _ rfl))
  · subst h3
    simp only [feast_check.f]
    refine Ev.ifn (by decide) (Ev.ifp trivial (Ev.ifp h1 (Ev.ifp h2 (Ev.ifp h4 (Ev.ifp h5 ?_)))))
    rcases h6 with rfl | ⟨h6, h7⟩
    · exact Ev.ifp rfl (fcheck_j0 _ _ _ _ _ _ rfl)
    · exact Ev.ifn (by omega) (Ev.ifp h6 (fcheck_j0 _ _ _ _ _ _ (decide_eq_true h7)))
  · subst h1 h4 h5
    simp only [feast_check.f]
    exact Ev.ifn (by decide) (Ev.ifn (by decide) (Ev.ifp trivial (Ev.ifp h2 (fcheck_j0 _ _ _ _ _ _ (decide_eq_true h3)))))
  · subst h1 h4 h5
    simp only [feast_check.f]
    exact Ev.ifn (by decide) (Ev.ifn (by decide) (Ev.ifn (by decide) (Ev.ifp trivial (Ev.ifp h2 (fcheck_j0 _ _ _ _ _ _ (decide_eq_true h3))))))
theorem size_any (M : Int) (h0 : 0 ≤ M) (h1 : M ≤ 34451) : ∃ s, Ev (fun n => day_Size.f n M) s ∧ 28 ≤ s ∧ s ≤ 31 := by
  by_cases h : M ≤ 34450
  · exact ⟨_, size_of M h0 h, SM_range M⟩
  · obtain rfl : M = 34451 := by omega
    exact ⟨SM 34450, size_gen 34451 34450 (by omega) (by omega) (by decide), SM_range _⟩
theorem exbind {α β : Type} {g : Nat → Option α} {f : Nat → α → Option β} {a : α} (h : Ev g a) (k : ∃ r, Ev (fun n => f n a) r) : ∃ r, Ev (fun n => (g n).bind (f n)) r := by
  obtain ⟨r, k⟩ := k
  exact ⟨r, Ev.bind h k⟩
theorem nth_l0 (f z : Int) (hz : 28 ≤ z ∧ z ≤ 31) (hf : 0 ≤ f ∧ f ≤ 1048575) (n : Nat) : ∀ d : Int, 0 ≤ d → d ≤ 1048700 → (f + z - d).toNat ≤ n → ∃ p, Ev (fun k => feast_nth.l0 k f z d) p := by
  induction n with
  | zero =>
    intro d h0 h1 hn
    refine ⟨(d, true), Ev.step (f := fun _ => some (d, true)) (fun k => ?_) (Ev.now _)⟩
    simp only [feast_nth.l0]
    rw [w64 (x := d + 7) (by omega) (by omega), w64 (x := f + z) (by omega) (by omega), if_neg (by omega)]
  | succ n ih =>
    intro d h0 h1 hn
    by_cases hc : d + 7 < f + z
    · obtain ⟨p, hp⟩ := ih (d + 7) (by omega) (by omega) (by omega)
      refine ⟨p, Ev.step (fun k => ?_) hp⟩
      simp only [feast_nth.l0]
      rw [w64 (x := d + 7) (by omega) (by omega), w64 (x := f + z) (by omega) (by omega), if_pos hc]
    · refine ⟨(d, true), Ev.step (f := fun _ => some (d, true)) (fun k => ?_) (Ev.now _)⟩
      simp only [feast_nth.l0]
      rw [w64 (x := d + 7) (by omega) (by omega), w64 (x := f + z) (by omega) (by omega), if_neg hc]
theorem nth_of (y m w n : Int) (h1 : 1 ≤ y) (h2 : y ≤ 2871) (m1 : 1 ≤ m) (m2 : m ≤ 12) (w1 : 0 ≤ w) (w2 : w ≤ 6) : ∃ p, Ev (fun k => feast_nth.f k y m w n) p := by
  have ho := of_gen y m 1 h1 (by omega) m1 m2 (by omega)
  have hL := L_range y m m1 m2
  have hF := F_range y h1
  have hA := A_range y m m1 (by omega)
  rw [if_neg (by omega)] at ho
  obtain ⟨p, hp, hp0, hp1⟩ : ∃ p : Int × Int, Ev (fun c => day_Of.f c y m 1) p ∧ 0 ≤ p.1 ∧ p.1 ≤ 1048575 := by
    by_cases hc : F y + A y m + 1 - 1 > 1048575
    · rw [if_pos hc] at ho; exact ⟨_, ho, by simp, by simp⟩
    · rw [if_neg hc] at ho; exact ⟨_, ho, by simp only []; omega, by simp only []; omega⟩
  obtain ⟨z, hz, hz1⟩ := size_any (12 * (y - 1) + m - 1) (by omega) (by omega)
  have hw : day_Week.f p.1 = some (p.1 % 7) := by
    unfold day_Week.f
    rw [clamp_of _ hp0 hp1]
    simp only [Option.bind_some]
    rw [tmodnn hp0]
  simp only [feast_nth.f]
  by_cases hn : n > 0
  · refine exbind hp ?_
    rw [w64 (x := y - 1) (by omega) (by omega), w64 (x := 12 * (y - 1)) (by omega) (by omega), w64 (x := 12 * (y - 1) + m) (by omega) (by omega), w64 (x := 12 * (y - 1) + m - 1) (by omega) (by omega)]
    refine exbind hz ?_
    simp only [hw, Option.bind_some]
    exact ⟨_, Ev.ifp hn (Ev.now _)⟩
  · obtain ⟨q, hq⟩ := nth_l0 p.1 z hz1 ⟨hp0, hp1⟩ _ (p.1 + (w - p.1 % 7 + 7) % 7) (by omega) (by omega) (Nat.le_refl _)
    refine ⟨q, Ev.bind hp ?_⟩
    rw [w64 (x := y - 1) (by omega) (by omega), w64 (x := 12 * (y - 1)) (by omega) (by omega), w64 (x := 12 * (y - 1) + m) (by omega) (by omega), w64 (x := 12 * (y - 1) + m - 1) (by omega) (by omega)]
    refine Ev.bind hz ?_
    simp only [hw, Option.bind_some]
    refine Ev.ifn hn ?_
    rw [w64 (x := w - p.1 % 7) (by omega) (by omega), w64 (x := w - p.1 % 7 + 7) (by omega) (by omega), tmodnn (by omega), w64 (by omega) (by omega)]
    exact hq
theorem meets_of (s : S80) (h : GoodRule s) (d : Int) (d0 : 0 ≤ d) (d1 : d ≤ 1048575) : ∃ b, Ev (fun k => feast_meets.f k s.f0 s.f1 s.f2 s.f3 s.f4 d) b := by
  obtain ⟨y, m, kk, hp⟩ := parts_exists d d0
  have hB := IsPartsB hp d1; have hy1 := hp.y1
  simp only [feast_meets.f]
  refine exbind (parts_of d0 d1 hp) ?_
  rcases h with ⟨h0, h1, h2, h3, h4, h5, h6⟩ | ⟨h0, h1, h2, h3, h4, h5, h6⟩ | ⟨h0, h1, h2, h3, h4, h5⟩ | ⟨h0, h1, h2, h3, h4, h5⟩ <;> rw [h0]
  · by_cases hm : m = s.f1
    · exact ⟨_, Ev.ifp rfl (Ev.ifp hm (Ev.now _))⟩
    · exact ⟨_, Ev.ifp rfl (Ev.ifn hm (Ev.now _))⟩
  · obtain ⟨p, hn⟩ := nth_of y s.f1 s.f3 s.f4 hy1 hB h1 h2 h4 h5
    by_cases hq : p.2 = true
    · exact ⟨_, Ev.ifn (by decide) (Ev.ifp rfl (Ev.bind hn (Ev.ifp hq (Ev.now _))))⟩
    · exact ⟨_, Ev.ifn (by decide) (Ev.ifp rfl (Ev.bind hn (Ev.ifn hq (Ev.now _))))⟩
  · obtain ⟨x, hx, _⟩ := sun_of y hy1 hB
    exact ⟨_, Ev.ifn (by decide) (Ev.ifn (by decide) (Ev.ifp rfl (Ev.bind hx (Ev.ifp rfl (Ev.now _)))))⟩
  · exact ⟨_, Ev.ifn (by decide) (Ev.ifn (by decide) (Ev.ifn (by decide) (Ev.now _)))⟩
theorem one_of (s : S80) (h : GoodRule s) (d : Int) (d0 : 0 ≤ d) (d1 : d ≤ 1048575) : ∃ b, Ev (fun k => feast_Is.one k s d) b := by
  obtain ⟨b, hb⟩ := meets_of s h d d0 d1
  refine ⟨b, ?_⟩
  simp only [feast_Is.one]
  exact Ev.bind (fcheck_of s h) (Ev.ifp rfl hb)
theorem any_of (d : Int) (d0 : 0 ≤ d) (d1 : d ≤ 1048575) : ∀ l : List S80, (∀ s ∈ l, GoodRule s) → ∃ b, Ev (fun k => feast_Is.any k d l) b
  | [], _ => ⟨false, by simp only [feast_Is.any]; exact Ev.now _⟩
  | s :: l, h => by
    obtain ⟨b, hb⟩ := one_of s (h s (by simp)) d d0 d1
    obtain ⟨c, hc⟩ := any_of d d0 d1 l (fun t ht => h t (by simp [ht]))
    simp only [feast_Is.any]
    cases b
    · exact ⟨c, Ev.bind hb (Ev.ifn (by decide) hc)⟩
    · exact ⟨true, Ev.bind hb (Ev.ifp rfl (Ev.now _))⟩
theorem fdrop (l : List S80) (i : Nat) (h : i < l.length) : rd_T80 l (i : Int) ∈ l := by
  have := List.getElem_mem h
  unfold rd_T80
  simp [List.getD, h]
theorem fCheck_l0 (l : List S80) (h : ∀ s ∈ l, GoodRule s) (hl : l.length ≤ 60) (n : Nat) : ∀ i : Nat, i ≤ l.length → l.length - i = n → Ev (fun k => feast_Check.l0 k l (l.length : Int) (i : Int)) 0 := by
  induction n with
  | zero =>
    intro i hi hn
    obtain rfl : i = l.length := by omega
    refine Ev.step (f := fun _ => some 0) (fun k => ?_) (Ev.now _)
    simp only [feast_Check.l0]
    rw [if_neg (by omega)]
  | succ n ih =>
    intro i hi hn
    have hlt : i < l.length := by omega
    refine Ev.step (fun k => ?_) (Ev.bind (fcheck_of _ (h _ (fdrop l i hlt))) (Ev.ifp (c := (0 : Int) = 0) rfl (ih (i + 1) (by omega) (by omega))) : Ev (fun k => (feast_check.f k (rd_T80 l (i : Int)).f0 (rd_T80 l (i : Int)).f1 (rd_T80 l (i : Int)).f2 (rd_T80 l (i : Int)).f3 (rd_T80 l (i : Int)).f4).bind fun e => if e = 0 then feast_Check.l0 k l (l.length : Int) ((i + 1 : Nat) : Int) else some e) 0)
    simp only [feast_Check.l0]
    rw [if_pos (by omega), if_pos (by omega), if_pos (by omega), w64_succ hlt (by omega)]
theorem fCheck_of (b1 b2 b3 b4 b5 b6 : Bool) (l : List S80) (h : ∀ s ∈ l, GoodRule s) (hl : l.length ≤ 60) : Ev (fun k => feast_Check.f k false b1 b2 b3 b4 b5 b6 l) 0 := by
  simp only [feast_Check.f]
  exact Ev.ifn (by omega) (Ev.ifp trivial (fCheck_l0 l h hl _ 0 (by omega) rfl))
theorem fIs_of (b0 b1 b2 b3 b4 b5 b6 : Bool) (l : List S80) (h : ∀ s ∈ l, GoodRule s) (hl : l.length ≤ 60) : ∃ hol : Int → Bool, ∀ d, 0 ≤ d → d ≤ 1048575 → Ev (fun k => feast_Is.f k b0 b1 b2 b3 b4 b5 b6 l d) (hol d) := by
  have : ∀ d, ∃ b, 0 ≤ d → d ≤ 1048575 → Ev (fun k => feast_Is.f k b0 b1 b2 b3 b4 b5 b6 l d) b := by
    intro d
    by_cases hd : 0 ≤ d ∧ d ≤ 1048575
    · obtain ⟨b, hb⟩ := any_of d hd.1 hd.2 l h
      refine ⟨b, fun _ _ => ?_⟩
      simp only [feast_Is.f]
      exact Ev.ifp hd (Ev.ifp (by omega) hb)
    · exact ⟨true, fun h0 h1 => absurd ⟨h0, h1⟩ hd⟩
  exact Classical.axiomOfChoice this
theorem pf_of : ∃ pf : Int → Int × Int × Int, ∀ d, 0 ≤ d → d ≤ 1048575 → Ev (fun k => day_Parts.f k d) (pf d) ∧ IsParts d (pf d).1 (pf d).2.1 (pf d).2.2 := by
  have : ∀ d : Int, ∃ p : Int × Int × Int, 0 ≤ d → d ≤ 1048575 → Ev (fun k => day_Parts.f k d) p ∧ IsParts d p.1 p.2.1 p.2.2 := by
    intro d
    by_cases hd : 0 ≤ d ∧ d ≤ 1048575
    · obtain ⟨y, m, k, hp⟩ := parts_exists d hd.1
      exact ⟨(y, m, k), fun h0 h1 => ⟨parts_of h0 h1 hp, hp⟩⟩
    · exact ⟨(0, 0, 0), fun h0 h1 => absurd ⟨h0, h1⟩ hd⟩
  exact Classical.axiomOfChoice this
/-- the holidays of a year from a date on -/
def hl (yr : Int → Int × Int × Int) (hol : Int → Bool) (y : Int) : Nat → Int → List Int
  | 0, _ => []
  | n + 1, d => if (yr d).1 = y then (if hol d = true then d :: hl yr hol y n (d + 1) else hl yr hol y n (d + 1)) else hl yr hol y n (d + 1)
theorem mem_hl (yr : Int → Int × Int × Int) (hol : Int → Bool) (y : Int) (x : Int) (n : Nat) : ∀ d, x ∈ hl yr hol y n d ↔ d ≤ x ∧ x < d + n ∧ (yr x).1 = y ∧ hol x = true := by
  induction n with
  | zero => intro d; simp [hl]; omega
  | succ n ih =>
    intro d
    rw [hl]
    by_cases h1 : (yr d).1 = y
    · rw [if_pos h1]
      by_cases h2 : hol d = true
      · rw [if_pos h2, List.mem_cons, ih]
        constructor
        · rintro (rfl | ⟨a, b, c⟩)
          · exact ⟨by omega, by omega, h1, h2⟩
          · exact ⟨by omega, by omega, c⟩
        · rintro ⟨a, b, c⟩
          by_cases hx : x = d
          · exact .inl hx
          · exact .inr ⟨by omega, by omega, c⟩
      · rw [if_neg h2, ih]
        constructor
        · rintro ⟨a, b, c⟩; exact ⟨by omega, by omega, c⟩
        · rintro ⟨a, b, c⟩
          have hx : x ≠ d := by rintro rfl; exact h2 c.2
          exact ⟨by omega, by omega, c⟩
    · rw [if_neg h1, ih]
      constructor
      · rintro ⟨a, b, c⟩; exact ⟨by omega, by omega, c⟩
      · rintro ⟨a, b, c⟩
        have hx : x ≠ d := by rintro rfl; exact h1 c.1
        exact ⟨by omega, by omega, c⟩
theorem pw_hl (yr : Int → Int × Int × Int) (hol : Int → Bool) (y : Int) (n : Nat) : ∀ d, (hl yr hol y n d).Pairwise fun a b => a < b := by
  induction n with
  | zero => intro d; exact List.Pairwise.nil
  | succ n ih =>
    intro d
    rw [hl]
    split
    · split
      · refine List.pairwise_cons.2 ⟨fun x hx => ?_, ih _⟩
        have := (mem_hl yr hol y x n (d + 1)).1 hx
        omega
      · exact ih _
    · exact ih _
/-- in a year a rule meets one date at most -/
theorem meets_at (s : S80) (h : GoodRule s) (y : Int) (hy1 : 1 ≤ y) (hB : y ≤ 2871) : ∃ v : Int, ∀ d m k : Int, IsParts d y m k → 0 ≤ d → d ≤ 1048575 → ∃ b, Ev (fun n => feast_meets.f n s.f0 s.f1 s.f2 s.f3 s.f4 d) b ∧ (b = true → d = v) := by
  rcases h with ⟨h0, h1, h2, h3, h4, h5, h6⟩ | ⟨h0, h1, h2, h3, h4, h5, h6⟩ | ⟨h0, h1, h2, h3, h4, h5⟩ | ⟨h0, h1, h2, h3, h4, h5⟩
  · refine ⟨F y + A y s.f1 + s.f2 - 1, fun d m k hp d0 d1 => ?_⟩
    have heq := hp.eq
    simp only [feast_meets.f]
    rw [h0]
    by_cases hm : m = s.f1
    · refine ⟨_, Ev.bind (parts_of d0 d1 hp) (Ev.ifp rfl (Ev.ifp hm (Ev.now _))), fun hb => ?_⟩
      have := eq_of_beq hb
      simp only at this
      rw [← hm, ← this]
      exact heq
    · exact ⟨_, Ev.bind (parts_of d0 d1 hp) (Ev.ifp rfl (Ev.ifn hm (Ev.now _))), fun hb => absurd hb (by decide)⟩
  · obtain ⟨p, hn⟩ := nth_of y s.f1 s.f3 s.f4 hy1 hB h1 h2 h4 h5
    refine ⟨p.1, fun d m k hp d0 d1 => ?_⟩
    simp only [feast_meets.f]
    rw [h0]
    by_cases hq : p.2 = true
    · exact ⟨_, Ev.bind (parts_of d0 d1 hp) (Ev.ifn (by decide) (Ev.ifp rfl (Ev.bind hn (Ev.ifp hq (Ev.now _))))), fun hb => (eq_of_beq hb).symm⟩
    · exact ⟨_, Ev.bind (parts_of d0 d1 hp) (Ev.ifn (by decide) (Ev.ifp rfl (Ev.bind hn (Ev.ifn hq (Ev.now _))))), fun hb => absurd hb (by decide)⟩
  · obtain ⟨x, hx, _⟩ := sun_of y hy1 hB
    refine ⟨wrap64 (x + s.f2), fun d m k hp d0 d1 => ?_⟩
    simp only [feast_meets.f]
    rw [h0]
    exact ⟨_, Ev.bind (parts_of d0 d1 hp) (Ev.ifn (by decide) (Ev.ifn (by decide) (Ev.ifp rfl (Ev.bind hx (Ev.ifp rfl (Ev.now _)))))), fun hb => (eq_of_beq hb).symm⟩
  · refine ⟨s.f2, fun d m k hp d0 d1 => ?_⟩
    simp only [feast_meets.f]
    rw [h0]
    exact ⟨_, Ev.bind (parts_of d0 d1 hp) (Ev.ifn (by decide) (Ev.ifn (by decide) (Ev.ifn (by decide) (Ev.now _)))), fun hb => (eq_of_beq hb).symm⟩
/-- an increasing list of whole numbers from a to b is no longer than that -/
theorem inc_len (b : Int) : ∀ (l : List Int) (a : Int), (∀ x ∈ l, a ≤ x ∧ x < b) → l.Pairwise (fun x y => x < y) → a ≤ b → (l.length : Int) ≤ b - a
  | [], a, _, _, hab => by simp; omega
  | x :: l, a, h, hp, hab => by
    have hx := h x (by simp)
    have h' := List.pairwise_cons.1 hp
    have := inc_len b l (x + 1) (fun z hz => by have := h'.1 z hz; have := h z (by simp [hz]); omega) h'.2 (by omega)
    rw [List.length_cons]
    omega
theorem filter_len {α : Type} (p : α → Bool) : ∀ l : List α, l.length = (l.filter p).length + (l.filter fun x => !p x).length
  | [] => rfl
  | x :: l => by
    have := filter_len p l
    cases hp : p x <;> simp [List.filter, hp] <;> omega
/-- an increasing list of dates of three years, one a year at most, has three members at most -/
theorem three_years (yr : Int → Int) (P : Int → Prop) (mono : ∀ a b, P a → P b → a < b → yr a ≤ yr b) (y : Int) (q : Int → Bool) (uniq : ∀ a b, P a → P b → q a = true → q b = true → yr a = yr b → a = b)
    (l : List Int) (hP : ∀ x ∈ l, P x) (hy : ∀ x ∈ l, y ≤ yr x ∧ yr x < y + 3) (hq : ∀ x ∈ l, q x = true) (hp : l.Pairwise fun a b => a < b) : l.length ≤ 3 := by
  have hp2 : (l.map yr).Pairwise fun a b => a < b := by
    rw [List.pairwise_map]
    refine List.Pairwise.imp_of_mem (fun {a b} ha hb hab => ?_) hp
    have h1 := mono a b (hP a ha) (hP b hb) hab
    have h2 : yr a ≠ yr b := fun e => by have := uniq a b (hP a ha) (hP b hb) (hq a ha) (hq b hb) e; omega
    omega
  have := inc_len (y + 3) (l.map yr) y (fun x hx => by
    obtain ⟨z, hz, rfl⟩ := List.mem_map.1 hx
    exact hy z hz) hp2 (by omega)
  rw [List.length_map] at this
  omega
theorem count_rules {ρ : Type} (yr : Int → Int) (P : Int → Prop) (mono : ∀ a b, P a → P b → a < b → yr a ≤ yr b) (y : Int) (hit : ρ → Int → Bool) :
    ∀ (c : List ρ) (l : List Int), (∀ s ∈ c, ∀ a b, P a → P b → hit s a = true → hit s b = true → yr a = yr b → a = b) → (∀ x ∈ l, P x) → (∀ x ∈ l, y ≤ yr x ∧ yr x < y + 3) → (∀ x ∈ l, ∃ s ∈ c, hit s x = true) → (l.Pairwise fun a b => a < b) → l.length ≤ 3 * c.length
  | [], l, _, _, _, hh, _ => by
    cases l with
    | nil => simp
    | cons x l => obtain ⟨s, hs, _⟩ := hh x (by simp); simp at hs
  | s :: c, l, hu, hP, hy, hh, hp => by
    have h1 := three_years yr P mono y (hit s) (hu s (by simp)) (l.filter (hit s)) (fun x hx => hP x (List.mem_filter.1 hx).1) (fun x hx => hy x (List.mem_filter.1 hx).1) (fun x hx => (List.mem_filter.1 hx).2) (hp.filter _)
    have h2 := count_rules yr P mono y hit c (l.filter fun x => !hit s x) (fun t ht => hu t (by simp [ht])) (fun x hx => hP x (List.mem_filter.1 hx).1) (fun x hx => hy x (List.mem_filter.1 hx).1) (fun x hx => by
      obtain ⟨hx1, hx2⟩ := List.mem_filter.1 hx
      obtain ⟨t, ht, hht⟩ := hh x hx1
      rcases List.mem_cons.1 ht with rfl | ht
      · rw [hht] at hx2; exact absurd hx2 (by decide)
      · exact ⟨t, ht, hht⟩) (hp.filter _)
    have h3 := filter_len (hit s) l
    rw [List.length_cons]
    omega
theorem any_hit (d : Int) (d0 : 0 ≤ d) (d1 : d ≤ 1048575) : ∀ l : List S80, (∀ s ∈ l, GoodRule s) → Ev (fun k => feast_Is.any k d l) true → ∃ s ∈ l, Ev (fun k => feast_meets.f k s.f0 s.f1 s.f2 s.f3 s.f4 d) true
  | [], _, h => by
    simp only [feast_Is.any] at h
    exact absurd (Ev.unique h (Ev.now false)) (by decide)
  | s :: l, hg, h => by
    obtain ⟨b, hb⟩ := meets_of s (hg s (by simp)) d d0 d1
    have ho : Ev (fun k => feast_Is.one k s d) b := by
      simp only [feast_Is.one]
      exact Ev.bind (fcheck_of s (hg s (by simp))) (Ev.ifp rfl hb)
    cases b
    · obtain ⟨c, hc⟩ := any_of d d0 d1 l (fun t ht => hg t (by simp [ht]))
      have h2 : Ev (fun k => feast_Is.any k d (s :: l)) c := by
        simp only [feast_Is.any]
        exact Ev.bind ho (Ev.ifn (by decide) hc)
      obtain rfl := Ev.unique h h2
      obtain ⟨t, ht, he⟩ := any_hit d d0 d1 l (fun t ht => hg t (by simp [ht])) hc
      exact ⟨t, by simp [ht], he⟩
    · exact ⟨s, by simp, hb⟩
theorem year_top {d y m k : Int} (h : IsParts d y m k) : F y ≤ d ∧ d ≤ F y + 365 := by
  have h1 := A_range y m h.m1 (by have := h.m2; omega)
  have h2 := (A_range y (m + 1) (by have := h.m1; omega) (by have := h.m2; omega)).2.1
  have h3 : L y m = A y (m + 1) - A y m := rfl
  have := h.eq; have := h.k1; have := h.k2
  omega
/-- within 400 days there is a Monday that is no holiday -/
theorem has_free (c : List S80) (hg : ∀ s ∈ c, GoodRule s) (hlen : c.length ≤ 9) (b0 b1 b2 b3 b4 b5 b6 : Bool) (hol : Int → Bool) (hhol : ∀ d, 0 ≤ d → d ≤ 1048575 → Ev (fun k => feast_Is.f k b0 b1 b2 b3 b4 b5 b6 c d) (hol d)) (d : Int) (d0 : 0 ≤ d) (d1 : d + 400 ≤ 1048575) :
    ∃ x, d ≤ x ∧ x ≤ d + 400 ∧ x % 7 = 0 ∧ hol x = false := by
  classical
  apply Classical.byContradiction
  intro hno
  obtain ⟨pf, hpf⟩ := pf_of
  obtain ⟨m0, hm0⟩ : ∃ m, m = d + (7 - d % 7) % 7 := ⟨_, rfl⟩
  have hmem : ∀ x ∈ (List.range 57).map (fun i : Nat => m0 + 7 * (i : Int)), d ≤ x ∧ x ≤ d + 400 ∧ x % 7 = 0 := by
    intro x hx
    obtain ⟨i, hi, rfl⟩ := List.mem_map.1 hx
    have := List.mem_range.1 hi
    omega
  have hall : ∀ x ∈ (List.range 57).map (fun i : Nat => m0 + 7 * (i : Int)), hol x = true := by
    intro x hx
    have := hmem x hx
    cases hh : hol x with
    | true => rfl
    | false => exact absurd ⟨x, this.1, this.2.1, this.2.2, hh⟩ hno
  have hy0 := year_top (hpf d d0 (by omega)).2
  have hc := count_rules (fun x => (pf x).1) (fun x => 0 ≤ x ∧ x ≤ 1048575) (fun a b ha hb hab => by
      have h1 := year_top (hpf a ha.1 ha.2).2
      have h2 := year_top (hpf b hb.1 hb.2).2
      apply Classical.byContradiction
      intro hn
      have := F_mono (pf b).1 (pf a).1 (by omega)
      omega) (pf d).1 (fun (s : S80) x => decide (Ev (fun k => feast_meets.f k s.f0 s.f1 s.f2 s.f3 s.f4 x) true)) c ((List.range 57).map (fun i : Nat => m0 + 7 * (i : Int)))
    (fun s hs a b ha hb hsa hsb he => by
      have ea := of_decide_eq_true hsa
      have eb := of_decide_eq_true hsb
      have pa := (hpf a ha.1 ha.2).2
      have pb := (hpf b hb.1 hb.2).2
      obtain ⟨v, hv⟩ := meets_at s (hg s hs) (pf a).1 pa.y1 (IsPartsB pa ha.2)
      obtain ⟨x, hx, hx2⟩ := hv a _ _ pa ha.1 ha.2
      obtain ⟨z, hz, hz2⟩ := hv b _ _ (by rw [he]; exact pb) hb.1 hb.2
      rw [hx2 (Ev.unique hx ea), hz2 (Ev.unique hz eb)])
    (fun x hx => by have := hmem x hx; omega)
    (fun x hx => by
      have h1 := hmem x hx
      have h2 := year_top (hpf x (by omega) (by omega)).2
      constructor
      · apply Classical.byContradiction
        intro hn
        have := F_mono (pf x).1 (pf d).1 (by omega)
        by_cases hxd : x = d
        · subst hxd; omega
        · omega
      · apply Classical.byContradiction
        intro hn
        have h4 := F_mono (pf d).1 ((pf d).1 + 1) (by omega)
        have h5 := F_mono ((pf d).1 + 1) ((pf d).1 + 2) (by omega)
        have h6 := F_mono ((pf d).1 + 2) (pf x).1 (by omega)
        omega)
    (fun x hx => by
      have h1 := hmem x hx
      have h2 := hhol x (by omega) (by omega)
      rw [hall x hx] at h2
      have h3 : Ev (fun k => feast_Is.any k x c) true := by
        refine Ev.congr (fun k => ?_) h2
        simp only [feast_Is.f]
        rw [if_pos ⟨by omega, by omega⟩, if_pos (by omega)]
      obtain ⟨s, hs, he⟩ := any_hit x (by omega) (by omega) c hg h3
      exact ⟨s, hs, decide_eq_true he⟩)
    (by
      rw [List.pairwise_map]
      exact List.Pairwise.imp (fun {a b} hab => by omega) List.pairwise_lt_range)
  rw [List.length_map, List.length_range] at hc
  omega
def cnt (wk : Int → Bool) : Nat → Int → Int
  | 0, _ => 0
  | n + 1, d => (if wk d = true then 1 else 0) + cnt wk n (d + 1)
theorem cnt_range (wk : Int → Bool) : ∀ (n : Nat) (d : Int), 0 ≤ cnt wk n d ∧ cnt wk n d ≤ n
  | 0, d => by simp [cnt]
  | n + 1, d => by
    have := cnt_range wk n (d + 1)
    rw [cnt]
    split <;> omega
theorem cnt_add (wk : Int → Bool) (m : Nat) : ∀ (n : Nat) (d : Int), cnt wk (n + m) d = cnt wk n d + cnt wk m (d + n)
  | 0, d => by simp [cnt]
  | n + 1, d => by
    rw [show n + 1 + m = (n + m) + 1 by omega, cnt, cnt_add wk m n (d + 1), cnt, show d + 1 + (n : Int) = d + ((n + 1 : Nat) : Int) by omega]
    omega
theorem cnt_le (p q : Int → Bool) (h : ∀ x, q x = true → p x = true) : ∀ (n : Nat) (d : Int), cnt q n d ≤ cnt p n d
  | 0, d => by simp [cnt]
  | n + 1, d => by
    have := cnt_le p q h n (d + 1)
    rw [cnt, cnt]
    have := h d
    cases hq : q d <;> cases hp : p d <;> simp_all <;> omega
theorem cnt_congr (p q : Int → Bool) : ∀ (n : Nat) (d : Int), (∀ x, d ≤ x → x < d + n → q x = p x) → cnt q n d = cnt p n d
  | 0, d, _ => by simp [cnt]
  | n + 1, d, h => by
    have := cnt_congr p q n (d + 1) (fun x h1 h2 => h x (by omega) (by omega))
    rw [cnt, cnt, this, h d (by omega) (by omega)]
theorem cnt_last (p : Int → Bool) (n : Nat) (d : Int) (h : p (d + n) = true) : 1 ≤ cnt p (n + 1) d := by
  have := cnt_add p 1 n d
  have h2 := (cnt_range p n d).1
  rw [this, cnt, if_pos h, cnt]
  omega
/-- d' is where n days have counted from the day after d on -/
def Adv (p : Int → Bool) (n d d' : Int) : Prop := ∃ m : Nat, d' = d + m ∧ cnt p m (d + 1) = n ∧ (m = 0 ∨ p d' = true)
theorem Adv.le {p : Int → Bool} {n d d' : Int} (h : Adv p n d d') : d ≤ d' := by
  obtain ⟨m, h1, _⟩ := h
  omega
theorem Adv.mono {p q : Int → Bool} {n m d e x y : Int} (h1 : Adv p n d x) (h2 : Adv q m e y) (hqp : ∀ z, q z = true → p z = true) (hde : d ≤ e) (hnm : n ≤ m) : x ≤ y := by
  apply Classical.byContradiction
  intro hn
  obtain ⟨a, rfl, ha, ha2⟩ := h1
  obtain ⟨b, rfl, hb, _⟩ := h2
  obtain ⟨u, hu⟩ : ∃ u : Nat, e = d + u := ⟨(e - d).toNat, by omega⟩
  obtain ⟨v, hv⟩ : ∃ v : Nat, a = u + b + (v + 1) := ⟨a - (u + b) - 1, by omega⟩
  have hp : p (d + a) = true := by rcases ha2 with h | h; · omega
                                   · exact h
  have c1 := cnt_add p (v + 1) (u + b) (d + 1)
  have c2 := cnt_add p b u (d + 1)
  have c3 := cnt_last p v (d + 1 + ((u + b : Nat) : Int)) (by rw [show d + 1 + ((u + b : Nat) : Int) + (v : Int) = d + a by omega]; exact hp)
  have c4 := cnt_le p q hqp b (d + 1 + u)
  have c5 := (cnt_range p u (d + 1)).1
  rw [← hv] at c1
  rw [show e + 1 = d + 1 + (u : Int) by omega] at hb
  omega
theorem Adv.congr {p q : Int → Bool} {n d x : Int} (h : Adv p n d x) (hpq : ∀ z, d < z → z ≤ x → q z = p z) : Adv q n d x := by
  obtain ⟨m, h1, h2, h3⟩ := h
  refine ⟨m, h1, ?_, ?_⟩
  · rw [cnt_congr p q m (d + 1) (fun z z1 z2 => hpq z (by omega) (by omega))]; exact h2
  · rcases h3 with h | h
    · exact Or.inl h
    · by_cases hm : m = 0
      · exact Or.inl hm
      · exact Or.inr (by rw [hpq x (by omega) (by omega)]; exact h)
theorem Adv.all {n d : Int} (h : 0 ≤ n) : Adv (fun _ => true) n d (d + n) := by
  have hc : ∀ (m : Nat) (d : Int), cnt (fun _ => true) m d = m := by
    intro m
    induction m with
    | zero => intro d; rfl
    | succ m ih => intro d; rw [cnt, ih]; simp; omega
  refine ⟨n.toNat, by omega, by rw [hc]; omega, Or.inr rfl⟩
theorem Adv.exists (p : Int → Bool) : ∀ (M : Nat) (n d : Int), 0 ≤ n → n ≤ cnt p M (d + 1) → ∃ d', Adv p n d d' ∧ d' ≤ d + M
  | 0, n, d, h0, h => by
    rw [cnt] at h
    exact ⟨d, ⟨0, by simp, by rw [cnt]; omega, Or.inl rfl⟩, by simp⟩
  | M + 1, n, d, h0, h => by
    by_cases hn : n = 0
    · exact ⟨d, ⟨0, by simp, by rw [cnt]; omega, Or.inl rfl⟩, by omega⟩
    · rw [cnt] at h
      by_cases hp : p (d + 1) = true
      · rw [if_pos hp] at h
        obtain ⟨d', ⟨m, h1, h2, h3⟩, h4⟩ := Adv.exists p M (n - 1) (d + 1) (by omega) (by omega)
        refine ⟨d', ⟨m + 1, by omega, ?_, ?_⟩, by omega⟩
        · rw [cnt, if_pos hp, h2]; omega
        · rcases h3 with h | h
          · subst h; right; rw [h1]; simpa using hp
          · exact Or.inr h
      · rw [if_neg hp] at h
        obtain ⟨d', ⟨m, h1, h2, h3⟩, h4⟩ := Adv.exists p M n (d + 1) (by omega) (by omega)
        refine ⟨d', ⟨m + 1, by omega, ?_, ?_⟩, by omega⟩
        · rw [cnt, if_neg hp, h2]; omega
        · rcases h3 with h | h
          · subst h; rw [cnt] at h2; omega
          · exact Or.inr h
/-- x is the first day from d on that passes -/
def Nxt (g : Int → Bool) (d x : Int) : Prop := d ≤ x ∧ g x = true ∧ ∀ z, d ≤ z → z < x → g z = false
theorem Nxt.mono {g q : Int → Bool} {d e x y : Int} (h1 : Nxt g d x) (h2 : Nxt q e y) (hqg : ∀ z, q z = true → g z = true) (hde : d ≤ e) : x ≤ y := by
  apply Classical.byContradiction
  intro hn
  have := h1.2.2 y (by have := h2.1; omega) (by omega)
  rw [hqg y h2.2.1] at this
  exact absurd this (by decide)
theorem Nxt.congr {g q : Int → Bool} {d x : Int} (h : Nxt g d x) (hq : ∀ z, d ≤ z → z ≤ x → q z = g z) : Nxt q d x :=
  ⟨h.1, by rw [hq x h.1 (by omega)]; exact h.2.1, fun z h1 h2 => by rw [hq z h1 (by omega)]; exact h.2.2 z h1 h2⟩
theorem Nxt.unique {g : Int → Bool} {d x y : Int} (h1 : Nxt g d x) (h2 : Nxt g d y) : x = y := by
  have := h1.mono h2 (fun _ h => h) (by omega)
  have := h2.mono h1 (fun _ h => h) (by omega)
  omega
theorem Adv.unique {p : Int → Bool} {n d x y : Int} (h1 : Adv p n d x) (h2 : Adv p n d y) : x = y := by
  have := h1.mono h2 (fun _ h => h) (by omega) (by omega)
  have := h2.mono h1 (fun _ h => h) (by omega) (by omega)
  omega
theorem Nxt.exists (g : Int → Bool) : ∀ (M : Nat) (d z : Int), d ≤ z → z ≤ d + M → g z = true → ∃ x, Nxt g d x ∧ x ≤ z
  | 0, d, z, h1, h2, h3 => ⟨z, ⟨h1, h3, fun w h4 h5 => by omega⟩, by omega⟩
  | M + 1, d, z, h1, h2, h3 => by
    by_cases hg : g d = true
    · exact ⟨d, ⟨by omega, hg, fun w h4 h5 => by omega⟩, h1⟩
    · have hz : d ≠ z := by rintro rfl; exact hg h3
      obtain ⟨x, ⟨a, b, c⟩, hx⟩ := Nxt.exists g M (d + 1) z (by omega) (by omega) h3
      refine ⟨x, ⟨by omega, b, fun w h4 h5 => ?_⟩, hx⟩
      by_cases hw : w = d
      · subst hw; simpa using hg
      · exact c w (by omega) h5
/-- a gap of G days at most: so many days count -/
theorem cnt_gap (p : Int → Bool) (G : Nat) (hi : Int) (h : ∀ d, 0 ≤ d → d + G ≤ hi → ∃ x, d ≤ x ∧ x ≤ d + G ∧ p x = true) : ∀ (n : Nat) (d : Int), 0 ≤ d → d + n * (G + 1) ≤ hi → (n : Int) ≤ cnt p (n * (G + 1)) d
  | 0, d, _, _ => by simp [cnt]
  | n + 1, d, h0, h1 => by
    rw [show ((n + 1 : Nat) : Int) * ((G : Int) + 1) = n * (G + 1) + (G + 1) by rw [Int.natCast_add, Int.add_mul]; omega] at h1
    have hpos : 0 ≤ (n : Int) * ((G : Int) + 1) := Int.mul_nonneg (by omega) (by omega)
    obtain ⟨x, x1, x2, x3⟩ := h d h0 (by omega)
    have ih := cnt_gap p G hi h n (d + (G + 1 : Nat)) (by omega) (by omega)
    obtain ⟨u, hu⟩ : ∃ u : Nat, x = d + u := ⟨(x - d).toNat, by omega⟩
    obtain ⟨v, hv⟩ : ∃ v : Nat, G + 1 = (u + 1) + v := ⟨G + 1 - (u + 1), by omega⟩
    have c1 := cnt_add p (n * (G + 1)) (G + 1) d
    have c2 := cnt_add p v (u + 1) d
    have c3 := cnt_last p u d (by rw [← hu]; exact x3)
    have c4 := (cnt_range p v (d + ((u + 1 : Nat) : Int))).1
    rw [← hv] at c2
    rw [show (n + 1) * (G + 1) = G + 1 + n * (G + 1) by rw [Nat.add_mul]; omega]
    omega
/-- a day in a pause -/
def inP (p q d : Int) : Bool := decide (p ≤ d ∧ d < q)
theorem cnt_inP (p q : Int) : ∀ (n : Nat) (d : Int), cnt (inP p q) n d ≤ max 0 (q - max p d)
  | 0, d => by rw [cnt]; omega
  | n + 1, d => by
    have := cnt_inP p q n (d + 1)
    rw [cnt]
    by_cases h : p ≤ d ∧ d < q
    · rw [if_pos (show inP p q d = true from decide_eq_true h)]; omega
    · rw [if_neg (by simpa [inP] using h)]; omega
theorem cnt_out (w : Int → Bool) (p q : Int) : ∀ (n : Nat) (d : Int), cnt w n d ≤ cnt (fun x => !inP p q x && w x) n d + cnt (inP p q) n d
  | 0, d => by simp [cnt]
  | n + 1, d => by
    have := cnt_out w p q n (d + 1)
    rw [cnt, cnt, cnt]
    cases h1 : w d <;> cases h2 : inP p q d <;> simp_all <;> omega
theorem cnt_list (p : Int → Bool) : ∀ (n : Nat) (d : Int) (l : List Int), (l.Pairwise fun a b => a < b) → (∀ x ∈ l, d ≤ x ∧ x < d + n ∧ p x = true) → (l.length : Int) ≤ cnt p n d
  | 0, d, [], _, _ => by simp [cnt]
  | 0, d, x :: l, _, h => by have := h x (by simp); omega
  | n + 1, d, [], _, _ => by have := cnt_range p (n + 1) d; simp; omega
  | n + 1, d, x :: l, hp, h => by
    have hx := h x (by simp)
    have h' := List.pairwise_cons.1 hp
    by_cases hd : x = d
    · have := cnt_list p n (d + 1) l h'.2 (fun z hz => by have := h'.1 z hz; have := h z (by simp [hz]); exact ⟨by omega, by omega, this.2.2⟩)
      rw [cnt, ← hd, if_pos hx.2.2, List.length_cons, hd]
      omega
    · have := cnt_list p n (d + 1) (x :: l) hp (fun z hz => by
        have h1 := h z hz
        rcases List.mem_cons.1 hz with rfl | hz
        · exact ⟨by omega, by omega, h1.2.2⟩
        · have := h'.1 z hz; exact ⟨by omega, by omega, h1.2.2⟩)
      rw [cnt]
      split <;> omega
theorem many_free (c : List S80) (hg : ∀ s ∈ c, GoodRule s) (hlen : c.length ≤ 2) (b0 b1 b2 b3 b4 b5 b6 : Bool) (hol : Int → Bool) (hhol : ∀ d, 0 ≤ d → d ≤ 1048575 → Ev (fun k => feast_Is.f k b0 b1 b2 b3 b4 b5 b6 c d) (hol d)) (d : Int) (d0 : 0 ≤ d) (d1 : d + 200 ≤ 1048575) (wk : Int → Bool) (hwk : ∀ x, (x % 7 = 0 ∨ x % 7 = 1 ∨ x % 7 = 3 ∨ x % 7 = 4) → hol x = false → wk x = true) :
    106 ≤ cnt wk 200 d := by
  classical
  obtain ⟨pf, hpf⟩ := pf_of
  obtain ⟨m0, hm0⟩ : ∃ m, m = d + (7 - d % 7) % 7 := ⟨_, rfl⟩
  obtain ⟨e, he⟩ : ∃ e : Nat → Int, ∀ i, e i = m0 + 7 * ((i / 4 : Nat) : Int) + ((i % 4 : Nat) : Int) + (((i % 4) / 2 : Nat) : Int) := ⟨_, fun _ => rfl⟩
  have hmem : ∀ x ∈ (List.range 112).map e, d ≤ x ∧ x < d + 200 ∧ (x % 7 = 0 ∨ x % 7 = 1 ∨ x % 7 = 3 ∨ x % 7 = 4) := by
    intro x hx
    obtain ⟨i, hi, rfl⟩ := List.mem_map.1 hx
    have := List.mem_range.1 hi
    have h0 : m0 % 7 = 0 := by omega
    have hr : i % 4 = 0 ∨ i % 4 = 1 ∨ i % 4 = 2 ∨ i % 4 = 3 := by omega
    rw [he]
    rcases hr with h | h | h | h <;> rw [h] <;> omega
  have hy0 := year_top (hpf d d0 (by omega)).2
  have hc := count_rules (fun x => (pf x).1) (fun x => 0 ≤ x ∧ x ≤ 1048575) (fun a b ha hb hab => by
      have h1 := year_top (hpf a ha.1 ha.2).2
      have h2 := year_top (hpf b hb.1 hb.2).2
      apply Classical.byContradiction
      intro hn
      have := F_mono (pf b).1 (pf a).1 (by omega)
      omega) (pf d).1 (fun (s : S80) x => decide (Ev (fun k => feast_meets.f k s.f0 s.f1 s.f2 s.f3 s.f4 x) true)) c (((List.range 112).map e).filter hol)
    (fun s hs a b ha hb hsa hsb he => by
      have ea := of_decide_eq_true hsa
      have eb := of_decide_eq_true hsb
      have pa := (hpf a ha.1 ha.2).2
      have pb := (hpf b hb.1 hb.2).2
      obtain ⟨v, hv⟩ := meets_at s (hg s hs) (pf a).1 pa.y1 (IsPartsB pa ha.2)
      obtain ⟨x, hx, hx2⟩ := hv a _ _ pa ha.1 ha.2
      obtain ⟨z, hz, hz2⟩ := hv b _ _ (by rw [he]; exact pb) hb.1 hb.2
      rw [hx2 (Ev.unique hx ea), hz2 (Ev.unique hz eb)])
    (fun x hx => by have := hmem x (List.mem_filter.1 hx).1; omega)
    (fun x hx => by
      have h1 := hmem x (List.mem_filter.1 hx).1
      have h2 := year_top (hpf x (by omega) (by omega)).2
      constructor
      · apply Classical.byContradiction
        intro hn
        have := F_mono (pf x).1 (pf d).1 (by omega)
        by_cases hxd : x = d
        · subst hxd; omega
        · omega
      · apply Classical.byContradiction
        intro hn
        have h4 := F_mono (pf d).1 ((pf d).1 + 1) (by omega)
        have h5 := F_mono ((pf d).1 + 1) ((pf d).1 + 2) (by omega)
        have h6 := F_mono ((pf d).1 + 2) (pf x).1 (by omega)
        omega)
    (fun x hx => by
      have h1 := hmem x (List.mem_filter.1 hx).1
      have h2 := hhol x (by omega) (by omega)
      rw [(List.mem_filter.1 hx).2] at h2
      have h3 : Ev (fun k => feast_Is.any k x c) true := by
        refine Ev.congr (fun k => ?_) h2
        simp only [feast_Is.f]
        rw [if_pos ⟨by omega, by omega⟩, if_pos (by omega)]
      obtain ⟨s, hs, he⟩ := any_hit x (by omega) (by omega) c hg h3
      exact ⟨s, hs, decide_eq_true he⟩)
    (List.Pairwise.filter _ (by
      rw [List.pairwise_map]
      exact List.Pairwise.imp (fun {a b} hab => by rw [he, he]; omega) List.pairwise_lt_range))
  have hf := filter_len hol ((List.range 112).map e)
  rw [List.length_map, List.length_range] at hf
  have hb := cnt_list wk 200 d (((List.range 112).map e).filter fun x => !hol x) (List.Pairwise.filter _ (by
      rw [List.pairwise_map]
      exact List.Pairwise.imp (fun {a b} hab => by rw [he, he]; omega) List.pairwise_lt_range)) (fun x hx => by
    obtain ⟨q1, q2⟩ := List.mem_filter.1 hx
    have q3 := hmem x q1
    exact ⟨q3.1, q3.2.1, hwk x q3.2.2 (by simpa using q2)⟩)
  omega
/-- the days that count -/
def Cn (inb wk : Int → Bool) (work : Bool) (x : Int) : Bool := !inb x && (!work || wk x)
def Gn (inb wk : Int → Bool) (x : Int) : Bool := wk x && !inb x
theorem walk_l1 (wk inb : Int → Bool) (b0 b1 b2 b3 b4 b5 b6 : Bool) (c : List S80) (l : List S81) (hw : ∀ d, 0 ≤ d → d ≤ 1048575 → Ev (fun k => feast_Works.f k b0 b1 b2 b3 b4 b5 b6 c d) (wk d)) (hi : ∀ d, 0 ≤ d → d ≤ 1048575 → Ev (fun k => due_in.f k l d) (inb d)) (x : Int) (hx : x ≤ 1048575) (n : Nat) :
    ∀ (d i : Int), 0 ≤ d → 0 ≤ i → i + n ≤ 400 → d + n = x → Nxt (Gn inb wk) d x → Ev (fun k => due_walk.l1 k d l i b0 b1 b2 b3 b4 b5 b6 c) (x, 0) := by
  induction n with
  | zero =>
    intro d i d0 i0 i1 hd hn
    obtain rfl : d = x := by omega
    have h1 := hn.2.1
    simp only [Gn, Bool.and_eq_true, Bool.not_eq_true'] at h1
    refine Ev.step (f := fun k => (feast_Works.f k b0 b1 b2 b3 b4 b5 b6 c d).bind fun t210 => (if t210 = true then ((due_in.f k l d).bind fun t211 => (if t211 = true then (due_walk.l1 k (wrap64 (d + 1)) l (wrap64 (i + 1)) b0 b1 b2 b3 b4 b5 b6 c) else (some (d, 0)))) else (due_walk.l1 k (wrap64 (d + 1)) l (wrap64 (i + 1)) b0 b1 b2 b3 b4 b5 b6 c))) (fun k => ?_) ?_
    · simp only [due_walk.l1]
      rw [if_pos (by omega)]
    · exact Ev.bind (hw d d0 hx) (Ev.ifp h1.1 (Ev.bind (hi d d0 hx) (Ev.ifn (by rw [h1.2]; decide) (Ev.now _))))
  | succ n ih =>
    intro d i d0 i0 i1 hd hn
    have h1 := hn.2.2 d (by omega) (by omega)
    have hr := ih (d + 1) (i + 1) (by omega) (by omega) (by omega) (by omega) ⟨by omega, hn.2.1, fun z h2 h3 => hn.2.2 z (by omega) h3⟩
    refine Ev.step (f := fun k => (feast_Works.f k b0 b1 b2 b3 b4 b5 b6 c d).bind fun t210 => (if t210 = true then ((due_in.f k l d).bind fun t211 => (if t211 = true then (due_walk.l1 k (d + 1) l (i + 1) b0 b1 b2 b3 b4 b5 b6 c) else (some (d, 0)))) else (due_walk.l1 k (d + 1) l (i + 1) b0 b1 b2 b3 b4 b5 b6 c))) (fun k => ?_) ?_
    · simp only [due_walk.l1]
      rw [if_pos (by omega), w64 (x := d + 1) (by omega) (by omega), w64 (x := i + 1) (by omega) (by omega)]
    · refine Ev.bind (hw d d0 (by omega)) ?_
      cases hk : wk d with
      | false => exact Ev.ifn (by decide) hr
      | true =>
        have h2 : inb d = true := by
          simp only [Gn, hk, Bool.true_and, Bool.not_eq_false'] at h1
          exact h1
        exact Ev.ifp rfl (Ev.bind (hi d d0 (by omega)) (Ev.ifp h2 hr))
theorem walk_l0 (wk inb : Int → Bool) (work : Bool) (b0 b1 b2 b3 b4 b5 b6 : Bool) (c : List S80) (l : List S81) (hw : ∀ d, 0 ≤ d → d ≤ 1048575 → Ev (fun k => feast_Works.f k b0 b1 b2 b3 b4 b5 b6 c d) (wk d)) (hi : ∀ d, 0 ≤ d → d ≤ 1048575 → Ev (fun k => due_in.f k l d) (inb d)) (x : Int) (hx : x ≤ 1048575) (r : Int × Int) (hr : Ev (fun k => due_walk.l1 k x l 0 b0 b1 b2 b3 b4 b5 b6 c) r) (m : Nat) :
    ∀ (d n : Int), 0 ≤ d → d + m = x → cnt (Cn inb wk work) m (d + 1) = n → (m = 0 ∨ Cn inb wk work x = true) → Ev (fun k => due_walk.l0 k work d n l b0 b1 b2 b3 b4 b5 b6 c) r := by
  induction m with
  | zero =>
    intro d n d0 hd hn _
    obtain rfl : d = x := by omega
    rw [cnt] at hn
    subst hn
    refine Ev.step (fun k => ?_) hr
    simp only [due_walk.l0]
    rw [if_neg (by omega)]
  | succ m ih =>
    intro d n d0 hd hn hc
    have hcx : Cn inb wk work x = true := by rcases hc with h | h; · exact absurd h (by omega)
                                             · exact h
    have hpos : 1 ≤ cnt (Cn inb wk work) (m + 1) (d + 1) := cnt_last _ m (d + 1) (by rw [show d + 1 + (m : Int) = x by omega]; exact hcx)
    have hle := (cnt_range (Cn inb wk work) (m + 1) (d + 1)).2
    rw [cnt] at hn
    have hs : ∀ k, due_walk.l0 (k + 1) work d n l b0 b1 b2 b3 b4 b5 b6 c = (due_in.f k l (d + 1)).bind fun t208 => (if t208 = true then (due_walk.l0 k work (d + 1) n l b0 b1 b2 b3 b4 b5 b6 c) else (if work = true then ((feast_Works.f k b0 b1 b2 b3 b4 b5 b6 c (d + 1)).bind fun t209 => (if t209 = true then (due_walk.l0 k work (d + 1) (n - 1) l b0 b1 b2 b3 b4 b5 b6 c) else (due_walk.l0 k work (d + 1) n l b0 b1 b2 b3 b4 b5 b6 c))) else (due_walk.l0 k work (d + 1) (n - 1) l b0 b1 b2 b3 b4 b5 b6 c))) := by
      intro k
      rw [cnt] at hpos hle
      simp only [due_walk.l0]
      rw [if_pos (by omega), w64 (x := d + 1) (by omega) (by omega), w64 (x := n - 1) (by omega) (by omega), if_neg (by omega)]
    refine Ev.step hs (Ev.bind (hi (d + 1) (by omega) (by omega)) ?_)
    cases h1 : inb (d + 1) with
    | true =>
      rw [if_neg (by simp [Cn, h1]), Int.zero_add] at hn
      exact Ev.ifp rfl (ih (d + 1) n (by omega) (by omega) hn (.inr hcx))
    | false =>
      refine Ev.ifn (by decide) ?_
      cases h2 : work with
      | false =>
        rw [if_pos (by simp [Cn, h1, h2])] at hn
        have := ih (d + 1) (n - 1) (by omega) (by omega) (by omega) (.inr hcx)
        rw [h2] at this
        exact Ev.ifn (by decide) this
      | true =>
        refine Ev.ifp rfl (Ev.bind (hw (d + 1) (by omega) (by omega)) ?_)
        cases h3 : wk (d + 1) with
        | true =>
          rw [if_pos (by simp [Cn, h1, h3])] at hn
          have := ih (d + 1) (n - 1) (by omega) (by omega) (by omega) (.inr hcx)
          rw [h2] at this
          exact Ev.ifp rfl this
        | false =>
          rw [if_neg (by simp [Cn, h1, h2, h3]), Int.zero_add] at hn
          have := ih (d + 1) n (by omega) (by omega) hn (.inr hcx)
          rw [h2] at this
          exact Ev.ifn (by decide) this
theorem walk_of (wk inb : Int → Bool) (work : Bool) (b0 b1 b2 b3 b4 b5 b6 : Bool) (c : List S80) (l : List S81) (hw : ∀ d, 0 ≤ d → d ≤ 1048575 → Ev (fun k => feast_Works.f k b0 b1 b2 b3 b4 b5 b6 c d) (wk d)) (hi : ∀ d, 0 ≤ d → d ≤ 1048575 → Ev (fun k => due_in.f k l d) (inb d)) {d n x y : Int} (d0 : 0 ≤ d) (hx : Adv (Cn inb wk work) n d x) (hy : Nxt (Gn inb wk) x y) (h1 : y ≤ x + 400) (h2 : y ≤ 1048575) :
    Ev (fun k => due_walk.f k b0 b1 b2 b3 b4 b5 b6 c work d n l) (y, 0) := by
  have hle := hx.le
  have hyx := hy.1
  simp only [due_walk.f]
  obtain ⟨m, e, h3, h4⟩ := hx
  refine walk_l0 wk inb work b0 b1 b2 b3 b4 b5 b6 c l hw hi x (by omega) _ ?_ m d n d0 e.symm h3 h4
  exact walk_l1 wk inb b0 b1 b2 b3 b4 b5 b6 c l hw hi y h2 (y - x).toNat x 0 (by omega) (by omega) (by omega) (by omega) hy
theorem dcheck_of {u n : Int} (u0 : 0 ≤ u) (u1 : u ≤ 4) (n0 : 0 ≤ n) (n1 : n ≤ 2000) : Ev (fun k => due_Check.f k u n) 0 := by
  simp only [due_Check.f]
  refine Ev.ifn (by omega) (Ev.step (f := fun _ => some 0) (fun k => ?_) (Ev.now _))
  simp only [due_Check.j0]
  rw [decide_eq_false (by omega), if_neg (by decide), if_neg (by omega), if_neg (by omega)]
/-- the last day of a period that is not of worked days -/
def rawd (u n d y m k : Int) : Int := if u = 0 then d + n else if u = 2 then d + 7 * n else if u = 3 then later (mo y m) k n else later (mo y m) k (12 * n)
theorem later_n {M k n n' : Int} (h1 : 1 ≤ k) (hn : n ≤ n') : later M k n ≤ later M k n' := by
  by_cases e : n = n'
  · rw [e]; omega
  · have h2 := FM_mono (M + n) (M + n') (by omega)
    have h3 := later_month M n h1
    have h4 := later_month M n' h1
    unfold later
    omega
theorem later_zero {d y m k : Int} (hp : IsParts d y m k) : later (mo y m) k 0 = d := by
  unfold later
  have := hp.fm
  rw [Int.add_zero]; unfold mo; omega
theorem later_top {M k n : Int} (h1 : 1 ≤ k) (h : M + n < 24799) : later M k n < 760000 := by
  have h3 := later_month M n h1
  have h4 := FM_mono (M + n) 24799 h
  have h5 : FM 24799 ≤ 760000 := by decide
  unfold later
  omega
theorem rawd_ge {u n d y m k : Int} (hp : IsParts d y m k) (hn : 0 ≤ n) : d ≤ rawd u n d y m k := by
  have h0 := later_zero hp
  have h1 := later_n (M := mo y m) (k := k) (n := 0) (n' := n) hp.k1 hn
  have h2 := later_n (M := mo y m) (k := k) (n := 0) (n' := 12 * n) hp.k1 (by omega)
  unfold rawd
  split
  · omega
  · split
    · omega
    · split <;> omega
theorem rawd_n {u n n' d y m k : Int} (hp : IsParts d y m k) (hn : n ≤ n') : rawd u n d y m k ≤ rawd u n' d y m k := by
  have h1 := later_n (M := mo y m) (k := k) (n := n) (n' := n') hp.k1 hn
  have h2 := later_n (M := mo y m) (k := k) (n := 12 * n) (n' := 12 * n') hp.k1 (by omega)
  unfold rawd
  split
  · omega
  · split
    · omega
    · split <;> omega
theorem rawd_d {u n d d' y m k y' m' k' : Int} (hp : IsParts d y m k) (hp' : IsParts d' y' m' k') (h : d ≤ d') : rawd u n d y m k ≤ rawd u n d' y' m' k' := by
  have e1 := hp.fm; have e2 := hp'.fm
  have h0 : FM (mo y m) + k - 1 ≤ FM (mo y' m') + k' - 1 := by unfold mo; omega
  have h1 := later_mono (n := n) hp.k1 hp'.k1 hp'.fm.2 h0
  have h2 := later_mono (n := 12 * n) hp.k1 hp'.k1 hp'.fm.2 h0
  unfold mo at *
  unfold rawd mo
  split
  · omega
  · split
    · omega
    · split <;> omega
theorem rawd_top {u n d y m k : Int} (hp : IsParts d y m k) (d0 : 700000 ≤ d) (d1 : d ≤ 740050) (n0 : 0 ≤ n) (n1 : n ≤ 30) : rawd u n d y m k < 760000 := by
  have hr := mo_range hp d0 d1
  have h1 := later_top (M := mo y m) (n := n) hp.k1 (by omega)
  have h2 := later_top (M := mo y m) (n := 12 * n) hp.k1 (by omega)
  unfold rawd
  split
  · omega
  · split
    · omega
    · split <;> omega
theorem raw3_of {n d y m k : Int} (hp : IsParts d y m k) (d0 : 700000 ≤ d) (d1 : d ≤ 740050) (n0 : 0 ≤ n) (n1 : n ≤ 99) : Ev (fun c => due_Raw.f c 3 n d) (later (mo y m) k n, 0) ∧ d ≤ later (mo y m) k n ∧ later (mo y m) k n < 760000 := by
  have hr := mo_range hp d0 d1
  have hd := dcheck_of (u := 3) (by omega) (by omega) n0 (by omega : n ≤ 2000)
  have ht := later_top (M := mo y m) (n := n) hp.k1 (by omega)
  have hg := rawd_ge (u := 3) hp n0
  rw [show rawd 3 n d y m k = later (mo y m) k n from rfl] at hg
  have hm : 12 * (y - 1) + m - 1 = mo y m := rfl
  have hM := month_of (by omega) (by omega) hp
  rw [hm] at hM
  refine ⟨?_, hg, ht⟩
  have h1 := months_of (n := n) (by omega) (by omega) hp (by omega) (by omega) (by omega) (by omega)
  simp only [due_Raw.f]
  refine Ev.bind hd (Ev.ifp rfl (Ev.ifn (by omega) ?_))
  refine Ev.step (f := fun c => (day_Months.f c d n).bind fun t199 => ((day_Month.f c d).bind fun t200 => ((day_Month.f c 1048575).bind fun t201 => (if wrap64 (t200 + n) > t201 then none else (if t199 > 1048575 then none else (some (t199, 0))))))) (fun c => ?_) ?_
  · simp only [due_Raw.j0]
    rw [decide_eq_false (by omega), if_neg (by decide), if_neg (by decide), if_neg (by decide), if_neg (by decide), if_pos trivial]
  · exact Ev.bind h1 (Ev.bind hM (Ev.bind month_max (Ev.ifn (by rw [w64 (by omega) (by omega)]; omega) (Ev.ifn (by omega) (Ev.now _)))))
/-- a calendar with no holiday at all -/
theorem works_all (d : Int) (d0 : 0 ≤ d) (d1 : d ≤ 1048575) : Ev (fun k => feast_Works.f k false false false false false false false ([] : List S80) d) true := by
  have hw : day_Week.f d = some (d % 7) := by
    unfold day_Week.f
    rw [clamp_of _ d0 d1]
    simp only [Option.bind_some]
    rw [tmodnn d0]
  have hk : feast_Works.wk false false false false false false false (d % 7) = false := by
    unfold feast_Works.wk
    repeat (split; rfl)
    rfl
  simp only [feast_Works.f, hw, Option.bind_some]
  refine Ev.ifp ⟨d0, d1⟩ (Ev.ifp ⟨by omega, by omega⟩ (Ev.ifn (by rw [hk]; decide) ?_))
  have hI : Ev (fun k => feast_Is.f k false false false false false false false ([] : List S80) d) false := by
    simp only [feast_Is.f]
    refine Ev.ifp ⟨d0, d1⟩ (Ev.ifp (by simp) ?_)
    exact Ev.congr (fun k => by rw [feast_Is.any]) (Ev.now false)
  exact Ev.bind hI (Ev.now _)
theorem in_nil (d : Int) : Ev (fun k => due_in.f k [] d) false := by
  refine Ev.step (f := fun _ => some false) (fun k => ?_) (Ev.now _)
  simp [due_in.f, due_in.l0]
theorem pauses_nil : Ev (fun k => due_pauses.f k []) 0 := by
  refine Ev.step (f := fun _ => some 0) (fun k => ?_) (Ev.now _)
  simp [due_pauses.f, due_pauses.l0]
theorem paused_of (wk inb : Int → Bool) (b1 b2 b3 b4 b5 b6 : Bool) (c : List S80) (l : List S81) (hg : ∀ s ∈ c, GoodRule s) (hl : c.length ≤ 60) (hw : ∀ d, 0 ≤ d → d ≤ 1048575 → Ev (fun k => feast_Works.f k false b1 b2 b3 b4 b5 b6 c d) (wk d)) (hi : ∀ d, 0 ≤ d → d ≤ 1048575 → Ev (fun k => due_in.f k l d) (inb d)) (hp : Ev (fun k => due_pauses.f k l) 0)
    {u n d m x y : Int} (u0 : 0 ≤ u) (u1 : u ≤ 4) (n0 : 0 ≤ n) (n1 : n ≤ 2000) (d0 : 0 ≤ d) (d1 : d ≤ 1048575) (hm : u = 1 ∧ m = n ∨ u ≠ 1 ∧ ∃ e, Ev (fun k => due_Raw.f k u n d) (e, 0) ∧ m = e - d ∧ d ≤ e ∧ e ≤ 1048575)
    (hx : Adv (Cn inb wk (u == 1)) m d x) (hy : Nxt (Gn inb wk) x y) (h1 : y ≤ x + 400) (h2 : y ≤ 1048575) :
    Ev (fun k => due_Paused.f k false b1 b2 b3 b4 b5 b6 c u n d l) (y, 0) := by
  have hW := walk_of wk inb (u == 1) false b1 b2 b3 b4 b5 b6 c l hw hi d0 hx hy h1 h2
  simp only [due_Paused.f]
  refine Ev.bind (fCheck_of _ _ _ _ _ _ c hg hl) (Ev.ifp rfl (Ev.bind (dcheck_of u0 u1 n0 n1) (Ev.ifp rfl (Ev.ifn (by omega) ?_))))
  refine Ev.step (f := fun k => (due_pauses.f k l).bind fun t216 => (if t216 = 0 then (if u = 1 then ((due_walk.f k false b1 b2 b3 b4 b5 b6 c true d n l).bind fun bt217 => (some (bt217.1, bt217.2))) else ((due_Raw.f k u n d).bind fun bt219 => (if bt219.2 = 0 then ((due_walk.f k false b1 b2 b3 b4 b5 b6 c false d (wrap64 (bt219.1 - d)) l).bind fun bt221 => (some (bt221.1, bt221.2))) else (some (0, bt219.2))))) else (some (0, t216)))) (fun k => ?_) ?_
  · simp only [due_Paused.j0]
    rw [decide_eq_false (by omega), if_neg (by decide)]
  · refine Ev.bind hp (Ev.ifp rfl ?_)
    rcases hm with ⟨hu, rfl⟩ | ⟨hu, e, he, rfl, e0, e1⟩
    · rw [show (u == 1) = true by simp [hu]] at hW
      exact Ev.ifp hu (Ev.bind hW (Ev.now _))
    · rw [show (u == 1) = false by simp [hu]] at hW
      refine Ev.ifn hu (Ev.bind he (Ev.ifp rfl ?_))
      simp only
      rw [w64 (x := e - d) (by omega) (by omega)]
      exact Ev.bind hW (Ev.now _)
theorem in_one (p q d : Int) : Ev (fun k => due_in.f k [(⟨p, q⟩ : S81)] d) (inP p q d) := by
  refine Ev.step (f := fun k => if p ≤ d then (if d < q then some true else due_in.l0 k d [(⟨p, q⟩ : S81)] 1 1) else due_in.l0 k d [(⟨p, q⟩ : S81)] 1 1) (fun k => ?_) ?_
  · simp [due_in.f, due_in.l0, rd_T81, wrap64]
  · have hl : Ev (fun k => due_in.l0 k d [(⟨p, q⟩ : S81)] 1 1) false := by
      refine Ev.step (f := fun _ => some false) (fun k => ?_) (Ev.now _)
      simp [due_in.l0]
    by_cases h1 : p ≤ d
    · by_cases h2 : d < q
      · rw [show inP p q d = true from decide_eq_true ⟨h1, h2⟩]
        exact Ev.ifp h1 (Ev.ifp h2 (Ev.now _))
      · rw [show inP p q d = false from decide_eq_false (fun h => h2 h.2)]
        exact Ev.ifp h1 (Ev.ifn h2 hl)
    · rw [show inP p q d = false from decide_eq_false (fun h => h1 h.1)]
      exact Ev.ifn h1 hl
theorem pauses_one (p q : Int) (h0 : 0 ≤ p) (h1 : p ≤ q) (h2 : q ≤ 1048576) : Ev (fun k => due_pauses.f k [(⟨p, q⟩ : S81)]) 0 := by
  refine Ev.step (f := fun k => due_pauses.l0 k [(⟨p, q⟩ : S81)] 1 1) (fun k => ?_) ?_
  · simp only [due_pauses.f, due_pauses.l0, List.length_cons, List.length_nil]
    rw [if_neg (by omega), if_pos (by omega), if_pos (by omega), if_pos (by omega)]
    have e : (rd_T81 [(⟨p, q⟩ : S81)] 0) = ⟨p, q⟩ := rfl
    rw [e]
    simp only
    rw [if_neg (by omega), if_neg (by omega), if_neg (by omega)]
    simp [wrap64]
  · refine Ev.step (f := fun _ => some 0) (fun k => ?_) (Ev.now _)
    simp [due_pauses.l0]
/-! #### sets of days -/
def spM : Int := 1048576
def spHas (l : List S82) (d : Int) : Prop := ∃ s ∈ l, s.f0 ≤ d ∧ d < s.f1
/-- normal form: within [lo, M], in order, with a day between two -/
def NF (M : Int) : Int → List S82 → Prop
  | _, [] => True
  | lo, s :: t => lo ≤ s.f0 ∧ s.f0 < s.f1 ∧ s.f1 ≤ M ∧ NF M (s.f1 + 1) t
theorem spHas_nil (d : Int) : ¬ spHas [] d := by rintro ⟨s, h, _⟩; simp at h
theorem spHas_cons (s : S82) (t : List S82) (d : Int) : spHas (s :: t) d ↔ (s.f0 ≤ d ∧ d < s.f1) ∨ spHas t d := by
  unfold spHas
  constructor
  · rintro ⟨x, h, h1, h2⟩
    rcases List.mem_cons.1 h with rfl | h
    · exact .inl ⟨h1, h2⟩
    · exact .inr ⟨x, h, h1, h2⟩
  · rintro (⟨h1, h2⟩ | ⟨x, h, h1, h2⟩)
    · exact ⟨s, List.mem_cons_self .., h1, h2⟩
    · exact ⟨x, List.mem_cons_of_mem _ h, h1, h2⟩
theorem spHas_append (a b : List S82) (d : Int) : spHas (a ++ b) d ↔ spHas a d ∨ spHas b d := by
  induction a with
  | nil => simp [spHas_nil]
  | cons s t ih => rw [List.cons_append, spHas_cons, spHas_cons, ih, or_assoc]
theorem NF.low {M : Int} : ∀ {l : List S82} {lo d : Int}, NF M lo l → spHas l d → lo ≤ d ∧ d < M
  | [], _, _, _, h => absurd h (spHas_nil _)
  | s :: t, lo, d, ⟨h1, h2, h3, h4⟩, h => by
    rcases (spHas_cons s t d).1 h with h | h
    · omega
    · have := NF.low h4 h; omega
theorem NF.weaken {M lo lo' : Int} {l : List S82} (h : NF M lo l) (hl : lo' ≤ lo) : NF M lo' l := by
  cases l with
  | nil => trivial
  | cons s t => exact ⟨by have := h.1; omega, h.2⟩
theorem NF.tighten {M M' : Int} : ∀ {l : List S82} {lo : Int}, NF M lo l → (∀ d, spHas l d → d < M') → NF M' lo l
  | [], _, _, _ => trivial
  | s :: t, lo, ⟨h1, h2, h3, h4⟩, h => ⟨h1, h2, by have := h (s.f1 - 1) ((spHas_cons ..).2 (.inl (by omega))); omega, NF.tighten h4 (fun d hd => h d ((spHas_cons ..).2 (.inr hd)))⟩
theorem NF.unique {M : Int} : ∀ {a b : List S82} {lo : Int}, NF M lo a → NF M lo b → (∀ d, spHas a d ↔ spHas b d) → a = b
  | [], [], _, _, _, _ => rfl
  | [], u :: v, _, _, hb, h => absurd ((h u.f0).2 ((spHas_cons ..).2 (.inl (by have := hb.2.1; omega)))) (spHas_nil _)
  | s :: t, [], _, ha, _, h => absurd ((h s.f0).1 ((spHas_cons ..).2 (.inl (by have := ha.2.1; omega)))) (spHas_nil _)
  | s :: t, u :: v, lo, ha, hb, h => by
    obtain ⟨a1, a2, a3, a4⟩ := ha
    obtain ⟨b1, b2, b3, b4⟩ := hb
    have lowA : ∀ d, spHas t d → s.f1 + 1 ≤ d := fun d hd => (NF.low a4 hd).1
    have lowB : ∀ d, spHas v d → u.f1 + 1 ≤ d := fun d hd => (NF.low b4 hd).1
    have toB : ∀ d, spHas (s :: t) d → (u.f0 ≤ d ∧ d < u.f1) ∨ u.f1 + 1 ≤ d := fun d hd => ((spHas_cons u v d).1 ((h d).1 hd)).imp id (lowB d)
    have toA : ∀ d, spHas (u :: v) d → (s.f0 ≤ d ∧ d < s.f1) ∨ s.f1 + 1 ≤ d := fun d hd => ((spHas_cons s t d).1 ((h d).2 hd)).imp id (lowA d)
    have inA : ∀ d, s.f0 ≤ d → d < s.f1 → spHas (s :: t) d := fun d p q => (spHas_cons ..).2 (.inl ⟨p, q⟩)
    have inB : ∀ d, u.f0 ≤ d → d < u.f1 → spHas (u :: v) d := fun d p q => (spHas_cons ..).2 (.inl ⟨p, q⟩)
    have e0 : s.f0 = u.f0 := by
      have x := toB s.f0 (inA _ (by omega) (by omega))
      have y := toA u.f0 (inB _ (by omega) (by omega))
      omega
    have e1 : s.f1 = u.f1 := by
      rcases Int.lt_trichotomy s.f1 u.f1 with g | g | g
      · have y := toA s.f1 (inB _ (by omega) (by omega)); omega
      · exact g
      · have y := toB u.f1 (inA _ (by omega) (by omega)); omega
    have e : s = u := by cases s; cases u; simp_all
    subst e
    congr 1
    refine NF.unique (lo := s.f1 + 1) a4 b4 fun d => ⟨fun hd => ?_, fun hd => ?_⟩
    · have l1 := lowA d hd
      rcases (spHas_cons s v d).1 ((h d).1 ((spHas_cons ..).2 (.inr hd))) with g | g
      · omega
      · exact g
    · have l1 := lowB d hd
      rcases (spHas_cons s t d).1 ((h d).2 ((spHas_cons ..).2 (.inr hd))) with g | g
      · omega
      · exact g
/-- the days of a raw list: each spell within all dates -/
def spFit (s : S82) : S82 := ⟨spell_fit.lm s.f0, spell_fit.lm s.f1⟩
theorem lm_range (n : Int) : 0 ≤ spell_fit.lm n ∧ spell_fit.lm n ≤ 1048576 := by unfold spell_fit.lm mx mn; repeat' split <;> omega
theorem lm_id {n : Int} (h0 : 0 ≤ n) (h1 : n ≤ 1048576) : spell_fit.lm n = n := by unfold spell_fit.lm mx mn; repeat' split <;> omega
theorem lm_lt {n d : Int} (h0 : 0 ≤ d) : d < spell_fit.lm n ↔ d < n ∧ d < 1048576 := by unfold spell_fit.lm mx mn; repeat' split <;> omega
theorem lm_le {n d : Int} (h1 : d < 1048576) : spell_fit.lm n ≤ d ↔ n ≤ d ∧ 0 ≤ d := by unfold spell_fit.lm mx mn; repeat' split <;> omega
def spGood (s : S82) : Bool := decide (s.f0 < s.f1)
def spAll (l : List S82) : List S82 := (l.map spFit).filter spGood
/-- the days that a list has within all dates -/
theorem spAll_has (l : List S82) (d : Int) : spHas (spAll l) d ↔ spHas l d ∧ 0 ≤ d ∧ d < 1048576 := by
  unfold spHas spAll
  constructor
  · rintro ⟨s, h, h1, h2⟩
    obtain ⟨h3, _⟩ := List.mem_filter.1 h
    obtain ⟨x, hx, rfl⟩ := List.mem_map.1 h3
    simp only [spFit] at h1 h2
    have r0 := lm_range x.f0
    have r1 := lm_range x.f1
    have := (lm_lt (n := x.f1) (d := d) (by omega)).1 h2
    have := (lm_le (n := x.f0) (d := d) (by omega)).1 h1
    exact ⟨⟨x, hx, by omega, by omega⟩, by omega, by omega⟩
  · rintro ⟨⟨x, hx, h1, h2⟩, h3, h4⟩
    have a := (lm_lt (n := x.f1) (d := d) h3).2 ⟨h2, h4⟩
    have b := (lm_le (n := x.f0) (d := d) h4).2 ⟨h1, h3⟩
    exact ⟨spFit x, List.mem_filter.2 ⟨List.mem_map.2 ⟨x, hx, rfl⟩, by simp only [spGood, spFit]; exact decide_eq_true (by omega)⟩, b, a⟩
theorem spAll_range {l : List S82} {s : S82} (h : s ∈ spAll l) : 0 ≤ s.f0 ∧ s.f0 < s.f1 ∧ s.f1 ≤ 1048576 := by
  obtain ⟨h3, h4⟩ := List.mem_filter.1 h
  obtain ⟨x, hx, rfl⟩ := List.mem_map.1 h3
  have r0 := lm_range x.f0
  have r1 := lm_range x.f1
  have := of_decide_eq_true h4
  simp only [spFit] at *
  omega
theorem spAll_length (l : List S82) : (spAll l).length ≤ l.length := by
  unfold spAll
  exact Nat.le_trans (List.length_filter_le _ _) (by simp)
/-- the sort -/
theorem spSort_of (l : List S82) (hl : l.length ≤ 1000000) (hr : ∀ s ∈ l, 0 ≤ s.f0 ∧ s.f0 ≤ 1048576) : ∃ r, spell_Sort.f l = some r ∧ r.length = l.length ∧ (∀ s, s ∈ r ↔ s ∈ l) ∧ r.Pairwise (fun a b => a.f0 ≤ b.f0) := by
  have hlm : ∀ s ∈ l, spell_Sort.lm s.f0 = s.f0 := fun s hs => lm_id (hr s hs).1 (hr s hs).2
  unfold spell_Sort.f
  by_cases h0 : l.length = 0
  · rw [if_pos h0]
    have : l = [] := List.length_eq_zero_iff.1 h0
    subst this
    exact ⟨[], rfl, rfl, fun _ => Iff.rfl, List.Pairwise.nil⟩
  · rw [if_neg h0, if_pos ⟨hl, List.all_eq_true.2 fun s hs => decide_eq_true (hlm s hs)⟩]
    have swo : Sort.SWO (ltOf spell_Sort.cf) := ⟨fun x => by unfold ltOf spell_Sort.cf; simp, fun x y z h1 h2 => by unfold ltOf spell_Sort.cf at *; simp at *; omega, fun x y z h1 h2 => by unfold ltOf spell_Sort.cf at *; simp at *; omega⟩
    have hp := Sort.pdq_sorts (ltOf spell_Sort.cf) swo l.toArray 0 l.toArray.size (Lib.bitLen l.toArray.size) true true (Nat.zero_le _) (Nat.le_refl _) (Or.inl rfl)
    refine ⟨_, rfl, ?_⟩
    unfold spell_Sort.srt
    rw [show l.length = l.toArray.size from rfl]
    obtain ⟨d, hd⟩ : ∃ d, d = Sort.pdq (ltOf spell_Sort.cf) l.toArray 0 l.toArray.size (Lib.bitLen l.toArray.size) true true := ⟨_, rfl⟩
    rw [← hd] at hp ⊢
    obtain ⟨⟨hsz, _, hperm⟩, hs⟩ := hp
    have e1 : (d.extract 0 l.toArray.size) = d := by rw [← hsz]; simp
    have e2 : (l.toArray.extract 0 l.toArray.size) = l.toArray := by simp
    rw [e1, e2] at hperm
    have hpl : d.toList.Perm l := hperm
    have hm : d.toList.map spell_Sort.nz = d.toList := by
      rw [List.map_congr_left (g := id) (fun s hs => ?_), List.map_id]
      show spell_Sort.nz s = s
      unfold spell_Sort.nz
      rw [hlm s (hpl.mem_iff.1 hs)]
    rw [hm]
    refine ⟨hpl.length_eq, fun s => hpl.mem_iff, ?_⟩
    rw [List.pairwise_iff_getElem]
    intro i j hi hj hij
    have hj' : j < d.size := by simpa using hj
    have q := hs i j (Nat.zero_le _) hij (by rw [← hsz]; exact hj')
    unfold ltOf spell_Sort.cf at q
    rw [getElem!_pos d j hj', getElem!_pos d i (by omega)] at q
    have q := of_decide_eq_false q
    have m1 := hlm d[i] (hpl.mem_iff.1 (Array.getElem_mem_toList ..))
    have m2 := hlm d[j] (hpl.mem_iff.1 (Array.getElem_mem_toList ..))
    rw [m1, m2] at q
    simp only [Array.getElem_toList]
    omega
/-- spells in order are merged where they meet -/
def spMerge (c : S82) : List S82 → List S82
  | [] => [c]
  | s :: t => if s.f0 ≤ c.f1 then spMerge ⟨c.f0, mx c.f1 s.f1⟩ t else c :: spMerge s t
theorem spMerge_nf : ∀ (t : List S82) (c : S82) (lo : Int), lo ≤ c.f0 → c.f0 < c.f1 → c.f1 ≤ 1048576 → (∀ s ∈ t, c.f0 ≤ s.f0 ∧ s.f0 < s.f1 ∧ s.f1 ≤ 1048576) → t.Pairwise (fun a b => a.f0 ≤ b.f0) → NF 1048576 lo (spMerge c t) ∧ (∀ d, spHas (spMerge c t) d ↔ spHas (c :: t) d) ∧ (spMerge c t).length ≤ t.length + 1
  | [], c, lo, h1, h2, h3, _, _ => ⟨⟨h1, h2, h3, trivial⟩, fun _ => Iff.rfl, by simp [spMerge]⟩
  | s :: t, c, lo, h1, h2, h3, h4, h5 => by
    obtain ⟨p1, p2⟩ := List.pairwise_cons.1 h5
    have hs := h4 s (List.mem_cons_self ..)
    have hm : mx c.f1 s.f1 = c.f1 ∨ mx c.f1 s.f1 = s.f1 := by unfold mx; split <;> simp
    have hm1 : c.f1 ≤ mx c.f1 s.f1 ∧ s.f1 ≤ mx c.f1 s.f1 := by unfold mx; split <;> omega
    rw [spMerge]
    by_cases hc : s.f0 ≤ c.f1
    · rw [if_pos hc]
      obtain ⟨a, b, e⟩ := spMerge_nf t ⟨c.f0, mx c.f1 s.f1⟩ lo h1 (by show c.f0 < mx c.f1 s.f1; omega) (by show mx c.f1 s.f1 ≤ _; omega) (fun x hx => h4 x (List.mem_cons_of_mem _ hx)) p2
      refine ⟨a, fun d => ?_, by simp; omega⟩
      rw [b, spHas_cons, spHas_cons, spHas_cons]
      show (c.f0 ≤ d ∧ d < mx c.f1 s.f1) ∨ _ ↔ _
      rw [← or_assoc]
      refine or_congr ?_ Iff.rfl
      omega
    · rw [if_neg hc]
      obtain ⟨a, b, e⟩ := spMerge_nf t s (c.f1 + 1) (by omega) hs.2.1 hs.2.2 (fun x hx => ⟨p1 x hx, (h4 x (List.mem_cons_of_mem _ hx)).2⟩) p2
      exact ⟨⟨h1, h2, h3, a⟩, fun d => by rw [spHas_cons, b, ← spHas_cons], by simp; omega⟩
theorem rdS (l : List S82) (i : Nat) (h : i < l.length) : rd_T82 l (i : Int) = l[i] := by
  unfold rd_T82
  simp [List.getD, h]
theorem rdS_last (p : List S82) (c : S82) : rd_T82 (p ++ [c]) (p.length : Int) = c := by
  rw [rdS _ _ (by simp)]; simp
/-- the second loop -/
theorem spL1 (x : List S82) (hx : x.length ≤ 1000000) : ∀ (n i : Nat) (p : List S82) (c : S82), i + n = x.length → p.length + 1 ≤ i → Ev (fun k => spell_Norm.l1 k (p ++ [c]) x (x.length : Int) (i : Int)) (p ++ spMerge c (x.drop i))
  | 0, i, p, c, h, hp => by
    refine Ev.step (fun k => by rw [spell_Norm.l1]) ?_
    refine Ev.ifn (by omega) (Ev.to ?_)
    rw [List.drop_eq_nil_of_le (by omega)]; rfl
  | n + 1, i, p, c, h, hp => by
    refine Ev.step (fun k => by rw [spell_Norm.l1]) ?_
    have hi : i < x.length := by omega
    have hl : wrap64 (((p ++ [c]).length : Int) - 1) = (p.length : Int) := by
      rw [List.length_append, List.length_singleton]; rw [w64 (by omega) (by omega)]; omega
    have hp1 : (p ++ [c]).length = p.length + 1 := by simp
    rw [hl, rdS_last, rdS _ _ hi, w64_succ hi (by omega)]
    refine Ev.ifp (by omega) (Ev.ifp (by omega) (Ev.ifp (by omega) (Ev.ifp (by omega) (Ev.ifp (by omega) (Ev.ifp (by omega) ?_)))))
    rw [List.drop_eq_getElem_cons hi, spMerge]
    by_cases hc : (x[i]).f0 ≤ c.f1
    · refine Ev.ifp hc ?_
      rw [if_pos hc]
      have hset : ∀ v : S82, (p ++ [c]).set ((p.length : Int)).toNat v = p ++ [v] := by
        intro v; simp
      rw [hset]
      exact spL1 x hx n (i + 1) p _ (by omega) (by omega)
    · refine Ev.ifn hc (Ev.ifp (by omega) ?_)
      rw [if_neg hc]
      have := spL1 x hx n (i + 1) (p ++ [c]) (x[i]) (by omega) (by omega)
      rw [List.append_assoc p [c] (spMerge x[i] _)] at this
      exact this
theorem spL1_of (x : List S82) (hx : x.length ≤ 1000000) (h4 : ∀ s ∈ x, 0 ≤ s.f0 ∧ s.f0 < s.f1 ∧ s.f1 ≤ 1048576) (h5 : x.Pairwise (fun a b => a.f0 ≤ b.f0)) : ∃ r, Ev (fun k => spell_Norm.l1 k [] x (x.length : Int) 0) r ∧ NF 1048576 0 r ∧ (∀ d, spHas r d ↔ spHas x d) ∧ r.length ≤ x.length := by
  cases hx0 : x with
  | nil => exact ⟨[], Ev.step (fun k => by rw [spell_Norm.l1]) (Ev.ifn (by simp) (Ev.to rfl)), trivial, fun _ => Iff.rfl, by simp⟩
  | cons s t =>
    rw [← hx0]
    have hs := h4 s (by rw [hx0]; exact List.mem_cons_self ..)
    have hlen : x.length = t.length + 1 := by rw [hx0]; simp
    obtain ⟨p1, p2⟩ := List.pairwise_cons.1 (hx0 ▸ h5)
    obtain ⟨a, b, e⟩ := spMerge_nf t s 0 hs.1 hs.2.1 hs.2.2 (fun u hu => ⟨p1 u hu, (h4 u (by rw [hx0]; exact List.mem_cons_of_mem _ hu)).2⟩) p2
    refine ⟨spMerge s t, ?_, a, fun d => by rw [b, hx0], by omega⟩
    refine Ev.step (fun k => by rw [spell_Norm.l1]) ?_
    have h0 : rd_T82 x 0 = s := by have := rdS x 0 (by omega); rw [show ((0 : Nat) : Int) = 0 from rfl] at this; rw [this]; simp [hx0]
    rw [h0, show wrap64 ((([] : List S82).length : Int) - 1) = -1 from by simp [wrap64], show wrap64 (0 + 1) = ((1 : Nat) : Int) from by simp [wrap64]]
    refine Ev.ifp (by omega) (Ev.ifp (by omega) (Ev.ifp (by omega) (Ev.ifn (by omega) (Ev.ifp (by simp) ?_))))
    have := spL1 x hx t.length 1 [] s (by omega) (by simp)
    rw [hx0, List.drop_one, List.tail_cons, ← hx0] at this
    exact this
/-- the first loop -/
theorem spL0 (x : List S82) (hx : x.length ≤ 1000000) : ∀ (n i : Nat) (p : List S82) (r : List S82), i + n = x.length → p.length ≤ i → (Ev (fun k => (spell_Sort.f (p ++ spAll (x.drop i))).bind fun t => spell_Norm.l1 k [] t ((p ++ spAll (x.drop i)).length : Int) 0) r) → Ev (fun k => spell_Norm.l0 k p x (x.length : Int) (i : Int)) r
  | 0, i, p, r, h, hp, hr => by
    refine Ev.step (fun k => by rw [spell_Norm.l0]) ?_
    refine Ev.ifn (by omega) ?_
    rw [List.drop_eq_nil_of_le (by omega), show spAll [] = [] from rfl, List.append_nil] at hr
    exact hr
  | n + 1, i, p, r, h, hp, hr => by
    refine Ev.step (fun k => by rw [spell_Norm.l0]) ?_
    have hi : i < x.length := by omega
    rw [rdS _ _ hi, w64_succ hi (by omega)]
    refine Ev.ifp (by omega) (Ev.ifp (by omega) (Ev.ifp (by omega) ?_))
    simp only [spell_fit.f, Option.bind_some]
    have hd : spAll (x.drop i) = (if spGood (spFit x[i]) = true then spFit x[i] :: spAll (x.drop (i + 1)) else spAll (x.drop (i + 1))) := by
      rw [List.drop_eq_getElem_cons hi]
      unfold spAll
      rw [List.map_cons, List.filter_cons]
    by_cases hg : spell_fit.lm (x[i]).f0 < spell_fit.lm (x[i]).f1
    · refine Ev.ifp hg (Ev.ifp (by omega) ?_)
      rw [hd, if_pos (by unfold spGood spFit; exact decide_eq_true hg)] at hr
      refine spL0 x hx n (i + 1) _ r (by omega) (by simp; omega) ?_
      rw [List.append_assoc]
      exact hr
    · refine Ev.ifn hg ?_
      rw [hd, if_neg (by unfold spGood spFit; simpa using hg)] at hr
      exact spL0 x hx n (i + 1) p r (by omega) (by omega) hr
theorem norm_of (l : List S82) (hl : l.length ≤ 1000000) : ∃ r, Ev (fun k => spell_Norm.f k l) r ∧ NF 1048576 0 r ∧ (∀ d, spHas r d ↔ spHas l d ∧ 0 ≤ d ∧ d < 1048576) ∧ r.length ≤ l.length := by
  have hlen := spAll_length l
  obtain ⟨q, hq, hq2, hq3, hq4⟩ := spSort_of (spAll l) (by omega) (fun s hs => by have := spAll_range hs; omega)
  obtain ⟨r, h1, h2, h3, h4⟩ := spL1_of q (by omega) (fun s hs => spAll_range ((hq3 s).1 hs)) hq4
  refine ⟨r, ?_, h2, fun d => ?_, by omega⟩
  · unfold spell_Norm.f
    have := spL0 l hl l.length 0 [] r (by omega) (by simp) (by
      simp only [List.drop_zero, List.nil_append, hq, Option.bind_some]
      rw [← hq2]; exact h1)
    exact this
  · rw [h3, ← spAll_has]
    unfold spHas
    exact ⟨fun ⟨s, a, b⟩ => ⟨s, (hq3 s).1 a, b⟩, fun ⟨s, a, b⟩ => ⟨s, (hq3 s).2 a, b⟩⟩
/-! #### the number of days -/
def spSum : List S82 → Int
  | [] => 0
  | s :: t => (s.f1 - s.f0) + spSum t
theorem spSum_range {M : Int} : ∀ {l : List S82} {lo : Int}, NF M lo l → lo ≤ M + 1 → 0 ≤ spSum l ∧ spSum l ≤ M + 1 - lo
  | [], lo, _, h => by simp only [spSum]; omega
  | s :: t, lo, ⟨h1, h2, h3, h4⟩, h => by
    have := spSum_range h4 (by omega)
    simp only [spSum]; omega
theorem spCount_loop (l : List S82) (hl : l.length ≤ 1000000) : ∀ (n i : Nat) (a lo : Int), i + n = l.length → NF 1048576 lo (l.drop i) → 0 ≤ lo → lo ≤ 1048577 → 0 ≤ a → a ≤ 4611686018427387904 - 1048577 * (l.length - i : Nat) → Ev (fun k => spell_Count.l0 k a l (l.length : Int) (i : Int)) (a + spSum (l.drop i))
  | 0, i, a, lo, h, hn, _, _, _, _ => Ev.step (fun k => by rw [spell_Count.l0]) (Ev.ifn (by omega) (Ev.to (by rw [List.drop_eq_nil_of_le (by omega)]; simp [spSum])))
  | n + 1, i, a, lo, h, hn, l0, l1, a0, a1 => by
    have hi : i < l.length := by omega
    have hd := List.drop_eq_getElem_cons hi
    rw [hd] at hn ⊢
    obtain ⟨p1, p2, p3, p4⟩ := hn
    refine Ev.step (fun k => by rw [spell_Count.l0]) ?_
    rw [rdS _ _ hi, w64_succ hi (by omega), w64 (x := (l[i]).f1 - (l[i]).f0) (by omega) (by omega), w64 (x := a + _) (by omega) (by omega)]
    refine Ev.ifp (by omega) (Ev.ifp (by omega) (Ev.ifp (by omega) ?_))
    rw [spSum, ← Int.add_assoc]
    exact spCount_loop l hl n (i + 1) _ ((l[i]).f1 + 1) (by omega) p4 (by omega) (by omega) (by omega) (by omega)
theorem count_nf {k0 : List S82} {l : List S82} (h1 : Ev (fun k => spell_Norm.f k k0) l) (h2 : NF 1048576 0 l) (hl : l.length ≤ 1000000) : Ev (fun k => spell_Count.f k k0) (spSum l) := by
  unfold spell_Count.f
  refine Ev.bind h1 ?_
  have := spCount_loop l hl l.length 0 0 0 (by omega) h2 (by omega) (by omega) (by omega) (by omega)
  rw [List.drop_zero, Int.zero_add] at this
  exact this
/-! #### day n -/
def spNth : List S82 → Int → Option Int
  | [], _ => none
  | s :: t, n => if n ≥ s.f1 - s.f0 then spNth t (n - (s.f1 - s.f0)) else some (s.f0 + n)
theorem spNth_some {M : Int} : ∀ {l : List S82} {lo n : Int}, NF M lo l → 0 ≤ n → n < spSum l → ∃ d, spNth l n = some d ∧ spHas l d
  | [], lo, n, _, h0, h1 => by simp only [spSum] at h1; omega
  | s :: t, lo, n, ⟨h1, h2, h3, h4⟩, h5, h6 => by
    simp only [spSum] at h6
    rw [spNth]
    by_cases hc : n ≥ s.f1 - s.f0
    · rw [if_pos hc]
      obtain ⟨d, e1, e2⟩ := spNth_some h4 (n := n - (s.f1 - s.f0)) (by omega) (by omega)
      exact ⟨d, e1, (spHas_cons ..).2 (.inr e2)⟩
    · rw [if_neg hc]
      exact ⟨_, rfl, (spHas_cons ..).2 (.inl (by omega))⟩
theorem spNth_all {M : Int} : ∀ {l : List S82} {lo d : Int}, NF M lo l → spHas l d → ∃ n, 0 ≤ n ∧ n < spSum l ∧ spNth l n = some d
  | [], lo, d, _, h => absurd h (spHas_nil d)
  | s :: t, lo, d, ⟨h1, h2, h3, h4⟩, h => by
    rcases (spHas_cons ..).1 h with h | h
    · have : 0 ≤ spSum t := by
        by_cases hq : s.f1 + 1 ≤ M + 1
        · exact (spSum_range h4 hq).1
        · omega
      refine ⟨d - s.f0, by omega, by simp only [spSum]; omega, ?_⟩
      rw [spNth, if_neg (by omega)]; congr 1; omega
    · obtain ⟨n, e1, e2, e3⟩ := spNth_all h4 h
      refine ⟨n + (s.f1 - s.f0), by omega, by simp only [spSum]; omega, ?_⟩
      rw [spNth, if_pos (by omega), show n + (s.f1 - s.f0) - (s.f1 - s.f0) = n by omega, e3]
theorem spNth_none {M : Int} : ∀ {l : List S82} {lo n : Int}, NF M lo l → spSum l ≤ n → spNth l n = none
  | [], lo, n, _, h => rfl
  | s :: t, lo, n, ⟨h1, h2, h3, h4⟩, h => by
    have : 0 ≤ spSum t := (spSum_range h4 (by omega)).1
    simp only [spSum] at h
    rw [spNth, if_pos (by omega), spNth_none h4 (by omega)]
theorem spNth_loop (l : List S82) (hl : l.length ≤ 1000000) (v : Int) : ∀ (n i : Nat) (a lo : Int), i + n = l.length → NF 1048576 lo (l.drop i) → 0 ≤ lo → 0 ≤ a → a ≤ 4611686018427387904 → spNth (l.drop i) a = some v → Ev (fun k => spell_Nth.l0 k a l (l.length : Int) (i : Int)) (v, 0)
  | 0, i, a, lo, h, hn, _, _, _, hv => by rw [List.drop_eq_nil_of_le (by omega)] at hv; cases hv
  | n + 1, i, a, lo, h, hn, l0, a0, a1, hv => by
    have hi : i < l.length := by omega
    have hd := List.drop_eq_getElem_cons hi
    rw [hd] at hn hv
    obtain ⟨p1, p2, p3, p4⟩ := hn
    refine Ev.step (fun k => by rw [spell_Nth.l0]) ?_
    rw [rdS _ _ hi, w64_succ hi (by omega), w64 (x := (l[i]).f1 - (l[i]).f0) (by omega) (by omega)]
    refine Ev.ifp (by omega) (Ev.ifp (by omega) (Ev.ifp (by omega) ?_))
    rw [spNth] at hv
    by_cases hc : a ≥ (l[i]).f1 - (l[i]).f0
    · rw [if_pos hc] at hv
      refine Ev.ifp hc ?_
      rw [w64 (x := a - _) (by omega) (by omega)]
      exact spNth_loop l hl v n (i + 1) _ ((l[i]).f1 + 1) (by omega) p4 (by omega) (by omega) (by omega) hv
    · rw [if_neg hc] at hv
      have := Option.some.inj hv
      refine Ev.ifn hc (Ev.to ?_)
      rw [w64 (x := (l[i]).f0 + a) (by omega) (by omega), this]
theorem nth_nf {k0 : List S82} {l : List S82} (h1 : Ev (fun k => spell_Norm.f k k0) l) (h2 : NF 1048576 0 l) (hl : l.length ≤ 1000000) {n v : Int} (hn : 0 ≤ n) (hn2 : n ≤ 1000000000) (hv : spNth l n = some v) : Ev (fun k => spell_Nth.f k k0 n) (v, 0) := by
  unfold spell_Nth.f
  refine Ev.ifn (by omega) (Ev.bind h1 ?_)
  have := spNth_loop l hl v l.length 0 n 0 (by omega) h2 (by omega) hn (by omega) (by rw [List.drop_zero]; exact hv)
  exact this
/-! #### sets from sets -/
def spIn (l : List S82) (d : Int) : Prop := spHas l d ∧ 0 ≤ d ∧ d < 1048576
theorem NF.spIn {l : List S82} (h : NF 1048576 0 l) (d : Int) : spHas l d ↔ spIn l d := ⟨fun hd => ⟨hd, by have := NF.low h hd; omega, by have := NF.low h hd; omega⟩, fun hd => hd.1⟩
theorem NF.eq_of {a b : List S82} (ha : NF 1048576 0 a) (hb : NF 1048576 0 b) (h : ∀ d, _root_.Go.Proofs.Ytaljkilnpfmlaaa.Pure.spIn a d ↔ _root_.Go.Proofs.Ytaljkilnpfmlaaa.Pure.spIn b d) : a = b := NF.unique ha hb fun d => by rw [ha.spIn, hb.spIn, h]
theorem normIn (l : List S82) (hl : l.length ≤ 1000000) : ∃ r, Ev (fun k => spell_Norm.f k l) r ∧ NF 1048576 0 r ∧ (∀ d, spIn r d ↔ spIn l d) ∧ r.length ≤ l.length := by
  obtain ⟨r, h1, h2, h3, h4⟩ := norm_of l hl
  exact ⟨r, h1, h2, fun d => by rw [← h2.spIn, h3]; rfl, h4⟩
/-- the days between -/
def spGaps (f : Int) : List S82 → List S82
  | [] => [⟨f, 1048576⟩]
  | s :: t => ⟨f, s.f0⟩ :: spGaps s.f1 t
theorem spGaps_len : ∀ (l : List S82) (f : Int), (spGaps f l).length = l.length + 1
  | [], _ => rfl
  | s :: t, f => by rw [spGaps, List.length_cons, spGaps_len t]; rfl
theorem spGaps_has : ∀ {l : List S82} {f lo : Int}, NF 1048576 lo l → f ≤ lo → ∀ d, spHas (spGaps f l) d ↔ f ≤ d ∧ d < 1048576 ∧ ¬ spHas l d
  | [], f, lo, _, _, d => by
    rw [spGaps, spHas_cons]
    have := spHas_nil d
    simp only [this, or_false, not_false_iff, and_true]
  | s :: t, f, lo, ⟨h1, h2, h3, h4⟩, h, d => by
    rw [spGaps, spHas_cons, spHas_cons, spGaps_has (f := s.f1) h4 (by omega)]
    have hl : spHas t d → s.f1 + 1 ≤ d ∧ d < 1048576 := fun hd => NF.low h4 hd
    by_cases ht : spHas t d
    · have := hl ht
      simp only [ht, not_true_eq_false, and_false, or_false, or_true, iff_false]
      omega
    · simp only [ht, not_false_iff, and_true, or_false]
      omega
theorem spNot_loop (x : List S82) (hx : x.length ≤ 100000) : ∀ (n i : Nat) (p : List S82) (f : Int) (r : List S82), i + n = x.length → p.length ≤ i → Ev (fun k => spell_Norm.f k (p ++ spGaps f (x.drop i))) r → Ev (fun k => spell_not.l0 k p f x (x.length : Int) (i : Int)) r
  | 0, i, p, f, r, h, hp, hr => by
    refine Ev.step (fun k => by rw [spell_not.l0]) (Ev.ifn (by omega) (Ev.ifp (by omega) ?_))
    rw [List.drop_eq_nil_of_le (by omega)] at hr
    exact Ev.bind hr (Ev.to rfl)
  | n + 1, i, p, f, r, h, hp, hr => by
    have hi : i < x.length := by omega
    refine Ev.step (fun k => by rw [spell_not.l0]) ?_
    rw [rdS _ _ hi, w64_succ hi (by omega)]
    refine Ev.ifp (by omega) (Ev.ifp (by omega) (Ev.ifp (by omega) (Ev.ifp (by omega) ?_)))
    refine spNot_loop x hx n (i + 1) _ _ r (by omega) (by simp; omega) ?_
    rw [List.drop_eq_getElem_cons hi, spGaps] at hr
    rw [List.append_assoc]
    exact hr
theorem not_of (a : List S82) (ha : a.length ≤ 100000) : ∃ r, Ev (fun k => spell_not.f k a) r ∧ NF 1048576 0 r ∧ (∀ d, spIn r d ↔ (0 ≤ d ∧ d < 1048576) ∧ ¬ spIn a d) ∧ r.length ≤ a.length + 1 := by
  obtain ⟨q, q1, q2, q3, q4⟩ := normIn a (by omega)
  have hlen := spGaps_len q 0
  obtain ⟨r, h1, h2, h3, h4⟩ := normIn (spGaps 0 q) (by omega)
  refine ⟨r, ?_, h2, fun d => ?_, by omega⟩
  · unfold spell_not.f
    refine Ev.bind q1 ?_
    exact spNot_loop q (by omega) q.length 0 [] 0 r (by omega) (by simp) (by simpa using h1)
  · rw [h3, ← q3, ← q2.spIn]
    unfold spIn
    rw [spGaps_has q2 (Int.le_refl 0)]
    constructor
    · rintro ⟨⟨p1, p2, p3⟩, _⟩; exact ⟨⟨p1, p2⟩, p3⟩
    · rintro ⟨⟨p1, p2⟩, p3⟩; exact ⟨⟨p1, p2, p3⟩, p1, p2⟩
/-- the days of both -/
def spPair (s t : S82) : S82 := ⟨mx s.f0 t.f0, mn s.f1 t.f1⟩
theorem spPair_has (s t : S82) (d : Int) : ((spPair s t).f0 ≤ d ∧ d < (spPair s t).f1) ↔ (s.f0 ≤ d ∧ d < s.f1) ∧ (t.f0 ≤ d ∧ d < t.f1) := by
  unfold spPair mx mn
  simp only
  split <;> split <;> omega
def spProd (b : List S82) : List S82 → List S82
  | [] => []
  | s :: t => b.map (spPair s) ++ spProd b t
theorem spMap_has (s : S82) (d : Int) : ∀ b : List S82, spHas (b.map (spPair s)) d ↔ (s.f0 ≤ d ∧ d < s.f1) ∧ spHas b d
  | [] => by have := spHas_nil d; simp only [List.map_nil, this, and_false]
  | t :: b => by
    rw [List.map_cons, spHas_cons, spHas_cons, spPair_has, spMap_has s d b, ← and_or_left]
theorem spProd_has (b : List S82) (d : Int) : ∀ a : List S82, spHas (spProd b a) d ↔ spHas a d ∧ spHas b d
  | [] => by have := spHas_nil d; simp only [spProd, this, false_and]
  | s :: t => by rw [spProd, spHas_append, spMap_has, spProd_has b d t, spHas_cons, ← or_and_right]
theorem spProd_len (b : List S82) : ∀ a : List S82, (spProd b a).length = a.length * b.length
  | [] => by simp [spProd]
  | s :: t => by rw [spProd, List.length_append, List.length_map, spProd_len b t, List.length_cons, Nat.succ_mul]; omega
theorem spMeet_in (y x : List S82) (hy : y.length ≤ 1000) (i : Nat) (s : S82) : ∀ (n j : Nat) (p r : List S82), j + n = y.length → p.length + n ≤ 1000000 → Ev (fun k => spell_Meet.l0 k y (p ++ (y.drop j).map (spPair s)) x (x.length : Int) (wrap64 ((i : Int) + 1))) r → Ev (fun k => spell_Meet.l1 k y p x (x.length : Int) (i : Int) y (y.length : Int) (j : Int) s.f0 s.f1) r
  | 0, j, p, r, h, hp, hr => by
    refine Ev.step (fun k => by rw [spell_Meet.l1]) (Ev.ifn (by omega) ?_)
    rw [List.drop_eq_nil_of_le (by omega), List.map_nil, List.append_nil] at hr
    exact hr
  | n + 1, j, p, r, h, hp, hr => by
    have hj : j < y.length := by omega
    refine Ev.step (fun k => by rw [spell_Meet.l1]) ?_
    rw [rdS _ _ hj, w64_succ hj (by omega)]
    refine Ev.ifp (by omega) (Ev.ifp (by omega) (Ev.ifp (by omega) (Ev.ifp (by omega) ?_)))
    refine spMeet_in y x hy i s n (j + 1) _ r (by omega) (by simp; omega) ?_
    rw [List.drop_eq_getElem_cons hj, List.map_cons] at hr
    rw [List.append_assoc]
    exact hr
theorem spMeet_out (y x : List S82) (hy : y.length ≤ 1000) (hx : x.length ≤ 1000) : ∀ (n i : Nat) (p r : List S82), i + n = x.length → p.length + n * y.length ≤ 1000000 → Ev (fun k => spell_Norm.f k (p ++ spProd y (x.drop i))) r → Ev (fun k => spell_Meet.l0 k y p x (x.length : Int) (i : Int)) r
  | 0, i, p, r, h, hp, hr => by
    refine Ev.step (fun k => by rw [spell_Meet.l0]) (Ev.ifn (by omega) ?_)
    rw [List.drop_eq_nil_of_le (by omega), spProd, List.append_nil] at hr
    exact Ev.bind hr (Ev.to rfl)
  | n + 1, i, p, r, h, hp, hr => by
    have hi : i < x.length := by omega
    have hmul : (n + 1) * y.length = n * y.length + y.length := Nat.succ_mul ..
    refine Ev.step (fun k => by rw [spell_Meet.l0]) ?_
    rw [rdS _ _ hi]
    refine Ev.ifp (by omega) (Ev.ifp (by omega) (Ev.ifp (by omega) ?_))
    refine spMeet_in y x hy i x[i] y.length 0 p r (by omega) (by omega) ?_
    rw [w64_succ hi (by omega), List.drop_zero]
    refine spMeet_out y x hy hx n (i + 1) _ r (by omega) (by simp; omega) ?_
    rw [List.drop_eq_getElem_cons hi, spProd] at hr
    rw [List.append_assoc]
    exact hr
theorem meet_of (a b : List S82) (ha : a.length ≤ 1000) (hb : b.length ≤ 1000) : ∃ r, Ev (fun k => spell_Meet.f k a b) r ∧ NF 1048576 0 r ∧ (∀ d, spIn r d ↔ spIn a d ∧ spIn b d) ∧ r.length ≤ a.length * b.length := by
  obtain ⟨x, x1, x2, x3, x4⟩ := normIn a (by omega)
  obtain ⟨y, y1, y2, y3, y4⟩ := normIn b (by omega)
  have hm : x.length * y.length ≤ a.length * b.length := Nat.mul_le_mul x4 y4
  have hm2 : a.length * b.length ≤ 1000 * 1000 := Nat.mul_le_mul ha hb
  obtain ⟨r, h1, h2, h3, h4⟩ := normIn (spProd y x) (by rw [spProd_len]; omega)
  refine ⟨r, ?_, h2, fun d => ?_, by rw [spProd_len] at h4; omega⟩
  · unfold spell_Meet.f
    refine Ev.bind y1 (Ev.bind x1 ?_)
    exact spMeet_out y x (by omega) (by omega) x.length 0 [] r (by omega) (by simp; omega) (by simpa using h1)
  · rw [h3, ← x3, ← y3]
    unfold spIn
    rw [spProd_has]
    constructor
    · rintro ⟨⟨p1, p2⟩, p3⟩; exact ⟨⟨p1, p3⟩, p2, p3⟩
    · rintro ⟨⟨p1, p3⟩, p2, _⟩; exact ⟨⟨p1, p2⟩, p3⟩
theorem less_of (a b : List S82) (ha : a.length ≤ 1000) (hb : b.length ≤ 999) : ∃ r, Ev (fun k => spell_Less.f k a b) r ∧ NF 1048576 0 r ∧ (∀ d, spIn r d ↔ spIn a d ∧ ¬ spIn b d) ∧ r.length ≤ a.length * (b.length + 1) := by
  obtain ⟨y, y1, y2, y3, y4⟩ := not_of b (by omega)
  obtain ⟨r, h1, h2, h3, h4⟩ := meet_of a y ha (by omega)
  refine ⟨r, ?_, h2, fun d => ?_, Nat.le_trans h4 (Nat.mul_le_mul_left _ y4)⟩
  · unfold spell_Less.f
    exact Ev.bind y1 (Ev.bind h1 (Ev.to rfl))
  · rw [h3, y3]
    unfold spIn
    constructor
    · rintro ⟨p1, _, p2⟩; exact ⟨p1, p2⟩
    · rintro ⟨p1, p2⟩; exact ⟨p1, p1.2, p2⟩
theorem cnt_none (p : Int → Bool) : ∀ (n : Nat) (d : Int), (∀ e, d ≤ e → e < d + n → p e = false) → cnt p n d = 0
  | 0, d, _ => rfl
  | n + 1, d, h => by
    rw [cnt, h d (by omega) (by omega), cnt_none p n (d + 1) (fun e h1 h2 => h e (by omega) (by omega))]; rfl
theorem cnt_full (p : Int → Bool) : ∀ (n : Nat) (d : Int), (∀ e, d ≤ e → e < d + n → p e = true) → cnt p n d = n
  | 0, d, _ => rfl
  | n + 1, d, h => by
    rw [cnt, h d (by omega) (by omega), cnt_full p n (d + 1) (fun e h1 h2 => h e (by omega) (by omega))]; simp; omega
noncomputable def spDec (l : List S82) (d : Int) : Bool := @decide (spHas l d) (Classical.propDecidable _)
theorem spDec_true {l : List S82} {d : Int} : spDec l d = true ↔ spHas l d := by unfold spDec; exact ⟨fun h => @of_decide_eq_true _ (Classical.propDecidable _) h, fun h => @decide_eq_true _ (Classical.propDecidable _) h⟩
theorem spDec_false {l : List S82} {d : Int} (h : ¬ spHas l d) : spDec l d = false := by unfold spDec; exact @decide_eq_false _ (Classical.propDecidable _) h
theorem ev_mono {α : Type} {g : Nat → Option α} (hm : ∀ k, LeO (g k) (g (k + 1))) (K : Nat) {r : α} (h : g K = some r) : Ev g r := by
  refine ⟨K, fun k hk => ?_⟩
  obtain ⟨j, rfl⟩ : ∃ j, k = K + j := ⟨k - K, by omega⟩
  induction j with
  | zero => exact h
  | succ j ih => exact hm (K + j) r (ih (by omega))
theorem h6_of : Ev (fun k => moottop_h6told.f k) true := ev_mono moottop_h6told.mono 40 (by decide +kernel)
/-- how many of the days of a set are worked, and of its first ones -/
def spW (wk : Int → Bool) : List S82 → Int
  | [] => 0
  | s :: t => cnt wk (s.f1 - s.f0).toNat s.f0 + spW wk t
def spG (wk : Int → Bool) : List S82 → Nat → Int
  | [], _ => 0
  | s :: t, i => if (i : Int) ≤ s.f1 - s.f0 then cnt wk i s.f0 else cnt wk (s.f1 - s.f0).toNat s.f0 + spG wk t (i - (s.f1 - s.f0).toNat)
theorem spG_zero {M : Int} (wk : Int → Bool) : ∀ {l : List S82} {lo : Int}, NF M lo l → spG wk l 0 = 0
  | [], _, _ => rfl
  | s :: t, lo, ⟨_, h2, _, _⟩ => by rw [spG, if_pos (by omega)]; rfl
theorem cnt_succ (wk : Int → Bool) (i : Nat) (d : Int) : cnt wk (i + 1) d = cnt wk i d + (if wk (d + i) = true then 1 else 0) := by
  rw [cnt_add wk 1 i d]
  simp [cnt]
theorem spG_step {M : Int} (wk : Int → Bool) : ∀ {l : List S82} {lo v : Int} (i : Nat), NF M lo l → spNth l (i : Int) = some v → spG wk l (i + 1) = spG wk l i + (if wk v = true then 1 else 0)
  | [], _, _, _, _, h => by simp [spNth] at h
  | s :: t, lo, v, i, ⟨h1, h2, h3, h4⟩, h => by
    rw [spNth] at h
    by_cases hc : (i : Int) ≥ s.f1 - s.f0
    · rw [if_pos hc] at h
      obtain ⟨k, hk⟩ : ∃ k, k = (s.f1 - s.f0).toNat := ⟨_, rfl⟩
      have hkk : (k : Int) = s.f1 - s.f0 := by omega
      have ih := spG_step wk (i - k) h4 (by rw [show ((i - k : Nat) : Int) = (i : Int) - (s.f1 - s.f0) by omega]; exact h)
      rw [spG, if_neg (by omega), ← hk, show i + 1 - k = i - k + 1 by omega, ih, spG]
      by_cases he : (i : Int) ≤ s.f1 - s.f0
      · rw [if_pos he, show i - k = 0 by omega, spG_zero wk h4, show i = k by omega]; omega
      · rw [if_neg he, ← hk]; omega
    · rw [if_neg hc] at h
      have hv := Option.some.inj h
      rw [spG, if_pos (by omega), spG, if_pos (by omega), cnt_succ, hv]
theorem spG_full {M : Int} (wk : Int → Bool) : ∀ {l : List S82} {lo : Int}, NF M lo l → spG wk l (spSum l).toNat = spW wk l
  | [], _, _ => rfl
  | s :: t, lo, ⟨h1, h2, h3, h4⟩ => by
    have hs : 0 ≤ spSum t := (spSum_range h4 (by omega)).1
    have ih := spG_full wk h4
    obtain ⟨k, hk⟩ : ∃ k, k = (s.f1 - s.f0).toNat := ⟨_, rfl⟩
    have hkk : (k : Int) = s.f1 - s.f0 := by omega
    rw [spW, ← ih, spSum, spG, ← hk]
    by_cases hz : spSum t = 0
    · rw [hz, if_pos (by omega), show (s.f1 - s.f0 + 0).toNat = k by omega, show (0 : Int).toNat = 0 from rfl, spG_zero wk h4]; omega
    · rw [if_neg (by omega), show (s.f1 - s.f0 + spSum t).toNat - k = (spSum t).toNat by omega]
theorem spW_cnt {M : Int} (wk : Int → Bool) : ∀ {l : List S82} {lo : Int} (n : Nat) (d : Int), NF M lo l → d ≤ lo → M ≤ d + n → cnt (fun e => spDec l e && wk e) n d = spW wk l
  | [], lo, n, d, _, _, _ => cnt_none _ n d fun e _ _ => by rw [spDec_false (spHas_nil e)]; rfl
  | s :: t, lo, n, d, ⟨h1, h2, h3, h4⟩, hd, hn => by
    obtain ⟨g0, hg0⟩ : ∃ g : Nat, (g : Int) = s.f0 - d := ⟨(s.f0 - d).toNat, by omega⟩
    obtain ⟨g1, hg1⟩ : ∃ g : Nat, g = (s.f1 - s.f0).toNat := ⟨_, rfl⟩
    have hg1' : (g1 : Int) = s.f1 - s.f0 := by omega
    obtain ⟨g2, hg2⟩ : ∃ g : Nat, n = g0 + (g1 + g) := ⟨n - g0 - g1, by omega⟩
    rw [hg2, cnt_add, cnt_add, show d + (g0 : Int) = s.f0 by omega, show s.f0 + (g1 : Int) = s.f1 by omega]
    have lowT : ∀ e, spHas t e → s.f1 + 1 ≤ e := fun e he => (NF.low h4 he).1
    rw [cnt_none (fun e => spDec (s :: t) e && wk e) g0 d (fun e q1 q2 => by
      rw [spDec_false fun he => by
        rcases (spHas_cons ..).1 he with he | he
        · omega
        · have := lowT e he; omega]
      rfl)]
    rw [cnt_congr wk (fun e => spDec (s :: t) e && wk e) g1 s.f0 (fun e q1 q2 => by rw [spDec_true.2 ((spHas_cons ..).2 (.inl (by omega)))]; rfl)]
    rw [cnt_congr (fun e => spDec t e && wk e) (fun e => spDec (s :: t) e && wk e) g2 s.f1 (fun e q1 q2 => by
      by_cases he : spHas t e
      · simp only [spDec_true.2 he, spDec_true.2 ((spHas_cons s t e).2 (.inr he))]
      · simp only [spDec_false he, spDec_false (l := s :: t) (d := e) fun hq => by
          rcases (spHas_cons ..).1 hq with hq | hq
          · omega
          · exact he hq]), spW_cnt wk g2 s.f1 h4 (by omega) (by omega), spW, ← hg1]
    omega
theorem dc_loop (wk : Int → Bool) (c : List S80) (hw : ∀ d, 0 ≤ d → d ≤ 1048575 → Ev (fun k => feast_Works.f k false false false false false true true c d) (wk d)) (r : List S82) (h1 : Ev (fun k => spell_Norm.f k r) r) (h2 : NF 1048576 0 r) (hl : r.length ≤ 1000000) (n a1 d : Int)
    (hfin : ∀ i : Nat, (i : Int) = spSum r → Ev (fun k => moottop_DueCounted.l0 k n a1 d r (spW wk r) (spSum r) (i : Int) false false false false false true true c) true) :
    ∀ (j i : Nat), (i : Int) + j = spSum r → Ev (fun k => moottop_DueCounted.l0 k n a1 d r (spG wk r i) (spSum r) (i : Int) false false false false false true true c) true
  | 0, i, h => by
    have hf := hfin i (by omega)
    rw [← spG_full wk h2, show (spSum r).toNat = i by omega] at hf
    exact hf
  | j + 1, i, h => by
    have hs := spSum_range h2 (by omega)
    obtain ⟨v, e1, e2⟩ := spNth_some h2 (n := (i : Int)) (by omega) (by omega)
    have hv := NF.low h2 e2
    have hN := nth_nf h1 h2 hl (n := (i : Int)) (by omega) (by omega) e1
    have ih := dc_loop wk c hw r h1 h2 hl n a1 d hfin j (i + 1) (by omega)
    have hg := spG_step wk i h2 e1
    have hrng : ∀ i : Nat, 0 ≤ spG wk r i ∧ spG wk r i ≤ i := fun i => spG_range wk i r
    have hr := hrng i
    refine Ev.step (fun k => by rw [moottop_DueCounted.l0]) ?_
    refine Ev.ifp (by omega) (Ev.bind hN (Ev.ifp rfl (Ev.bind (hw v (by omega) (by omega)) ?_)))
    rw [w64 (x := spG wk r i + 1) (by omega) (by omega), w64 (x := (i : Int) + 1) (by omega) (by omega), show (i : Int) + 1 = ((i + 1 : Nat) : Int) by omega]
    by_cases hwv : wk v = true
    · rw [if_pos hwv] at hg
      rw [hg] at ih
      exact Ev.ifp hwv ih
    · rw [if_neg hwv, Int.add_zero] at hg
      rw [hg] at ih
      exact Ev.ifn hwv ih
  where
  spG_range (wk : Int → Bool) : ∀ (i : Nat) (l : List S82), 0 ≤ spG wk l i ∧ spG wk l i ≤ i
  | i, [] => by simp [spG]
  | i, s :: t => by
    rw [spG]
    have h1 := cnt_range wk i s.f0
    have h2 := cnt_range wk (s.f1 - s.f0).toNat s.f0
    have h3 := spG_range wk (i - (s.f1 - s.f0).toNat) t
    split <;> omega
theorem DueCounted : moottop_DueCounted.Pure := by
  intro a0 a1 a2 a3 a4
  intros
  have r0 := below_range a0 60 (by omega)
  have r1 := below_range a1 100 (by omega)
  have r2 := below_range a2 40000 (by omega)
  have r3 := below_range a3 100 (by omega)
  have r4 := below_range a4 30 (by omega)
  obtain ⟨n, hn⟩ : ∃ n, n = 1 + a0 % 60 := ⟨_, rfl⟩
  obtain ⟨d, hd⟩ : ∃ d, d = 700000 + a2 % 40000 := ⟨_, rfl⟩
  obtain ⟨p, hp0⟩ : ∃ p, p = d + a3 % 100 - 50 := ⟨_, rfl⟩
  obtain ⟨q, hq0⟩ : ∃ q, q = p + a4 % 30 := ⟨_, rfl⟩
  obtain ⟨c, hc⟩ : ∃ c : List S80, c = [⟨2, 0, 1, 0, 0⟩, ⟨0, 12, 25, 0, 0⟩] := ⟨_, rfl⟩
  have hg : ∀ s ∈ c, GoodRule s := by
    intro s hs
    rw [hc] at hs
    rcases List.mem_cons.1 hs with rfl | hs
    · exact Or.inr (Or.inr (Or.inl ⟨rfl, rfl, by decide, by decide, rfl, rfl⟩))
    · rcases List.mem_cons.1 hs with rfl | hs
      · exact Or.inl ⟨rfl, by decide, by decide, by decide, by decide, rfl, rfl⟩
      · simp at hs
  have hlen : c.length = 2 := by rw [hc]; rfl
  obtain ⟨hol, hhol⟩ := fIs_of false false false false false true true c hg (by omega)
  obtain ⟨wk, hwkd⟩ : ∃ wk : Int → Bool, ∀ e, wk e = if feast_Works.wk false false false false false true true (e % 7) = true then false else !hol e := ⟨_, fun _ => rfl⟩
  have hw : ∀ d, 0 ≤ d → d ≤ 1048575 → Ev (fun k => feast_Works.f k false false false false false true true c d) (wk d) := by
    intro d d0 d1
    have hw : day_Week.f d = some (d % 7) := by
      unfold day_Week.f
      rw [clamp_of _ d0 d1]
      simp only [Option.bind_some]
      rw [tmodnn d0]
    simp only [feast_Works.f, hw, Option.bind_some]
    rw [hwkd]
    refine Ev.ifp ⟨d0, d1⟩ (Ev.ifp ⟨by omega, by omega⟩ ?_)
    by_cases hx : feast_Works.wk false false false false false true true (d % 7) = true
    · rw [if_pos hx]; exact Ev.ifp hx (Ev.now _)
    · rw [if_neg hx]; exact Ev.ifn hx (Ev.bind (hhol d d0 d1) (Ev.now _))
  have hmany := many_free c hg (by omega) false false false false false true true hol hhol (d + 1) (by omega) (by omega) wk (fun x h3 h4 => by
    rw [hwkd]
    rcases h3 with h | h | h | h <;> simp only [h, h4] <;> rfl)
  -- the end
  have ho := cnt_out wk p q 200 (d + 1)
  have hi := cnt_inP p q 200 (d + 1)
  have hcc : cnt (fun x => !inP p q x && wk x) 200 (d + 1) = cnt (Cn (inP p q) wk true) 200 (d + 1) := by
    first | rfl | (congr 1; funext x; simp [Cn])
  rw [hcc] at ho
  have hmx : max 0 (q - max p (d + 1)) ≤ 29 := by omega
  obtain ⟨x, hx, hx2⟩ := Adv.exists (Cn (inP p q) wk true) 200 n d (by omega) (by omega)
  obtain ⟨m, m1, m2, m3⟩ := id hx
  have hm0 : m ≠ 0 := by rintro rfl; rw [cnt] at m2; omega
  have hpx : Cn (inP p q) wk true x = true := by rcases m3 with h | h; · exact absurd h hm0
                                                 · exact h
  have hgx : Gn (inP p q) wk x = true := by
    simp only [Cn, Gn, Bool.and_eq_true, Bool.not_true, Bool.false_or] at hpx ⊢
    exact ⟨hpx.2, hpx.1⟩
  have hP := paused_of wk (inP p q) false false false false true true c [(⟨p, q⟩ : S81)] hg (by omega) hw (fun d _ _ => in_one p q d) (pauses_one p q (by omega) (by omega) (by omega)) (u := 1) (n := n) (d := d) (m := n) (x := x) (y := x) (by omega) (by omega) (by omega) (by omega) (by omega) (by omega) (Or.inl ⟨rfl, rfl⟩) hx ⟨Int.le_refl _, hgx, fun z h1 h2 => by omega⟩ (by omega) (by omega)
  -- the days
  obtain ⟨r, l1, l2, l3, l4⟩ := less_of [(⟨d + 1, x + 1⟩ : S82)] [(⟨p, q⟩ : S82)] (by simp) (by simp)
  have hrl : r.length ≤ 2 := by simpa using l4
  have hr1 : Ev (fun k => spell_Norm.f k r) r := by
    obtain ⟨r', p1, p2, p3, p4⟩ := normIn r (by omega)
    have e : r' = r := p2.eq_of l2 p3
    rw [e] at p1
    exact p1
  have hin : ∀ e, spHas r e ↔ (d + 1 ≤ e ∧ e < x + 1) ∧ ¬ (p ≤ e ∧ e < q) := by
    intro e
    have n0 := spHas_nil e
    rw [l2.spIn, l3]
    unfold spIn
    rw [spHas_cons, spHas_cons]
    simp only [n0, or_false]
    omega
  have hcount := count_nf hr1 l2 (by omega)
  have hsr := spSum_range l2 (by omega)
  have hW : spW wk r = n := by
    rw [← spW_cnt wk 1048576 0 l2 (Int.le_refl 0) (by omega), ← m2]
    obtain ⟨A, hA⟩ : ∃ A : Nat, (A : Int) = d + 1 := ⟨(d + 1).toNat, by omega⟩
    obtain ⟨B, hB⟩ : ∃ B : Nat, 1048576 = A + (m + B) := ⟨1048576 - A - m, by omega⟩
    rw [hB, cnt_add, cnt_add, show (0 : Int) + (A : Int) = d + 1 by omega]
    rw [cnt_none (fun e => spDec r e && wk e) A 0 (fun e q1 q2 => by rw [spDec_false fun he => by have := (hin e).1 he; omega]; rfl)]
    rw [cnt_none (fun e => spDec r e && wk e) B (d + 1 + m) (fun e q1 q2 => by rw [spDec_false fun he => by have := (hin e).1 he; omega]; rfl)]
    rw [cnt_congr (Cn (inP p q) wk true) (fun e => spDec r e && wk e) m (d + 1) (fun e q1 q2 => by
      by_cases he : p ≤ e ∧ e < q
      · have h1 : inP p q e = true := decide_eq_true he
        rw [spDec_false fun hh => ((hin e).1 hh).2 he]
        simp [Cn, h1]
      · have h1 : inP p q e = false := decide_eq_false he
        rw [spDec_true.2 ((hin e).2 ⟨by omega, he⟩)]
        simp [Cn, h1])]
    omega
  -- the months
  obtain ⟨y, mm, k, hparts⟩ := parts_exists d (by omega)
  obtain ⟨b1, b2, b3⟩ := raw3_of hparts (n := a1 % 100) (by omega) (by omega) (by omega) (by omega)
  have hmo := mo_range hparts (by omega) (by omega)
  obtain ⟨L, hL⟩ : ∃ L, L = later (mo y mm) k (a1 % 100) := ⟨_, rfl⟩
  rw [← hL] at b1 b2 b3
  have hA3 : Adv (Cn (fun _ => false) (fun _ => true) ((3 : Int) == 1)) (L - d) d L := by
    have := Adv.all (n := L - d) (d := d) (by omega)
    rw [show d + (L - d) = L by omega] at this
    exact this.congr (fun z _ _ => by simp [Cn])
  have hP3 := paused_of (fun _ => true) (fun _ => false) false false false false false false ([] : List S80) [] (fun s h => by simp at h) (by simp) works_all (fun d _ _ => in_nil d) pauses_nil (u := 3) (n := a1 % 100) (d := d) (m := L - d) (x := L) (y := L) (by omega) (by omega) (by omega) (by omega) (by omega) (by omega) (Or.inr ⟨by omega, L, b1, rfl, b2, by omega⟩) hA3 ⟨Int.le_refl _, by simp [Gn], fun z h1 h2 => by omega⟩ (by omega) (by omega)
  have hE3 : Ev (fun k => due_End.f k false false false false false false false ([] : List S80) 3 (a1 % 100) d) (L, 0) := by
    simp only [due_End.f]
    exact Ev.bind hP3 (Ev.now _)
  have hMd := month_of (by omega) (by omega) hparts
  have hMs := months_of (n := a1 % 100) (by omega) (by omega) hparts (by omega) (by omega) (by omega) (by omega)
  rw [← hL] at hMs
  have hpL : IsParts L ((mo y mm + a1 % 100) / 12 + 1) ((mo y mm + a1 % 100) % 12 + 1) (min k (SM (mo y mm + a1 % 100))) := by
    rw [hL]; exact later_parts hparts.k1 (by omega)
  have hML := month_of (by omega) (by omega) hpL
  have hmm : 12 * (y - 1) + mm - 1 = mo y mm := rfl
  rw [hmm] at hMd
  rw [show 12 * ((mo y mm + a1 % 100) / 12 + 1 - 1) + ((mo y mm + a1 % 100) % 12 + 1) - 1 = mo y mm + a1 % 100 by omega] at hML
  have hfin : ∀ i : Nat, (i : Int) = spSum r → Ev (fun k => moottop_DueCounted.l0 k n a1 d r (spW wk r) (spSum r) (i : Int) false false false false false true true c) true := by
    intro i hi
    refine Ev.step (fun k => by rw [moottop_DueCounted.l0]) ?_
    refine Ev.ifn (by omega) ?_
    rw [below_of _ _ (by omega) (by omega)]
    simp only [Option.bind_some]
    refine Ev.bind hE3 (Ev.ifp hW (Ev.ifp rfl (Ev.bind hML (Ev.bind hMd (Ev.ifp (by rw [w64 (by omega) (by omega)]) (Ev.bind hMs (Ev.to (beq_self_eq_true _))))))))
  have hloop := dc_loop wk c hw r hr1 l2 (by omega) n a1 d hfin (spSum r).toNat 0 (by omega)
  rw [spG_zero wk l2] at hloop
  refine Ev.rounds (g := fun k => moottop_DueCounted.f k a0 a1 a2 a3 a4) ?_
  simp only [moottop_DueCounted.f]
  rw [below_of _ _ (by omega) (by omega), below_of _ _ (by omega) (by omega), below_of _ _ (by omega) (by omega)]
  simp only [day_of, Option.bind_some]
  rw [w64 (x := 1 + a0 % 60) (by omega) (by omega), ← hn, ← hd, w64 (x := d + a3 % 100) (by omega) (by omega), w64 (x := d + a3 % 100 - 50) (by omega) (by omega), ← hp0, w64 (x := p + a4 % 30) (by omega) (by omega), ← hq0, ← hc]
  refine Ev.bind hP (Ev.bind h6_of (Ev.ifp rfl (Ev.ifp rfl (Ev.step (fun k => by rw [moottop_DueCounted.j0]) ?_))))
  simp only
  rw [w64 (x := d + 1000) (by omega) (by omega), decide_eq_false (show ¬ x > d + 1000 by omega), w64 (x := d + 1) (by omega) (by omega), w64 (x := x + 1) (by omega) (by omega)]
  exact Ev.ifn (by decide) (Ev.bind l1 (Ev.bind hcount hloop))
end Go.Proofs.Ytaljkilnpfmlaaa.Pure
