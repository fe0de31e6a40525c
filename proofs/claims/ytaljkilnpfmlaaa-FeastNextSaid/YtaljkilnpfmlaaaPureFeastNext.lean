/-
The next worked day is worked, none is before it, and days are counted together as in two parts, for every list and all numbers.
-/
import Derived.Test.YtaljkilnpfmlaaaPFeastNextx8
set_option linter.unusedVariables false
set_option linter.unusedSimpArgs false
namespace Go.Proofs.Ytaljkilnpfmlaaa.Days
/-- the first day of a year -/
def F (y : Int) : Int := 365 * (y - 1) + (y - 1) / 4 - (y - 1) / 100 + (y - 1) / 400
def lp (y : Int) : Prop := y % 4 = 0 ∧ (y % 100 ≠ 0 ∨ y % 400 = 0)
instance (y : Int) : Decidable (lp y) := by unfold lp; infer_instance
/-- how many days of a year are ahead of a month -/
def A (y m : Int) : Int := (367 * m - 362) / 12 - (if m ≤ 2 then 0 else if lp y then 1 else 2)
def N (y m k : Int) : Int := F y + A y m + k - 1

theorem F_succ (y : Int) : F (y + 1) = F y + (if lp y then 366 else 365) := by
  unfold F
  by_cases h : lp y
  · rw [if_pos h]; unfold lp at h; omega
  · rw [if_neg h]; unfold lp at h; omega
theorem A13 (y : Int) : A y 13 = (if lp y then 366 else 365) := by
  unfold A; by_cases h : lp y <;> simp [h]
theorem A1 (y : Int) : A y 1 = 0 := by unfold A; simp
theorem months (m : Int) (h1 : 1 ≤ m) (h2 : m ≤ 12) : m = 1 ∨ m = 2 ∨ m = 3 ∨ m = 4 ∨ m = 5 ∨ m = 6 ∨ m = 7 ∨ m = 8 ∨ m = 9 ∨ m = 10 ∨ m = 11 ∨ m = 12 := by omega
/-- the size of a month -/
def L (y m : Int) : Int := A y (m + 1) - A y m
theorem L_range (y m : Int) (h1 : 1 ≤ m) (h2 : m ≤ 12) : 28 ≤ L y m ∧ L y m ≤ 31 := by
  unfold L A
  rcases months m h1 h2 with rfl | rfl | rfl | rfl | rfl | rfl | rfl | rfl | rfl | rfl | rfl | rfl <;> by_cases h : lp y <;> simp [h]
theorem A_range (y m : Int) (_ : 1 ≤ m) (_ : m ≤ 13) : 0 ≤ A y m ∧ A y m ≤ 366 ∧ 28 * (m - 1) ≤ A y m ∧ A y m ≤ 31 * (m - 1) := by
  unfold A; split <;> (try split) <;> omega
theorem A_mono (y m m' : Int) (h1 : 1 ≤ m) (h : m < m') (h2 : m' ≤ 13) : A y m + 28 ≤ A y m' := by
  unfold A; by_cases hl : lp y <;> simp only [hl, if_true, if_false] <;> (split <;> split <;> omega)
theorem F_mono (y y' : Int) (h : y < y') : F y + 365 ≤ F y' := by unfold F; omega
theorem F_range (y : Int) (h : 1 ≤ y) : 365 * (y - 1) ≤ F y ∧ F y ≤ 366 * (y - 1) := by unfold F; omega

/-- the first day of month number M, counted from 0 -/
def FM (M : Int) : Int := F (M / 12 + 1) + A (M / 12 + 1) (M % 12 + 1)
def SM (M : Int) : Int := L (M / 12 + 1) (M % 12 + 1)
theorem SM_range (M : Int) : 28 ≤ SM M ∧ SM M ≤ 31 := L_range _ _ (by omega) (by omega)
theorem FM_succ (M : Int) : FM (M + 1) = FM M + SM M := by
  unfold FM SM L
  by_cases h : M % 12 = 11
  · have e1 : (M + 1) / 12 = M / 12 + 1 := by omega
    have e2 : (M + 1) % 12 = 0 := by omega
    rw [e1, e2, h, F_succ]
    have := A13 (M / 12 + 1)
    have a1 := A1 (M / 12 + 1 + 1)
    rw [show (0 : Int) + 1 = 1 from rfl, show (11 : Int) + 1 = 12 from rfl, show (12 : Int) + 1 = 13 from rfl]
    omega
  · have e1 : (M + 1) / 12 = M / 12 := by omega
    have e2 : (M + 1) % 12 = M % 12 + 1 := by omega
    rw [e1, e2]; omega
theorem FM_mono_nat (M : Int) (n : Nat) : FM M + 28 * n ≤ FM (M + n) := by
  induction n with
  | zero => simp
  | succ n ih =>
    have := FM_succ (M + n)
    have := (SM_range (M + n)).1
    have e : M + ((n + 1 : Nat) : Int) = M + n + 1 := by omega
    rw [e]; omega
theorem FM_mono (M M' : Int) (h : M < M') : FM M + SM M ≤ FM M' := by
  obtain ⟨n, rfl⟩ : ∃ n : Nat, M' = M + 1 + n := ⟨(M' - (M + 1)).toNat, by omega⟩
  have := FM_mono_nat (M + 1) n
  have := FM_succ M
  omega
theorem FM_mono' (M M' : Int) (h : M < M') : FM M + 28 ≤ FM M' := by
  have := FM_mono M M' h; have := SM_range M; omega

/-- what a date's parts are -/
structure IsParts (d y m k : Int) : Prop where
  y1 : 1 ≤ y
  m1 : 1 ≤ m
  m2 : m ≤ 12
  k1 : 1 ≤ k
  k2 : k ≤ L y m
  eq : d = F y + A y m + k - 1
theorem IsParts.fm {d y m k : Int} (h : IsParts d y m k) : d = FM (12 * (y - 1) + m - 1) + k - 1 ∧ k ≤ SM (12 * (y - 1) + m - 1) := by
  have e1 : (12 * (y - 1) + m - 1) / 12 + 1 = y := by have := h.m1; have := h.m2; omega
  have e2 : (12 * (y - 1) + m - 1) % 12 + 1 = m := by have := h.m1; have := h.m2; omega
  unfold FM SM
  rw [e1, e2]; exact ⟨h.eq, h.k2⟩
theorem month_unique {d M k M' k' : Int} (h1 : 1 ≤ k) (h2 : k ≤ SM M) (e : d = FM M + k - 1) (h1' : 1 ≤ k') (h2' : k' ≤ SM M') (e' : d = FM M' + k' - 1) : M = M' ∧ k = k' := by
  have hM : M = M' := by
    rcases Int.lt_trichotomy M M' with h | h | h
    · have := FM_mono M M' h; omega
    · exact h
    · have := FM_mono M' M h; omega
  subst hM; exact ⟨rfl, by omega⟩
theorem IsParts.unique {d y m k y' m' k' : Int} (h : IsParts d y m k) (h' : IsParts d y' m' k') : y = y' ∧ m = m' ∧ k = k' := by
  have a := h.fm; have b := h'.fm
  have := month_unique h.k1 a.2 a.1 h'.k1 b.2 b.1
  have := h.m1; have := h.m2; have := h'.m1; have := h'.m2
  omega
theorem IsParts.of_month {d M k : Int} (hM : 0 ≤ M) (h1 : 1 ≤ k) (h2 : k ≤ SM M) (e : d = FM M + k - 1) : IsParts d (M / 12 + 1) (M % 12 + 1) k :=
  ⟨by omega, by omega, by omega, h1, h2, e⟩

theorem year_start (d : Int) (h : 0 ≤ d) : F (400 * (d / 146097) + d % 146097 / 366 + 1) ≤ d ∧ 1 ≤ 400 * (d / 146097) + d % 146097 / 366 + 1 := by
  unfold F; omega
theorem year_end (d y : Int) (h : F y ≤ d) (hd : d ≤ 1048575) : y ≤ 2871 := by
  unfold F at h; omega
theorem max_parts : IsParts 1048575 2871 11 26 := by
  refine ⟨by decide, by decide, by decide, by decide, by decide, by decide⟩
theorem FM_zero : FM 0 = 0 := by decide
theorem month_nonneg {d M k : Int} (hd : 0 ≤ d) (h1 : 1 ≤ k) (h2 : k ≤ SM M) (e : d = FM M + k - 1) : 0 ≤ M := by
  refine Int.not_lt.1 fun h => ?_
  have := FM_mono M 0 (by omega)
  rw [FM_zero] at this
  omega
theorem month_le {d M k d' M' k' : Int} (h1 : 1 ≤ k) (e : d = FM M + k - 1) (h2' : k' ≤ SM M') (e' : d' = FM M' + k' - 1) (h : d ≤ d') : M ≤ M' := by
  refine Int.not_lt.1 fun hl => ?_
  have := FM_mono M' M hl
  omega
/-- every date lies in a month -/
theorem month_exists (d : Int) (h : 0 ≤ d) : ∃ M k : Int, 0 ≤ M ∧ 1 ≤ k ∧ k ≤ SM M ∧ d = FM M + k - 1 := by
  obtain ⟨n, rfl⟩ := Int.eq_ofNat_of_zero_le h
  induction n with
  | zero => exact ⟨0, 1, by decide, by decide, by decide, by decide⟩
  | succ n ih =>
    obtain ⟨M, k, h0, h1, h2, e⟩ := ih (by omega)
    by_cases hk : k + 1 ≤ SM M
    · exact ⟨M, k + 1, h0, by omega, hk, by omega⟩
    · have := SM_range (M + 1); have := FM_succ M
      exact ⟨M + 1, 1, by omega, by omega, by omega, by omega⟩
theorem parts_exists (d : Int) (h : 0 ≤ d) : ∃ y m k, IsParts d y m k := by
  obtain ⟨M, k, h0, h1, h2, e⟩ := month_exists d h
  exact ⟨_, _, _, IsParts.of_month h0 h1 h2 e⟩
end Go.Proofs.Ytaljkilnpfmlaaa.Days
namespace Go.Proofs.Ytaljkilnpfmlaaa.Pure
open Go.RowKit Go.Proofs.Ytaljkilnpfmlaaa.PFeastNext Go.Proofs.YtaljkilnpfmlaaaW.PrintWords Go.Proofs.YtaljkilnpfmlaaaW.PrintLast Go.Proofs.Ytaljkilnpfmlaaa.Days
/-- numbers that need no wrap -/
theorem w64 {x : Int} (h1 : -9223372036854775808 ≤ x) (h2 : x ≤ 9223372036854775807) : wrap64 x = x := by unfold wrap64; omega
theorem tdivnn {a b : Int} (h : 0 ≤ a) : Int.tdiv a b = a / b := Int.tdiv_eq_ediv_of_nonneg h
theorem tmodnn {a b : Int} (h : 0 ≤ a) : Int.tmod a b = a % b := Int.tmod_eq_emod_of_nonneg h
theorem Ev.ifp {α : Type} {c : Prop} [Decidable c] {a b : Nat → Option α} {r : α} (h : c) (k : Ev a r) : Ev (fun n => if c then a n else b n) r := Ev.congr (fun n => by rw [if_pos h]) k
theorem Ev.ifn {α : Type} {c : Prop} [Decidable c] {a b : Nat → Option α} {r : α} (h : ¬ c) (k : Ev b r) : Ev (fun n => if c then a n else b n) r := Ev.congr (fun n => by rw [if_neg h]) k
theorem Ev.to {α : Type} {a b : α} (h : a = b) : Ev (fun _ => some a) b := h ▸ Ev.now a
theorem below_of (x n : Int) (h0 : 0 < n) (h1 : n ≤ 4611686018427387904) : mootmake_Below.f x n = some (x % n) := by
  have hr := Int.emod_nonneg x (show n ≠ 0 by omega)
  have hl := Int.emod_lt_of_pos x h0
  unfold mootmake_Below.f
  rw [if_neg (by omega), Int.tmod_eq_emod]
  by_cases h : 0 ≤ x ∨ n ∣ x
  · rw [if_pos h, show x % n - ((0 : Nat) : Int) = x % n from by omega, if_neg (by omega)]
  · have h3 : x % n ≠ 0 := fun e => h (.inr (Int.dvd_of_emod_eq_zero e))
    rw [if_neg h, if_pos (by omega), w64 (by omega) (by omega)]
    congr 1; omega
theorem below_range (x n : Int) (h0 : 0 < n) : 0 ≤ x % n ∧ x % n < n := ⟨Int.emod_nonneg x (by omega), Int.emod_lt_of_pos x h0⟩
theorem drop_rd (l : List Int) (i : Nat) (h : i < l.length) : l.drop i = rd l (i : Int) :: l.drop (i + 1) := by
  rw [List.drop_eq_getElem_cons h]
  unfold rd
  simp [List.getD, h]
theorem w64_succ {i n : Nat} (h : i < n) (hn : n ≤ 9223372036854775807) : wrap64 ((i : Int) + 1) = ((i + 1 : Nat) : Int) := by
  rw [w64 (by omega) (by omega)]; omega
theorem next_of (l : List Int) (n : Int) (h0 : 0 < n) (h1 : n ≤ 4611686018427387904) : ∃ v l', mootmake_Stream_Next.f l n = some (v, l') ∧ 0 ≤ v ∧ v < n := by
  unfold mootmake_Stream_Next.f
  rw [if_neg (by omega)]
  by_cases h : l = []
  · rw [if_pos h]; exact ⟨0, l, rfl, by omega, h0⟩
  · rw [if_neg h, below_of _ _ h0 h1]
    have := below_range (rd l 0) n h0
    exact ⟨_, _, rfl, this.1, this.2⟩
theorem day_of (x : Int) : mootmake_Day.f x = some (700000 + x % 40000) := by
  unfold mootmake_Day.f
  rw [below_of _ _ (by omega) (by omega)]
  simp only [Option.bind_some]
  rw [w64 (by omega) (by omega)]
theorem clamp_of (d : Int) (h0 : 0 ≤ d) (h1 : d ≤ 1048575) : day_clamp.f d = some d := by
  unfold day_clamp.f mx mn
  congr 1; split <;> split <;> omega
theorem first_of (y : Int) (h1 : 1 ≤ y) (h2 : y ≤ 100000) : day_first.f y = some (F y) := by
  unfold day_first.f F
  simp (disch := omega) only [w64, tdivnn]
theorem leap_of (y : Int) (h1 : 1 ≤ y) : day_Leap.f y = some (decide (lp y)) := by
  unfold day_Leap.f lp
  simp (disch := omega) only [tmodnn]
  by_cases a : y % 4 = 0
  · rw [if_pos a]
    by_cases b : y % 100 = 0
    · rw [if_pos b]; by_cases c : y % 400 = 0 <;> simp [a, b, c]
    · rw [if_neg b]; simp [a, b]
  · rw [if_neg a]; simp [a]
theorem ahead_of (y m : Int) (h1 : 1 ≤ y) (m1 : 1 ≤ m) (m2 : m ≤ 13) : day_ahead.f y m = some (A y m) := by
  unfold day_ahead.f A
  rw [leap_of y h1]
  simp only [Option.bind_some]
  simp (disch := omega) only [w64, tdivnn]
  by_cases hm : m ≤ 2
  · rw [if_pos hm, if_pos hm, Int.sub_zero]
  · rw [if_neg hm, if_neg hm]
    by_cases hl : lp y
    · simp only [hl, decide_true, if_true]
    · simp [hl]
theorem parts_l1 (y r : Int) (h1 : 1 ≤ y) (h2 : y ≤ 100000) (hr : r < A y 13) (n : Nat) : ∀ m : Int, 1 ≤ m → m ≤ 12 → (12 - m).toNat = n → A y m ≤ r →
    ∃ m' k' : Int, Ev (fun k => day_Parts.l1 k y r m) (y, m', k') ∧ 1 ≤ m' ∧ m' ≤ 12 ∧ 1 ≤ k' ∧ k' ≤ L y m' ∧ r = A y m' + k' - 1 := by
  have hA13 := A_range y 13 (by omega) (by omega)
  induction n with
  | zero =>
    intro m m1 m2 hn ha
    obtain rfl : m = 12 := by omega
    have := A_range y 12 (by omega) (by omega)
    refine ⟨12, r - A y 12 + 1, Ev.step (fun k => ?_) (Ev.now _), by omega, by omega, by omega, by unfold L; rw [show (12 : Int) + 1 = 13 from rfl]; omega, by omega⟩
    simp only [day_Parts.l1]
    rw [if_neg (by omega), ahead_of _ _ h1 (by omega) (by omega)]
    simp only [Option.bind_some]
    rw [w64 (x := r - A y 12) (by omega) (by omega), w64 (by omega) (by omega)]
  | succ n ih =>
    intro m m1 m2 hn ha
    have hb := A_range y m (by omega) (by omega)
    by_cases hc : A y (m + 1) ≤ r
    · obtain ⟨m', k', he, h⟩ := ih (m + 1) (by omega) (by omega) (by omega) hc
      refine ⟨m', k', Ev.step (fun k => ?_) he, h⟩
      simp only [day_Parts.l1]
      rw [if_pos (by omega), w64 (x := m + 1) (by omega) (by omega), ahead_of _ _ h1 (by omega) (by omega)]
      simp only [Option.bind_some]
      rw [if_pos hc]
    · refine ⟨m, r - A y m + 1, Ev.step (fun k => ?_) (Ev.now _), m1, m2, by omega, by unfold L; omega, by omega⟩
      simp only [day_Parts.l1]
      rw [if_pos (by omega), w64 (x := m + 1) (by omega) (by omega), ahead_of _ _ h1 (by omega) (by omega)]
      simp only [Option.bind_some]
      rw [if_neg hc, ahead_of _ _ h1 (by omega) (by omega)]
      simp only [Option.bind_some]
      rw [w64 (x := r - A y m) (by omega) (by omega), w64 (by omega) (by omega)]
theorem parts_l0 (d : Int) (h0 : 0 ≤ d) (hd : d ≤ 1048575) (n : Nat) : ∀ y : Int, 1 ≤ y → F y ≤ d → (3000 - y).toNat = n →
    ∃ y' m' k' : Int, Ev (fun k => day_Parts.l0 k d y) (y', m', k') ∧ IsParts d y' m' k' := by
  induction n with
  | zero => intro y h1 hf hn; have := year_end d y hf hd; omega
  | succ n ih =>
    intro y h1 hf hn
    have hy := year_end d y hf hd
    have hF := F_range y h1
    by_cases hc : F (y + 1) ≤ d
    · obtain ⟨y', m', k', he, h⟩ := ih (y + 1) (by omega) hc (by omega)
      refine ⟨y', m', k', Ev.step (fun k => ?_) he, h⟩
      simp only [day_Parts.l0]
      rw [w64 (x := y + 1) (by omega) (by omega), first_of _ (by omega) (by omega)]
      simp only [Option.bind_some]
      rw [if_pos hc]
    · have hs := F_succ y
      have h13 := A13 y
      obtain ⟨m', k', he, m1, m2, k1, k2, e⟩ := parts_l1 y (d - F y) h1 (by omega) (by omega) _ 1 (by omega) (by omega) rfl (by rw [A1]; omega)
      refine ⟨y, m', k', Ev.step (fun k => ?_) he, ⟨h1, m1, m2, k1, k2, by omega⟩⟩
      simp only [day_Parts.l0]
      rw [w64 (x := y + 1) (by omega) (by omega), first_of _ (by omega) (by omega)]
      simp only [Option.bind_some]
      rw [if_neg hc, first_of _ (by omega) (by omega)]
      simp only [Option.bind_some]
      rw [w64 (x := d - F y) (by omega) (by omega)]
theorem parts_of {d y m k : Int} (h0 : 0 ≤ d) (hd : d ≤ 1048575) (h : IsParts d y m k) : Ev (fun n => day_Parts.f n d) (y, m, k) := by
  have hs := year_start d h0
  obtain ⟨y', m', k', he, h'⟩ := parts_l0 d h0 hd _ _ hs.2 hs.1 rfl
  obtain ⟨rfl, rfl, rfl⟩ := h.unique h'
  refine Ev.congr (fun n => ?_) he
  unfold day_Parts.f
  rw [clamp_of d h0 hd]
  simp only [Option.bind_some]
  simp (disch := omega) only [w64, tdivnn, tmodnn]
/-- the month's number -/
def mo (y m : Int) : Int := 12 * (y - 1) + m - 1
theorem IsPartsB {d y m k : Int} (h : IsParts d y m k) (hd : d ≤ 1048575) : y ≤ 2871 := by
  refine year_end d y ?_ hd
  have := A_range y m h.m1 (by have := h.m2; omega)
  have := h.eq; have := h.k1; omega
theorem month_of {d y m k : Int} (h0 : 0 ≤ d) (hd : d ≤ 1048575) (h : IsParts d y m k) : Ev (fun n => day_Month.f n d) (12 * (y - 1) + m - 1) := by
  have := h.y1; have := IsPartsB h hd; have := h.m1; have := h.m2
  simp only [day_Month.f]
  refine Ev.bind (parts_of h0 hd h) ?_
  simp (disch := omega) only [w64]
  exact Ev.now _
theorem month_max : Ev (fun n => day_Month.f n 1048575) 34450 := month_of (by omega) (by omega) max_parts
theorem clip (M : Int) (h0 : 0 ≤ M) (h1 : M ≤ 34450) : mx 0 (mn M 34450) = M := by unfold mx mn; split <;> split <;> omega
theorem size_of (M : Int) (h0 : 0 ≤ M) (h1 : M ≤ 34450) : Ev (fun n => day_Size.f n M) (SM M) := by
  simp only [day_Size.f]
  refine Ev.bind month_max ?_
  rw [clip M h0 h1]
  simp (disch := omega) only [w64, tdivnn]
  rw [ahead_of _ _ (by omega) (by omega) (by omega), ahead_of _ _ (by omega) (by omega) (by omega)]
  simp only [Option.bind_some]
  have := A_range (M / 12 + 1) (M % 12 + 1 + 1) (by omega) (by omega)
  have := A_range (M / 12 + 1) (M % 12 + 1) (by omega) (by omega)
  rw [w64 (by omega) (by omega)]
  exact Ev.now _
theorem size_gen (X M : Int) (h0 : 0 ≤ M) (h1 : M ≤ 34450) (hc : mx 0 (mn X 34450) = M) : Ev (fun n => day_Size.f n X) (SM M) := by
  simp only [day_Size.f]
  refine Ev.bind month_max ?_
  rw [hc]
  simp (disch := omega) only [w64, tdivnn]
  rw [ahead_of _ _ (by omega) (by omega) (by omega), ahead_of _ _ (by omega) (by omega) (by omega)]
  simp only [Option.bind_some]
  have := A_range (M / 12 + 1) (M % 12 + 1 + 1) (by omega) (by omega)
  have := A_range (M / 12 + 1) (M % 12 + 1) (by omega) (by omega)
  rw [w64 (by omega) (by omega)]
  exact Ev.now _
theorem of_gen (y m k : Int) (h1 : 1 ≤ y) (h2 : y ≤ 4000) (m1 : 1 ≤ m) (m2 : m ≤ 12) (k1 : 1 ≤ k) :
    Ev (fun c => day_Of.f c y m k) (if k > L y m then (0, 1) else if F y + A y m + k - 1 > 1048575 then (0, 2) else (F y + A y m + k - 1, 0)) := by
  have hA := A_range y m m1 (by omega)
  have hA' := A_range y (m + 1) (by omega) (by omega)
  have hF := F_range y h1
  have hL := L_range y m m1 m2
  simp only [day_Of.f]
  refine Ev.ifn (by omega) (Ev.ifn (by omega) (Ev.ifn (by omega) ?_))
  refine Ev.step (f := fun _ => some (if k > L y m then (0, 1) else if F y + A y m + k - 1 > 1048575 then (0, 2) else (F y + A y m + k - 1, 0))) (fun c => ?_) (Ev.now _)
  simp only [day_Of.j0]
  rw [if_neg (by simpa using k1), if_neg (by omega), w64 (x := m + 1) (by omega) (by omega), ahead_of _ _ h1 (by omega) (by omega), ahead_of _ _ h1 (by omega) (by omega), first_of _ h1 (by omega)]
  simp only [Option.bind_some]
  rw [show A y (m + 1) - A y m = L y m from rfl, w64 (x := L y m) (by omega) (by omega)]
  by_cases c1 : k > L y m
  · rw [if_pos c1, if_pos c1]
  · rw [if_neg c1, if_neg c1]
    rw [w64 (x := F y + A y m) (by omega) (by omega), w64 (x := F y + A y m + k) (by omega) (by omega), w64 (x := F y + A y m + k - 1) (by omega) (by omega)]
    split <;> rfl
theorem of_of {d y m k : Int} (hd : d ≤ 1048575) (h : IsParts d y m k) : Ev (fun c => day_Of.f c y m k) (d, 0) := by
  have hB := IsPartsB h hd; have he := h.eq; have hk2 := h.k2
  have := of_gen y m k h.y1 (by omega) h.m1 h.m2 h.k1
  rw [if_neg (by omega), if_neg (by omega), ← he] at this
  exact this
def okS (y : Int) : Bool :=
  match feast_Sunday.f 1 y with
  | some (d, e) => e == 0 && decide (F y + A y 3 + 21 ≤ d) && decide (d ≤ F y + A y 4 + 24) && d % 7 == 6
  | none => false
set_option maxRecDepth 100000 in
theorem all_okS : (List.range 2871).all (fun n => okS ((n : Int) + 1)) = true := by decide +kernel
theorem sun_step (y : Int) (c : Nat) : feast_Sunday.f (c + 1) y = feast_Sunday.f 1 y := by
  unfold feast_Sunday.f day_Of.f
  simp only [day_Of.j0]
theorem sun_of (y : Int) (h1 : 1 ≤ y) (h2 : y ≤ 2871) : ∃ d, Ev (fun c => feast_Sunday.f c y) (d, 0) ∧ F y + A y 3 + 21 ≤ d ∧ d ≤ F y + A y 4 + 24 ∧ d % 7 = 6 := by
  have := List.all_eq_true.1 all_okS (y - 1).toNat (List.mem_range.2 (by omega))
  rw [show (((y - 1).toNat : Nat) : Int) + 1 = y from by omega] at this
  unfold okS at this
  split at this
  · rename_i d e he
    simp only [Bool.and_eq_true, beq_iff_eq, decide_eq_true_eq] at this
    obtain ⟨⟨⟨rfl, b⟩, c⟩, f⟩ := this
    exact ⟨d, Ev.step (fun c => (sun_step y c).trans he) (Ev.now _), b, c, f⟩
  · exact absurd this (by simp)
theorem sun_parts {y d : Int} (h1 : 1 ≤ y) (ha : F y + A y 3 + 21 ≤ d) (hb : d ≤ F y + A y 4 + 24) : (∃ k, IsParts d y 3 k ∧ 22 ≤ k) ∨ ∃ k, IsParts d y 4 k ∧ k ≤ 25 := by
  have hL : L y 3 = 31 := by unfold L A; by_cases h : lp y <;> simp [h]
  have hL4 : L y 4 = 30 := by unfold L A; by_cases h : lp y <;> simp [h]
  have hd : A y 4 = A y 3 + 31 := by have : L y 3 = A y 4 - A y 3 := rfl; omega
  by_cases hc : d < F y + A y 4
  · exact .inl ⟨d - F y - A y 3 + 1, ⟨h1, by omega, by omega, by omega, by omega, by omega⟩, by omega⟩
  · exact .inr ⟨d - F y - A y 4 + 1, ⟨h1, by omega, by omega, by omega, by omega, by omega⟩, by omega⟩
theorem Ev.unique {α : Type} {g : Nat → Option α} {a b : α} (h : Ev g a) (h' : Ev g b) : a = b := by
  obtain ⟨K, h⟩ := h
  obtain ⟨K', h'⟩ := h'
  have e1 := h (max K K') (by omega)
  have e2 := h' (max K K') (by omega)
  rw [e1] at e2
  exact Option.some.inj e2
/-- the rules that the maker of calendars makes -/
def GoodRule (s : S80) : Prop :=
  (s.f0 = 0 ∧ 1 ≤ s.f1 ∧ s.f1 ≤ 12 ∧ 1 ≤ s.f2 ∧ s.f2 ≤ 29 ∧ s.f3 = 0 ∧ s.f4 = 0) ∨
  (s.f0 = 1 ∧ 1 ≤ s.f1 ∧ s.f1 ≤ 12 ∧ s.f2 = 0 ∧ 0 ≤ s.f3 ∧ s.f3 ≤ 6 ∧ (s.f4 = -1 ∨ 1 ≤ s.f4 ∧ s.f4 ≤ 5)) ∨
  (s.f0 = 2 ∧ s.f1 = 0 ∧ -80 ≤ s.f2 ∧ s.f2 ≤ 250 ∧ s.f3 = 0 ∧ s.f4 = 0) ∨
  (s.f0 = 3 ∧ s.f1 = 0 ∧ 0 ≤ s.f2 ∧ s.f2 ≤ 1048575 ∧ s.f3 = 0 ∧ s.f4 = 0)
theorem fcheck_j0 (a b c d e : Int) (x : Bool) (hx : x = true) : Ev (fun k => feast_check.j0 k x a b c d e a b c d e) 0 := by
  subst hx
  exact Ev.step (f := fun _ => some 0) (fun k => by simp [feast_check.j0]) (Ev.now _)
theorem L4 (m : Int) (h1 : 1 ≤ m) (h2 : m ≤ 12) : 29 ≤ L 4 m ∧ F 4 + A 4 m ≤ 2000 := by
  rcases months m h1 h2 with rfl | rfl | rfl | rfl | rfl | rfl | rfl | rfl | rfl | rfl | rfl | rfl <;> decide
theorem fcheck_of (s : S80) (h : GoodRule s) : Ev (fun k => feast_check.f k s.f0 s.f1 s.f2 s.f3 s.f4) 0 := by
  obtain ⟨f0, f1, f2, f3, f4⟩ := s
  rcases h with ⟨h0, h1, h2, h3, h4, h5, h6⟩ | ⟨h0, h1, h2, h3, h4, h5, h6⟩ | ⟨h0, h1, h2, h3, h4, h5⟩ | ⟨h0, h1, h2, h3, h4, h5⟩ <;> simp only at * <;> subst h0
  · subst h5 h6
    have hL := L4 f1 h1 h2
    have ho := of_gen 4 f1 f2 (by omega) (by omega) h1 h2 h3
    rw [if_neg (by omega), if_neg (by omega)] at ho
    simp only [feast_check.f]
    exact Ev.ifp trivial (Ev.bind ho (fcheck_j0 _ _ _ _ _ _ rfl))
  · subst h3
    simp only [feast_check.f]
    refine Ev.ifn (by decide) (Ev.ifp trivial (Ev.ifp h1 (Ev.ifp h2 (Ev.ifp h4 (Ev.ifp h5 ?_)))))
    rcases h6 with rfl | ⟨h6, h7⟩
    · exact Ev.ifp rfl (fcheck_j0 _ _ _ _ _ _ rfl)
    · exact Ev.ifn (by omega) (Ev.ifp h6 (fcheck_j0 _ _ _ _ _ _ (decide_eq_true h7)))
  · subst h1 h4 h5
    simp only [feast_check.f]
    exact Ev.ifn (by decide) (Ev.ifn (by decide) (Ev.ifp trivial (Ev.ifp h2 (fcheck_j0 _ _ _ _ _ _ (decide_eq_true h3)))))
  · subst h1 h4 h5
    simp only [feast_check.f]
    exact Ev.ifn (by decide) (Ev.ifn (by decide) (Ev.ifn (by decide) (Ev.ifp trivial (Ev.ifp h2 (fcheck_j0 _ _ _ _ _ _ (decide_eq_true h3))))))
theorem size_any (M : Int) (h0 : 0 ≤ M) (h1 : M ≤ 34451) : ∃ s, Ev (fun n => day_Size.f n M) s ∧ 28 ≤ s ∧ s ≤ 31 := by
  by_cases h : M ≤ 34450
  · exact ⟨_, size_of M h0 h, SM_range M⟩
  · obtain rfl : M = 34451 := by omega
    exact ⟨SM 34450, size_gen 34451 34450 (by omega) (by omega) (by decide), SM_range _⟩
theorem exbind {α β : Type} {g : Nat → Option α} {f : Nat → α → Option β} {a : α} (h : Ev g a) (k : ∃ r, Ev (fun n => f n a) r) : ∃ r, Ev (fun n => (g n).bind (f n)) r := by
  obtain ⟨r, k⟩ := k
  exact ⟨r, Ev.bind h k⟩
theorem nth_l0 (f z : Int) (hz : 28 ≤ z ∧ z ≤ 31) (hf : 0 ≤ f ∧ f ≤ 1048575) (n : Nat) : ∀ d : Int, 0 ≤ d → d ≤ 1048700 → (f + z - d).toNat ≤ n → ∃ p, Ev (fun k => feast_nth.l0 k f z d) p := by
  induction n with
  | zero =>
    intro d h0 h1 hn
    refine ⟨(d, true), Ev.step (f := fun _ => some (d, true)) (fun k => ?_) (Ev.now _)⟩
    simp only [feast_nth.l0]
    rw [w64 (x := d + 7) (by omega) (by omega), w64 (x := f + z) (by omega) (by omega), if_neg (by omega)]
  | succ n ih =>
    intro d h0 h1 hn
    by_cases hc : d + 7 < f + z
    · obtain ⟨p, hp⟩ := ih (d + 7) (by omega) (by omega) (by omega)
      refine ⟨p, Ev.step (fun k => ?_) hp⟩
      simp only [feast_nth.l0]
      rw [w64 (x := d + 7) (by omega) (by omega), w64 (x := f + z) (by omega) (by omega), if_pos hc]
    · refine ⟨(d, true), Ev.step (f := fun _ => some (d, true)) (fun k => ?_) (Ev.now _)⟩
      simp only [feast_nth.l0]
      rw [w64 (x := d + 7) (by omega) (by omega), w64 (x := f + z) (by omega) (by omega), if_neg hc]
theorem nth_of (y m w n : Int) (h1 : 1 ≤ y) (h2 : y ≤ 2871) (m1 : 1 ≤ m) (m2 : m ≤ 12) (w1 : 0 ≤ w) (w2 : w ≤ 6) : ∃ p, Ev (fun k => feast_nth.f k y m w n) p := by
  have ho := of_gen y m 1 h1 (by omega) m1 m2 (by omega)
  have hL := L_range y m m1 m2
  have hF := F_range y h1
  have hA := A_range y m m1 (by omega)
  rw [if_neg (by omega)] at ho
  obtain ⟨p, hp, hp0, hp1⟩ : ∃ p : Int × Int, Ev (fun c => day_Of.f c y m 1) p ∧ 0 ≤ p.1 ∧ p.1 ≤ 1048575 := by
    by_cases hc : F y + A y m + 1 - 1 > 1048575
    · rw [if_pos hc] at ho; exact ⟨_, ho, by simp, by simp⟩
    · rw [if_neg hc] at ho; exact ⟨_, ho, by simp only []; omega, by simp only []; omega⟩
  obtain ⟨z, hz, hz1⟩ := size_any (12 * (y - 1) + m - 1) (by omega) (by omega)
  have hw : day_Week.f p.1 = some (p.1 % 7) := by
    unfold day_Week.f
    rw [clamp_of _ hp0 hp1]
    simp only [Option.bind_some]
    rw [tmodnn hp0]
  simp only [feast_nth.f]
  by_cases hn : n > 0
  · refine exbind hp ?_
    rw [w64 (x := y - 1) (by omega) (by omega), w64 (x := 12 * (y - 1)) (by omega) (by omega), w64 (x := 12 * (y - 1) + m) (by omega) (by omega), w64 (x := 12 * (y - 1) + m - 1) (by omega) (by omega)]
    refine exbind hz ?_
    simp only [hw, Option.bind_some]
    exact ⟨_, Ev.ifp hn (Ev.now _)⟩
  · obtain ⟨q, hq⟩ := nth_l0 p.1 z hz1 ⟨hp0, hp1⟩ _ (p.1 + (w - p.1 % 7 + 7) % 7) (by omega) (by omega) (Nat.le_refl _)
    refine ⟨q, Ev.bind hp ?_⟩
    rw [w64 (x := y - 1) (by omega) (by omega), w64 (x := 12 * (y - 1)) (by omega) (by omega), w64 (x := 12 * (y - 1) + m) (by omega) (by omega), w64 (x := 12 * (y - 1) + m - 1) (by omega) (by omega)]
    refine Ev.bind hz ?_
    simp only [hw, Option.bind_some]
    refine Ev.ifn hn ?_
    rw [w64 (x := w - p.1 % 7) (by omega) (by omega), w64 (x := w - p.1 % 7 + 7) (by omega) (by omega), tmodnn (by omega), w64 (by omega) (by omega)]
    exact hq
theorem meets_of (s : S80) (h : GoodRule s) (d : Int) (d0 : 0 ≤ d) (d1 : d ≤ 1048575) : ∃ b, Ev (fun k => feast_meets.f k s.f0 s.f1 s.f2 s.f3 s.f4 d) b := by
  obtain ⟨y, m, kk, hp⟩ := parts_exists d d0
  have hB := IsPartsB hp d1; have hy1 := hp.y1
  simp only [feast_meets.f]
  refine exbind (parts_of d0 d1 hp) ?_
  rcases h with ⟨h0, h1, h2, h3, h4, h5, h6⟩ | ⟨h0, h1, h2, h3, h4, h5, h6⟩ | ⟨h0, h1, h2, h3, h4, h5⟩ | ⟨h0, h1, h2, h3, h4, h5⟩ <;> rw [h0]
  · by_cases hm : m = s.f1
    · exact ⟨_, Ev.ifp rfl (Ev.ifp hm (Ev.now _))⟩
    · exact ⟨_, Ev.ifp rfl (Ev.ifn hm (Ev.now _))⟩
  · obtain ⟨p, hn⟩ := nth_of y s.f1 s.f3 s.f4 hy1 hB h1 h2 h4 h5
    by_cases hq : p.2 = true
    · exact ⟨_, Ev.ifn (by decide) (Ev.ifp rfl (Ev.bind hn (Ev.ifp hq (Ev.now _))))⟩
    · exact ⟨_, Ev.ifn (by decide) (Ev.ifp rfl (Ev.bind hn (Ev.ifn hq (Ev.now _))))⟩
  · obtain ⟨x, hx, _⟩ := sun_of y hy1 hB
    exact ⟨_, Ev.ifn (by decide) (Ev.ifn (by decide) (Ev.ifp rfl (Ev.bind hx (Ev.ifp rfl (Ev.now _)))))⟩
  · exact ⟨_, Ev.ifn (by decide) (Ev.ifn (by decide) (Ev.ifn (by decide) (Ev.now _)))⟩
theorem one_of (s : S80) (h : GoodRule s) (d : Int) (d0 : 0 ≤ d) (d1 : d ≤ 1048575) : ∃ b, Ev (fun k => feast_Is.one k s d) b := by
  obtain ⟨b, hb⟩ := meets_of s h d d0 d1
  refine ⟨b, ?_⟩
  simp only [feast_Is.one]
  exact Ev.bind (fcheck_of s h) (Ev.ifp rfl hb)
theorem any_of (d : Int) (d0 : 0 ≤ d) (d1 : d ≤ 1048575) : ∀ l : List S80, (∀ s ∈ l, GoodRule s) → ∃ b, Ev (fun k => feast_Is.any k d l) b
  | [], _ => ⟨false, by simp only [feast_Is.any]; exact Ev.now _⟩
  | s :: l, h => by
    obtain ⟨b, hb⟩ := one_of s (h s (by simp)) d d0 d1
    obtain ⟨c, hc⟩ := any_of d d0 d1 l (fun t ht => h t (by simp [ht]))
    simp only [feast_Is.any]
    cases b
    · exact ⟨c, Ev.bind hb (Ev.ifn (by decide) hc)⟩
    · exact ⟨true, Ev.bind hb (Ev.ifp rfl (Ev.now _))⟩
theorem fdrop (l : List S80) (i : Nat) (h : i < l.length) : rd_T80 l (i : Int) ∈ l := by
  have := List.getElem_mem h
  unfold rd_T80
  simp [List.getD, h]
theorem fCheck_l0 (l : List S80) (h : ∀ s ∈ l, GoodRule s) (hl : l.length ≤ 60) (n : Nat) : ∀ i : Nat, i ≤ l.length → l.length - i = n → Ev (fun k => feast_Check.l0 k l (l.length : Int) (i : Int)) 0 := by
  induction n with
  | zero =>
    intro i hi hn
    obtain rfl : i = l.length := by omega
    refine Ev.step (f := fun _ => some 0) (fun k => ?_) (Ev.now _)
    simp only [feast_Check.l0]
    rw [if_neg (by omega)]
  | succ n ih =>
    intro i hi hn
    have hlt : i < l.length := by omega
    refine Ev.step (fun k => ?_) (Ev.bind (fcheck_of _ (h _ (fdrop l i hlt))) (Ev.ifp (c := (0 : Int) = 0) rfl (ih (i + 1) (by omega) (by omega))) : Ev (fun k => (feast_check.f k (rd_T80 l (i : Int)).f0 (rd_T80 l (i : Int)).f1 (rd_T80 l (i : Int)).f2 (rd_T80 l (i : Int)).f3 (rd_T80 l (i : Int)).f4).bind fun e => if e = 0 then feast_Check.l0 k l (l.length : Int) ((i + 1 : Nat) : Int) else some e) 0)
    simp only [feast_Check.l0]
    rw [if_pos (by omega), if_pos (by omega), if_pos (by omega), w64_succ hlt (by omega)]
theorem fCheck_of (b1 b2 b3 b4 b5 b6 : Bool) (l : List S80) (h : ∀ s ∈ l, GoodRule s) (hl : l.length ≤ 60) : Ev (fun k => feast_Check.f k false b1 b2 b3 b4 b5 b6 l) 0 := by
  simp only [feast_Check.f]
  exact Ev.ifn (by omega) (Ev.ifp trivial (fCheck_l0 l h hl _ 0 (by omega) rfl))
theorem fIs_of (b0 b1 b2 b3 b4 b5 b6 : Bool) (l : List S80) (h : ∀ s ∈ l, GoodRule s) (hl : l.length ≤ 60) : ∃ hol : Int → Bool, ∀ d, 0 ≤ d → d ≤ 1048575 → Ev (fun k => feast_Is.f k b0 b1 b2 b3 b4 b5 b6 l d) (hol d) := by
  have : ∀ d, ∃ b, 0 ≤ d → d ≤ 1048575 → Ev (fun k => feast_Is.f k b0 b1 b2 b3 b4 b5 b6 l d) b := by
    intro d
    by_cases hd : 0 ≤ d ∧ d ≤ 1048575
    · obtain ⟨b, hb⟩ := any_of d hd.1 hd.2 l h
      refine ⟨b, fun _ _ => ?_⟩
      simp only [feast_Is.f]
      exact Ev.ifp hd (Ev.ifp (by omega) hb)
    · exact ⟨true, fun h0 h1 => absurd ⟨h0, h1⟩ hd⟩
  exact Classical.axiomOfChoice this
theorem good_app {l : List S80} {r : S80} (h : ∀ s ∈ l, GoodRule s) (hr : GoodRule r) : ∀ s ∈ l ++ [r], GoodRule s := by
  intro s hs
  rcases List.mem_append.1 hs with hs | hs
  · exact h s hs
  · obtain rfl := List.mem_singleton.1 hs
    exact hr
theorem cal_l0 (m : Int) (hm : m < 9) (b2 b5 : Bool) (n : Nat) : ∀ (i : Nat) (st : List Int) (l : List S80), (i : Int) ≤ m → (m - i).toNat = n → l.length = i → (∀ s ∈ l, GoodRule s) →
    ∃ c, Ev (fun k => mootkeep1_cal.l0 k m (i : Int) st false false b2 false false b5 true l) (false, false, b2, false, false, b5, true, c) ∧ c.length ≤ 9 ∧ ∀ s ∈ c, GoodRule s := by
  induction n with
  | zero =>
    intro i st l hi hn hl hg
    obtain rfl : m = (i : Int) := by omega
    refine ⟨l, Ev.step (f := fun _ => some (false, false, b2, false, false, b5, true, l)) (fun k => ?_) (Ev.now _), by omega, hg⟩
    simp only [mootkeep1_cal.l0]
    rw [if_neg (by omega)]
  | succ n ih =>
    intro i st l hi hn hl hg
    obtain ⟨t, s1, e1, t0, t1⟩ := next_of st 4 (by omega) (by omega)
    have hi1 : wrap64 ((i : Int) + 1) = ((i + 1 : Nat) : Int) := by rw [w64 (by omega) (by omega)]; omega
    by_cases c0 : t = 0
    · obtain ⟨u, s2, e2, u0, u1⟩ := next_of s1 12 (by omega) (by omega)
      obtain ⟨v, s3, e3, v0, v1⟩ := next_of s2 29 (by omega) (by omega)
      obtain ⟨c, hc, hr⟩ := ih (i + 1) s3 (l ++ [(⟨t, 1 + u, 1 + v, 0, 0⟩ : S80)]) (by omega) (by omega) (by simp [hl]) (good_app hg (.inl ⟨c0, by simp only []; omega, by simp only []; omega, by simp only []; omega, by simp only []; omega, rfl, rfl⟩))
      refine ⟨c, Ev.step (fun k => ?_) hc, hr⟩
      simp only [mootkeep1_cal.l0]
      rw [if_pos (by omega), e1]
      simp only [Option.bind_some]
      rw [if_pos c0, e2]
      simp only [Option.bind_some]
      rw [e3]
      simp only [Option.bind_some]
      rw [if_pos (by omega), hi1, w64 (x := 1 + u) (by omega) (by omega), w64 (x := 1 + v) (by omega) (by omega)]
    · by_cases c1 : t = 1
      · obtain ⟨u, s2, e2, u0, u1⟩ := next_of s1 12 (by omega) (by omega)
        obtain ⟨v, s3, e3, v0, v1⟩ := next_of s2 7 (by omega) (by omega)
        obtain ⟨w, s4, e4, w0, w1⟩ := next_of s3 6 (by omega) (by omega)
        have hw : rd [1, 2, 3, 4, 5, -1] w = -1 ∨ 1 ≤ rd [1, 2, 3, 4, 5, -1] w ∧ rd [1, 2, 3, 4, 5, -1] w ≤ 5 := by
          have : w = 0 ∨ w = 1 ∨ w = 2 ∨ w = 3 ∨ w = 4 ∨ w = 5 := by omega
          rcases this with rfl | rfl | rfl | rfl | rfl | rfl <;> decide
        obtain ⟨c, hc, hr⟩ := ih (i + 1) s4 (l ++ [(⟨t, 1 + u, 0, v, rd [1, 2, 3, 4, 5, -1] w⟩ : S80)]) (by omega) (by omega) (by simp [hl]) (good_app hg (.inr (.inl ⟨c1, by simp only []; omega, by simp only []; omega, rfl, v0, by simp only []; omega, hw⟩)))
        refine ⟨c, Ev.step (fun k => ?_) hc, hr⟩
        simp only [mootkeep1_cal.l0]
        rw [if_pos (by omega), e1]
        simp only [Option.bind_some]
        rw [if_neg c0, if_pos c1, e2]
        simp only [Option.bind_some]
        rw [e3]
        simp only [Option.bind_some]
        rw [e4]
        simp only [Option.bind_some]
        rw [if_pos w0, if_pos (by simp; omega), if_pos (by omega), hi1, w64 (x := 1 + u) (by omega) (by omega)]
      · by_cases c2 : t = 2
        · obtain ⟨u, s2, e2, u0, u1⟩ := next_of s1 100 (by omega) (by omega)
          obtain ⟨c, hc, hr⟩ := ih (i + 1) s2 (l ++ [(⟨t, 0, u - 49, 0, 0⟩ : S80)]) (by omega) (by omega) (by simp [hl]) (good_app hg (.inr (.inr (.inl ⟨c2, rfl, by simp only []; omega, by simp only []; omega, rfl, rfl⟩))))
          refine ⟨c, Ev.step (fun k => ?_) hc, hr⟩
          simp only [mootkeep1_cal.l0]
          rw [if_pos (by omega), e1]
          simp only [Option.bind_some]
          rw [if_neg c0, if_neg c1, if_pos c2, e2]
          simp only [Option.bind_some]
          rw [if_pos (by omega), hi1, w64 (x := u - 49) (by omega) (by omega)]
        · obtain ⟨u, s2, e2, u0, u1⟩ := next_of s1 40000 (by omega) (by omega)
          have hu := below_range u 40000 (by omega)
          obtain ⟨c, hc, hr⟩ := ih (i + 1) s2 (l ++ [(⟨t, 0, 700000 + u % 40000, 0, 0⟩ : S80)]) (by omega) (by omega) (by simp [hl]) (good_app hg (.inr (.inr (.inr ⟨by simp only []; omega, rfl, by simp only []; omega, by simp only []; omega, rfl, rfl⟩))))
          refine ⟨c, Ev.step (fun k => ?_) hc, hr⟩
          simp only [mootkeep1_cal.l0]
          rw [if_pos (by omega), e1]
          simp only [Option.bind_some]
          rw [if_neg c0, if_neg c1, if_neg c2, e2]
          simp only [Option.bind_some]
          rw [day_of u]
          simp only [Option.bind_some]
          rw [if_pos (by omega), hi1]
theorem cal_of (st : List Int) : ∃ b2 b5 c, Ev (fun k => mootkeep1_cal.f k st) (false, false, b2, false, false, b5, true, c) ∧ c.length ≤ 9 ∧ ∀ s ∈ c, GoodRule s := by
  obtain ⟨u, s1, e1, u0, u1⟩ := next_of st 2 (by omega) (by omega)
  obtain ⟨v, s2, e2, v0, v1⟩ := next_of s1 8 (by omega) (by omega)
  obtain ⟨m, s3, e3, m0, m1⟩ := next_of s2 9 (by omega) (by omega)
  obtain ⟨c, hc, hr⟩ := cal_l0 m m1 (v == 1) (u == 1) _ 0 s3 [] (by omega) rfl rfl (fun s h => by simp at h)
  refine ⟨v == 1, u == 1, c, ?_, hr⟩
  · simp only [mootkeep1_cal.f]
    simp only [e1, e2, e3, Option.bind_some]
    exact hc
theorem pf_of : ∃ pf : Int → Int × Int × Int, ∀ d, 0 ≤ d → d ≤ 1048575 → Ev (fun k => day_Parts.f k d) (pf d) ∧ IsParts d (pf d).1 (pf d).2.1 (pf d).2.2 := by
  have : ∀ d : Int, ∃ p : Int × Int × Int, 0 ≤ d → d ≤ 1048575 → Ev (fun k => day_Parts.f k d) p ∧ IsParts d p.1 p.2.1 p.2.2 := by
    intro d
    by_cases hd : 0 ≤ d ∧ d ≤ 1048575
    · obtain ⟨y, m, k, hp⟩ := parts_exists d hd.1
      exact ⟨(y, m, k), fun h0 h1 => ⟨parts_of h0 h1 hp, hp⟩⟩
    · exact ⟨(0, 0, 0), fun h0 h1 => absurd ⟨h0, h1⟩ hd⟩
  exact Classical.axiomOfChoice this
/-- the holidays of a year from a date on -/
def hl (yr : Int → Int × Int × Int) (hol : Int → Bool) (y : Int) : Nat → Int → List Int
  | 0, _ => []
  | n + 1, d => if (yr d).1 = y then (if hol d = true then d :: hl yr hol y n (d + 1) else hl yr hol y n (d + 1)) else hl yr hol y n (d + 1)
theorem mem_hl (yr : Int → Int × Int × Int) (hol : Int → Bool) (y : Int) (x : Int) (n : Nat) : ∀ d, x ∈ hl yr hol y n d ↔ d ≤ x ∧ x < d + n ∧ (yr x).1 = y ∧ hol x = true := by
  induction n with
  | zero => intro d; simp [hl]; omega
  | succ n ih =>
    intro d
    rw [hl]
    by_cases h1 : (yr d).1 = y
    · rw [if_pos h1]
      by_cases h2 : hol d = true
      · rw [if_pos h2, List.mem_cons, ih]
        constructor
        · rintro (rfl | ⟨a, b, c⟩)
          · exact ⟨by omega, by omega, h1, h2⟩
          · exact ⟨by omega, by omega, c⟩
        · rintro ⟨a, b, c⟩
          by_cases hx : x = d
          · exact .inl hx
          · exact .inr ⟨by omega, by omega, c⟩
      · rw [if_neg h2, ih]
        constructor
        · rintro ⟨a, b, c⟩; exact ⟨by omega, by omega, c⟩
        · rintro ⟨a, b, c⟩
          have hx : x ≠ d := by rintro rfl; exact h2 c.2
          exact ⟨by omega, by omega, c⟩
    · rw [if_neg h1, ih]
      constructor
      · rintro ⟨a, b, c⟩; exact ⟨by omega, by omega, c⟩
      · rintro ⟨a, b, c⟩
        have hx : x ≠ d := by rintro rfl; exact h1 c.1
        exact ⟨by omega, by omega, c⟩
theorem pw_hl (yr : Int → Int × Int × Int) (hol : Int → Bool) (y : Int) (n : Nat) : ∀ d, (hl yr hol y n d).Pairwise fun a b => a < b := by
  induction n with
  | zero => intro d; exact List.Pairwise.nil
  | succ n ih =>
    intro d
    rw [hl]
    split
    · split
      · refine List.pairwise_cons.2 ⟨fun x hx => ?_, ih _⟩
        have := (mem_hl yr hol y x n (d + 1)).1 hx
        omega
      · exact ih _
    · exact ih _
/-- in a year a rule meets one date at most -/
theorem meets_at (s : S80) (h : GoodRule s) (y : Int) (hy1 : 1 ≤ y) (hB : y ≤ 2871) : ∃ v : Int, ∀ d m k : Int, IsParts d y m k → 0 ≤ d → d ≤ 1048575 → ∃ b, Ev (fun n => feast_meets.f n s.f0 s.f1 s.f2 s.f3 s.f4 d) b ∧ (b = true → d = v) := by
  rcases h with ⟨h0, h1, h2, h3, h4, h5, h6⟩ | ⟨h0, h1, h2, h3, h4, h5, h6⟩ | ⟨h0, h1, h2, h3, h4, h5⟩ | ⟨h0, h1, h2, h3, h4, h5⟩
  · refine ⟨F y + A y s.f1 + s.f2 - 1, fun d m k hp d0 d1 => ?_⟩
    have heq := hp.eq
    simp only [feast_meets.f]
    rw [h0]
    by_cases hm : m = s.f1
    · refine ⟨_, Ev.bind (parts_of d0 d1 hp) (Ev.ifp rfl (Ev.ifp hm (Ev.now _))), fun hb => ?_⟩
      have := eq_of_beq hb
      simp only at this
      rw [← hm, ← this]
      exact heq
    · exact ⟨_, Ev.bind (parts_of d0 d1 hp) (Ev.ifp rfl (Ev.ifn hm (Ev.now _))), fun hb => absurd hb (by decide)⟩
  · obtain ⟨p, hn⟩ := nth_of y s.f1 s.f3 s.f4 hy1 hB h1 h2 h4 h5
    refine ⟨p.1, fun d m k hp d0 d1 => ?_⟩
    simp only [feast_meets.f]
    rw [h0]
    by_cases hq : p.2 = true
    · exact ⟨_, Ev.bind (parts_of d0 d1 hp) (Ev.ifn (by decide) (Ev.ifp rfl (Ev.bind hn (Ev.ifp hq (Ev.now _))))), fun hb => (eq_of_beq hb).symm⟩
    · exact ⟨_, Ev.bind (parts_of d0 d1 hp) (Ev.ifn (by decide) (Ev.ifp rfl (Ev.bind hn (Ev.ifn hq (Ev.now _))))), fun hb => absurd hb (by decide)⟩
  · obtain ⟨x, hx, _⟩ := sun_of y hy1 hB
    refine ⟨wrap64 (x + s.f2), fun d m k hp d0 d1 => ?_⟩
    simp only [feast_meets.f]
    rw [h0]
    exact ⟨_, Ev.bind (parts_of d0 d1 hp) (Ev.ifn (by decide) (Ev.ifn (by decide) (Ev.ifp rfl (Ev.bind hx (Ev.ifp rfl (Ev.now _)))))), fun hb => (eq_of_beq hb).symm⟩
  · refine ⟨s.f2, fun d m k hp d0 d1 => ?_⟩
    simp only [feast_meets.f]
    rw [h0]
    exact ⟨_, Ev.bind (parts_of d0 d1 hp) (Ev.ifn (by decide) (Ev.ifn (by decide) (Ev.ifn (by decide) (Ev.now _)))), fun hb => (eq_of_beq hb).symm⟩
/-- an increasing list of whole numbers from a to b is no longer than that -/
theorem inc_len (b : Int) : ∀ (l : List Int) (a : Int), (∀ x ∈ l, a ≤ x ∧ x < b) → l.Pairwise (fun x y => x < y) → a ≤ b → (l.length : Int) ≤ b - a
  | [], a, _, _, hab => by simp; omega
  | x :: l, a, h, hp, hab => by
    have hx := h x (by simp)
    have h' := List.pairwise_cons.1 hp
    have := inc_len b l (x + 1) (fun z hz => by have := h'.1 z hz; have := h z (by simp [hz]); omega) h'.2 (by omega)
    rw [List.length_cons]
    omega
theorem filter_len {α : Type} (p : α → Bool) : ∀ l : List α, l.length = (l.filter p).length + (l.filter fun x => !p x).length
  | [] => rfl
  | x :: l => by
    have := filter_len p l
    cases hp : p x <;> simp [List.filter, hp] <;> omega
/-- an increasing list of dates of three years, one a year at most, has three members at most -/
theorem three_years (yr : Int → Int) (P : Int → Prop) (mono : ∀ a b, P a → P b → a < b → yr a ≤ yr b) (y : Int) (q : Int → Bool) (uniq : ∀ a b, P a → P b → q a = true → q b = true → yr a = yr b → a = b)
    (l : List Int) (hP : ∀ x ∈ l, P x) (hy : ∀ x ∈ l, y ≤ yr x ∧ yr x < y + 3) (hq : ∀ x ∈ l, q x = true) (hp : l.Pairwise fun a b => a < b) : l.length ≤ 3 := by
  have hp2 : (l.map yr).Pairwise fun a b => a < b := by
    rw [List.pairwise_map]
    refine List.Pairwise.imp_of_mem (fun {a b} ha hb hab => ?_) hp
    have h1 := mono a b (hP a ha) (hP b hb) hab
    have h2 : yr a ≠ yr b := fun e => by have := uniq a b (hP a ha) (hP b hb) (hq a ha) (hq b hb) e; omega
    omega
  have := inc_len (y + 3) (l.map yr) y (fun x hx => by
    obtain ⟨z, hz, rfl⟩ := List.mem_map.1 hx
    exact hy z hz) hp2 (by omega)
  rw [List.length_map] at this
  omega
theorem count_rules {ρ : Type} (yr : Int → Int) (P : Int → Prop) (mono : ∀ a b, P a → P b → a < b → yr a ≤ yr b) (y : Int) (hit : ρ → Int → Bool) :
    ∀ (c : List ρ) (l : List Int), (∀ s ∈ c, ∀ a b, P a → P b → hit s a = true → hit s b = true → yr a = yr b → a = b) → (∀ x ∈ l, P x) → (∀ x ∈ l, y ≤ yr x ∧ yr x < y + 3) → (∀ x ∈ l, ∃ s ∈ c, hit s x = true) → (l.Pairwise fun a b => a < b) → l.length ≤ 3 * c.length
  | [], l, _, _, _, hh, _ => by
    cases l with
    | nil => simp
    | cons x l => obtain ⟨s, hs, _⟩ := hh x (by simp); simp at hs
  | s :: c, l, hu, hP, hy, hh, hp => by
    have h1 := three_years yr P mono y (hit s) (hu s (by simp)) (l.filter (hit s)) (fun x hx => hP x (List.mem_filter.1 hx).1) (fun x hx => hy x (List.mem_filter.1 hx).1) (fun x hx => (List.mem_filter.1 hx).2) (hp.filter _)
    have h2 := count_rules yr P mono y hit c (l.filter fun x => !hit s x) (fun t ht => hu t (by simp [ht])) (fun x hx => hP x (List.mem_filter.1 hx).1) (fun x hx => hy x (List.mem_filter.1 hx).1) (fun x hx => by
      obtain ⟨hx1, hx2⟩ := List.mem_filter.1 hx
      obtain ⟨t, ht, hht⟩ := hh x hx1
      rcases List.mem_cons.1 ht with rfl | ht
      · rw [hht] at hx2; exact absurd hx2 (by decide)
      · exact ⟨t, ht, hht⟩) (hp.filter _)
    have h3 := filter_len (hit s) l
    rw [List.length_cons]
    omega
theorem any_hit (d : Int) (d0 : 0 ≤ d) (d1 : d ≤ 1048575) : ∀ l : List S80, (∀ s ∈ l, GoodRule s) → Ev (fun k => feast_Is.any k d l) true → ∃ s ∈ l, Ev (fun k => feast_meets.f k s.f0 s.f1 s.f2 s.f3 s.f4 d) true
  | [], _, h => by
    simp only [feast_Is.any] at h
    exact absurd (Ev.unique h (Ev.now false)) (by decide)
  | s :: l, hg, h => by
    obtain ⟨b, hb⟩ := meets_of s (hg s (by simp)) d d0 d1
    have ho : Ev (fun k => feast_Is.one k s d) b := by
      simp only [feast_Is.one]
      exact Ev.bind (fcheck_of s (hg s (by simp))) (Ev.ifp rfl hb)
    cases b
    · obtain ⟨c, hc⟩ := any_of d d0 d1 l (fun t ht => hg t (by simp [ht]))
      have h2 : Ev (fun k => feast_Is.any k d (s :: l)) c := by
        simp only [feast_Is.any]
        exact Ev.bind ho (Ev.ifn (by decide) hc)
      obtain rfl := Ev.unique h h2
      obtain ⟨t, ht, he⟩ := any_hit d d0 d1 l (fun t ht => hg t (by simp [ht])) hc
      exact ⟨t, by simp [ht], he⟩
    · exact ⟨s, by simp, hb⟩
theorem year_top {d y m k : Int} (h : IsParts d y m k) : F y ≤ d ∧ d ≤ F y + 365 := by
  have h1 := A_range y m h.m1 (by have := h.m2; omega)
  have h2 := (A_range y (m + 1) (by have := h.m1; omega) (by have := h.m2; omega)).2.1
  have h3 : L y m = A y (m + 1) - A y m := rfl
  have := h.eq; have := h.k1; have := h.k2
  omega
/-- within 400 days there is a Monday that is no holiday -/
theorem has_free (c : List S80) (hg : ∀ s ∈ c, GoodRule s) (hlen : c.length ≤ 9) (b0 b1 b2 b3 b4 b5 b6 : Bool) (hol : Int → Bool) (hhol : ∀ d, 0 ≤ d → d ≤ 1048575 → Ev (fun k => feast_Is.f k b0 b1 b2 b3 b4 b5 b6 c d) (hol d)) (d : Int) (d0 : 0 ≤ d) (d1 : d + 400 ≤ 1048575) :
    ∃ x, d ≤ x ∧ x ≤ d + 400 ∧ x % 7 = 0 ∧ hol x = false := by
  classical
  apply Classical.byContradiction
  intro hno
  obtain ⟨pf, hpf⟩ := pf_of
  obtain ⟨m0, hm0⟩ : ∃ m, m = d + (7 - d % 7) % 7 := ⟨_, rfl⟩
  have hmem : ∀ x ∈ (List.range 57).map (fun i : Nat => m0 + 7 * (i : Int)), d ≤ x ∧ x ≤ d + 400 ∧ x % 7 = 0 := by
    intro x hx
    obtain ⟨i, hi, rfl⟩ := List.mem_map.1 hx
    have := List.mem_range.1 hi
    omega
  have hall : ∀ x ∈ (List.range 57).map (fun i : Nat => m0 + 7 * (i : Int)), hol x = true := by
    intro x hx
    have := hmem x hx
    cases hh : hol x with
    | true => rfl
    | false => exact absurd ⟨x, this.1, this.2.1, this.2.2, hh⟩ hno
  have hy0 := year_top (hpf d d0 (by omega)).2
  have hc := count_rules (fun x => (pf x).1) (fun x => 0 ≤ x ∧ x ≤ 1048575) (fun a b ha hb hab => by
      have h1 := year_top (hpf a ha.1 ha.2).2
      have h2 := year_top (hpf b hb.1 hb.2).2
      apply Classical.byContradiction
      intro hn
      have := F_mono (pf b).1 (pf a).1 (by omega)
      omega) (pf d).1 (fun (s : S80) x => decide (Ev (fun k => feast_meets.f k s.f0 s.f1 s.f2 s.f3 s.f4 x) true)) c ((List.range 57).map (fun i : Nat => m0 + 7 * (i : Int)))
    (fun s hs a b ha hb hsa hsb he => by
      have ea := of_decide_eq_true hsa
      have eb := of_decide_eq_true hsb
      have pa := (hpf a ha.1 ha.2).2
      have pb := (hpf b hb.1 hb.2).2
      obtain ⟨v, hv⟩ := meets_at s (hg s hs) (pf a).1 pa.y1 (IsPartsB pa ha.2)
      obtain ⟨x, hx, hx2⟩ := hv a _ _ pa ha.1 ha.2
      obtain ⟨z, hz, hz2⟩ := hv b _ _ (by rw [he]; exact pb) hb.1 hb.2
      rw [hx2 (Ev.unique hx ea), hz2 (Ev.unique hz eb)])
    (fun x hx => by have := hmem x hx; omega)
    (fun x hx => by
      have h1 := hmem x hx
      have h2 := year_top (hpf x (by omega) (by omega)).2
      constructor
      · apply Classical.byContradiction
        intro hn
        have := F_mono (pf x).1 (pf d).1 (by omega)
        by_cases hxd : x = d
        · subst hxd; omega
        · omega
      · apply Classical.byContradiction
        intro hn
        have h4 := F_mono (pf d).1 ((pf d).1 + 1) (by omega)
        have h5 := F_mono ((pf d).1 + 1) ((pf d).1 + 2) (by omega)
        have h6 := F_mono ((pf d).1 + 2) (pf x).1 (by omega)
        omega)
    (fun x hx => by
      have h1 := hmem x hx
      have h2 := hhol x (by omega) (by omega)
      rw [hall x hx] at h2
      have h3 : Ev (fun k => feast_Is.any k x c) true := by
        refine Ev.congr (fun k => ?_) h2
        simp only [feast_Is.f]
        rw [if_pos ⟨by omega, by omega⟩, if_pos (by omega)]
      obtain ⟨s, hs, he⟩ := any_hit x (by omega) (by omega) c hg h3
      exact ⟨s, hs, decide_eq_true he⟩)
    (by
      rw [List.pairwise_map]
      exact List.Pairwise.imp (fun {a b} hab => by omega) List.pairwise_lt_range)
  rw [List.length_map, List.length_range] at hc
  omega
theorem feasts_of : Ev (fun n => mootkeep1_feasts.f n) true := by
  simp only [mootkeep1_feasts.f]
  have h0 : feast_Sunday.f 1 2000 = some (730232, 0) := by decide +kernel
  refine Ev.bind (a := (730232, 0)) (Ev.step (fun c => (sun_step 2000 c).trans h0) (Ev.now _)) ?_
  refine Ev.bind (parts_of (y := 2000) (m := 4) (k := 23) (by omega) (by omega) ⟨by decide, by decide, by decide, by decide, by decide, by decide⟩) ?_
  exact Ev.now _
theorem wks_of (b2 b5 : Bool) (c : List S80) (hg : ∀ s ∈ c, GoodRule s) (hlen : c.length ≤ 9) : ∃ wk : Int → Bool, (∀ d, 0 ≤ d → d ≤ 1048575 → Ev (fun k => feast_Works.f k false false b2 false false b5 true c d) (wk d)) ∧ ∀ d, 0 ≤ d → d + 400 ≤ 1048575 → ∃ x, d ≤ x ∧ x ≤ d + 400 ∧ wk x = true := by
  obtain ⟨hol, hhol⟩ := fIs_of false false b2 false false b5 true c hg (by omega)
  refine ⟨fun d => if feast_Works.wk false false b2 false false b5 true (d % 7) = true then false else !hol d, fun d d0 d1 => ?_, fun d d0 d1 => ?_⟩
  · have hw : day_Week.f d = some (d % 7) := by
      unfold day_Week.f
      rw [clamp_of _ d0 d1]
      simp only [Option.bind_some]
      rw [tmodnn d0]
    simp only [feast_Works.f, hw, Option.bind_some]
    refine Ev.ifp ⟨d0, d1⟩ (Ev.ifp ⟨by omega, by omega⟩ ?_)
    by_cases hc : feast_Works.wk false false b2 false false b5 true (d % 7) = true
    · rw [if_pos hc]; exact Ev.ifp hc (Ev.now _)
    · rw [if_neg hc]; exact Ev.ifn hc (Ev.bind (hhol d d0 d1) (Ev.now _))
  · obtain ⟨x, h1, h2, h3, h4⟩ := has_free c hg hlen _ _ _ _ _ _ _ hol hhol d d0 d1
    refine ⟨x, h1, h2, ?_⟩
    simp only [h3, h4]
    rfl
def cnt (wk : Int → Bool) : Nat → Int → Int
  | 0, _ => 0
  | n + 1, d => (if wk d = true then 1 else 0) + cnt wk n (d + 1)
theorem cnt_range (wk : Int → Bool) : ∀ (n : Nat) (d : Int), 0 ≤ cnt wk n d ∧ cnt wk n d ≤ n
  | 0, d => by simp [cnt]
  | n + 1, d => by
    have := cnt_range wk n (d + 1)
    rw [cnt]
    split <;> omega
theorem cnt_add (wk : Int → Bool) (m : Nat) : ∀ (n : Nat) (d : Int), cnt wk (n + m) d = cnt wk n d + cnt wk m (d + n)
  | 0, d => by simp [cnt]
  | n + 1, d => by
    rw [show n + 1 + m = (n + m) + 1 by omega, cnt, cnt_add wk m n (d + 1), cnt, show d + 1 + (n : Int) = d + ((n + 1 : Nat) : Int) by omega]
    omega
theorem count_l0 (to_ : Int) (ht : to_ ≤ 1048576) (wk : Int → Bool) (b0 b1 b2 b3 b4 b5 b6 : Bool) (c : List S80) (hw : ∀ d, 0 ≤ d → d ≤ 1048575 → Ev (fun k => feast_Works.f k b0 b1 b2 b3 b4 b5 b6 c d) (wk d)) (n : Nat) :
    ∀ (d acc : Int), 0 ≤ d → d + n = to_ → 0 ≤ acc → acc + n ≤ 2000000 → Ev (fun k => feast_Count.l0 k to_ acc d b0 b1 b2 b3 b4 b5 b6 c) (acc + cnt wk n d, 0) := by
  induction n with
  | zero =>
    intro d acc h0 h1 h2 h3
    rw [cnt, Int.add_zero]
    refine Ev.step (f := fun _ => some (acc, 0)) (fun k => ?_) (Ev.now _)
    simp only [feast_Count.l0]
    rw [if_neg (by omega)]
  | succ n ih =>
    intro d acc h0 h1 h2 h3
    have hh := hw d h0 (by omega)
    refine Ev.step (f := fun k => (feast_Works.f k b0 b1 b2 b3 b4 b5 b6 c d).bind fun t187 => if t187 = true then feast_Count.l0 k to_ (wrap64 (acc + 1)) (d + 1) b0 b1 b2 b3 b4 b5 b6 c else feast_Count.l0 k to_ acc (d + 1) b0 b1 b2 b3 b4 b5 b6 c) (fun k => ?_) ?_
    · simp only [feast_Count.l0]
      rw [if_pos (by omega), w64 (x := d + 1) (by omega) (by omega)]
    · refine Ev.bind hh ?_
      rw [cnt]
      by_cases hc : wk d = true
      · rw [if_pos hc, w64 (x := acc + 1) (by omega) (by omega)]
        have := ih (d + 1) (acc + 1) (by omega) (by omega) (by omega) (by omega)
        rw [Int.add_assoc] at this
        exact Ev.ifp hc this
      · rw [if_neg hc, Int.zero_add]
        exact Ev.ifn hc (ih (d + 1) acc (by omega) (by omega) h2 (by omega))
theorem count_of (wk : Int → Bool) (b1 b2 b3 b4 b5 b6 : Bool) (c : List S80) (hg : ∀ s ∈ c, GoodRule s) (hl : c.length ≤ 60) (hw : ∀ d, 0 ≤ d → d ≤ 1048575 → Ev (fun k => feast_Works.f k false b1 b2 b3 b4 b5 b6 c d) (wk d)) (d : Int) (n : Nat) (d0 : 0 ≤ d) (h1 : d + n ≤ 1048576) (h2 : n ≤ 8000) :
    Ev (fun k => feast_Count.f k false b1 b2 b3 b4 b5 b6 c d (d + n)) (cnt wk n d, 0) := by
  have hc := count_l0 (d + n) h1 wk false b1 b2 b3 b4 b5 b6 c hw n d 0 d0 rfl (by omega) (by omega)
  rw [Int.zero_add] at hc
  simp only [feast_Count.f]
  refine Ev.bind (fCheck_of _ _ _ _ _ _ c hg hl) (Ev.ifp rfl (Ev.ifn (by omega) (Ev.ifn (by omega) (Ev.step (fun k => ?_) hc))))
  simp only [feast_Count.j0]
  rw [decide_eq_false (by omega), if_neg (by decide), w64 (by omega) (by omega), if_neg (by omega)]
theorem next_l0 (d : Int) (d0 : 0 ≤ d) (h1 : d + 400 ≤ 1048575) (wk : Int → Bool) (b0 b1 b2 b3 b4 b5 b6 : Bool) (c : List S80) (hw : ∀ d, 0 ≤ d → d ≤ 1048575 → Ev (fun k => feast_Works.f k b0 b1 b2 b3 b4 b5 b6 c d) (wk d)) (m : Nat) :
    ∀ x : Int, d ≤ x → x + m = d + 400 + 1 → (∃ z, x ≤ z ∧ z ≤ d + 400 ∧ wk z = true) → ∃ n : Nat, Ev (fun k => feast_Next.l0 k d x b0 b1 b2 b3 b4 b5 b6 c) (x + n, 0) ∧ x + n ≤ d + 400 ∧ wk (x + n) = true ∧ cnt wk n x = 0 := by
  induction m with
  | zero => intro x h2 h3 ⟨z, hz⟩; omega
  | succ m ih =>
    intro x h2 h3 ⟨z, hz1, hz2, hz3⟩
    have hh := hw x (by omega) (by omega)
    have hs : ∀ k, feast_Next.l0 (k + 1) d x b0 b1 b2 b3 b4 b5 b6 c = (feast_Works.f k b0 b1 b2 b3 b4 b5 b6 c x).bind fun t184 => if t184 = true then some (x, 0) else feast_Next.l0 k d (x + 1) b0 b1 b2 b3 b4 b5 b6 c := by
      intro k
      simp only [feast_Next.l0]
      rw [w64 (x := d + 400) (by omega) (by omega), if_pos (by omega), w64 (x := x + 1) (by omega) (by omega)]
    by_cases hc : wk x = true
    · refine ⟨0, ?_, by omega, by simpa using hc, rfl⟩
      simp only [Int.natCast_zero, Int.add_zero]
      exact Ev.step hs (Ev.bind hh (Ev.ifp hc (Ev.now _)))
    · have hzx : z ≠ x := by rintro rfl; exact hc hz3
      obtain ⟨n, hn, h4, h5, h6⟩ := ih (x + 1) (by omega) (by omega) ⟨z, by omega, hz2, hz3⟩
      have e : x + ((n + 1 : Nat) : Int) = x + 1 + n := by omega
      refine ⟨n + 1, ?_, by omega, by rw [e]; exact h5, by rw [cnt, if_neg hc, h6]; rfl⟩
      rw [e]
      exact Ev.step hs (Ev.bind hh (Ev.ifn hc hn))
theorem FeastNext : mootkeep1_FeastNext.Pure := by
  intro st a1 a2 a3 _ _ _ _ _ _
  have r1 := below_range a1 40000 (by omega)
  have r2 := below_range a2 500 (by omega)
  have r3 := below_range a3 500 (by omega)
  obtain ⟨d, hd⟩ : ∃ d, d = 700000 + a1 % 40000 := ⟨_, rfl⟩
  obtain ⟨m, hm⟩ : ∃ m : Nat, a2 % 500 = (m : Int) := ⟨(a2 % 500).toNat, by omega⟩
  obtain ⟨q, hq⟩ : ∃ q : Nat, a3 % 500 = (q : Int) := ⟨(a3 % 500).toNat, by omega⟩
  obtain ⟨b2, b5, c, hcal, hlen, hg⟩ := cal_of st
  obtain ⟨wk, hwk, hfree⟩ := wks_of b2 b5 c hg hlen
  have hC := count_of wk false b2 false false b5 true c hg (by omega) hwk
  obtain ⟨n, hn, hn1, hn2, hn3⟩ := next_l0 d (by omega) (by omega) wk false false b2 false false b5 true c hwk 401 d (by omega) (by omega) (hfree d (by omega) (by omega))
  have hN : Ev (fun k => feast_Next.f k false false b2 false false b5 true c d) (d + n, 0) := by
    simp only [feast_Next.f]
    refine Ev.bind (fCheck_of _ _ _ _ _ _ c hg (by omega)) (Ev.ifp rfl (Ev.ifn (by omega) (Ev.step (fun k => ?_) hn)))
    simp only [feast_Next.j0]
    rw [decide_eq_false (by omega), if_neg (by decide)]
  have h1 := hC d m (by omega) (by omega) (by omega)
  have h2 := hC (d + m) q (by omega) (by omega) (by omega)
  have h3 := hC d (m + q) (by omega) (by omega) (by omega)
  rw [show d + ((m + q : Nat) : Int) = d + m + q by omega] at h3
  have h4 := hC d n (by omega) (by omega) (by omega)
  have c1 := cnt_range wk m d
  have c2 := cnt_range wk q (d + m)
  have c3 := cnt_add wk q m d
  refine Ev.rounds (g := fun k => mootkeep1_FeastNext.f k st a1 a2 a3) ?_
  simp only [mootkeep1_FeastNext.f]
  refine Ev.bind hcal ?_
  simp only [day_of, Option.bind_some]
  rw [← hd, below_of _ _ (by omega) (by omega), below_of _ _ (by omega) (by omega), hm, hq]
  simp only [Option.bind_some]
  rw [w64 (x := d + m) (by omega) (by omega), w64 (x := d + m + q) (by omega) (by omega)]
  refine Ev.bind hN (Ev.bind h1 (Ev.bind h2 (Ev.bind h3 (Ev.bind feasts_of (Ev.ifp rfl (Ev.ifp rfl (Ev.ifp rfl (Ev.ifp rfl (Ev.ifp rfl ?_)))))))))
  refine Ev.step (f := fun k => (feast_Count.f k false false b2 false false b5 true c d (d + n)).bind fun bt => if bt.2 = 0 then (if bt.1 = 0 then ((feast_Works.f k false false b2 false false b5 true c (d + n)).bind fun t => if t = true then some (decide (d + (n : Int) ≥ d)) else some false) else some false) else some false) (fun k => ?_) ?_
  · simp only [mootkeep1_FeastNext.j0]
    rw [w64 (by omega) (by omega), c3, if_neg (by simp)]
  · refine Ev.bind h4 (Ev.ifp rfl (Ev.ifp hn3 ?_))
    have := hwk (d + n) (by omega) (by omega)
    exact Ev.bind this (Ev.ifp hn2 (Ev.to (decide_eq_true (by omega))))
end Go.Proofs.Ytaljkilnpfmlaaa.Pure
