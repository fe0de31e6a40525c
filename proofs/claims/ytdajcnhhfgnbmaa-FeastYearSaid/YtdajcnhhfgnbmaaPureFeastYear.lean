/-
The holidays of a year are in it, in order, and each date is one of them exactly if it is a holiday, for every list and every number.
-/
import Derived.Test.YtdajcnhhfgnbmaaPFeastYearx7
set_option linter.unusedVariables false
set_option linter.unusedSimpArgs false
namespace Go.Proofs.Ytdajcnhhfgnbmaa.Days
/-- the first day of a year -/
def F (y : Int) : Int := 365 * (y - 1) + (y - 1) / 4 - (y - 1) / 100 + (y - 1) / 400
def lp (y : Int) : Prop := y % 4 = 0 ∧ (y % 100 ≠ 0 ∨ y % 400 = 0)
instance (y : Int) : Decidable (lp y) := by unfold lp; infer_instance
/-- how many days of a year are ahead of a month -/
def A (y m : Int) : Int := (367 * m - 362) / 12 - (if m ≤ 2 then 0 else if lp y then 1 else 2)
def N (y m k : Int) : Int := F y + A y m + k - 1

theorem F_succ (y : Int) : F (y + 1) = F y + (if lp y then 366 else 365) := by
  unfold F
  by_cases h : lp y
  · rw [if_pos h]; unfold lp at h; omega
  · rw [if_neg h]; unfold lp at h; omega
theorem A13 (y : Int) : A y 13 = (if lp y then 366 else 365) := by
  unfold A; by_cases h : lp y <;> simp [h]
theorem A1 (y : Int) : A y 1 = 0 := by unfold A; simp
theorem months (m : Int) (h1 : 1 ≤ m) (h2 : m ≤ 12) : m = 1 ∨ m = 2 ∨ m = 3 ∨ m = 4 ∨ m = 5 ∨ m = 6 ∨ m = 7 ∨ m = 8 ∨ m = 9 ∨ m = 10 ∨ m = 11 ∨ m = 12 := by omega
/-- the size of a month -/
def L (y m : Int) : Int := A y (m + 1) - A y m
theorem L_range (y m : Int) (h1 : 1 ≤ m) (h2 : m ≤ 12) : 28 ≤ L y m ∧ L y m ≤ 31 := by
  unfold L A
  rcases months m h1 h2 with rfl | rfl | rfl | rfl | rfl | rfl | rfl | rfl | rfl | rfl | rfl | rfl <;> by_cases h : lp y <;> simp [h]
theorem A_range (y m : Int) (_ : 1 ≤ m) (_ : m ≤ 13) : 0 ≤ A y m ∧ A y m ≤ 366 ∧ 28 * (m - 1) ≤ A y m ∧ A y m ≤ 31 * (m - 1) := by
  unfold A; split <;> (try split) <;> omega
theorem A_mono (y m m' : Int) (h1 : 1 ≤ m) (h : m < m') (h2 : m' ≤ 13) : A y m + 28 ≤ A y m' := by
  unfold A; by_cases hl : lp y <;> simp only [hl, if_true, if_false] <;> (split <;> split <;> omega)
theorem F_mono (y y' : Int) (h : y < y') : F y + 365 ≤ F y' := by unfold F; omega
theorem F_range (y : Int) (h : 1 ≤ y) : 365 * (y - 1) ≤ F y ∧ F y ≤ 366 * (y - 1) := by unfold F; omega

/-- the first day of month number M, counted from 0 -/
def FM (M : Int) : Int := F (M / 12 + 1) + A (M / 12 + 1) (M % 12 + 1)
def SM (M : Int) : Int := L (M / 12 + 1) (M % 12 + 1)
theorem SM_range (M : Int) : 28 ≤ SM M ∧ SM M ≤ 31 := L_range _ _ (by omega) (by omega)
theorem FM_succ (M : Int) : FM (M + 1) = FM M + SM M := by
  unfold FM SM L
  by_cases h : M % 12 = 11
  · have e1 : (M + 1) / 12 = M / 12 + 1 := by omega
    have e2 : (M + 1) % 12 = 0 := by omega
    rw [e1, e2, h, F_succ]
    have := A13 (M / 12 + 1)
    have a1 := A1 (M / 12 + 1 + 1)
    rw [show (0 : Int) + 1 = 1 from rfl, show (11 : Int) + 1 = 12 from rfl, show (12 : Int) + 1 = 13 from rfl]
    omega
  · have e1 : (M + 1) / 12 = M / 12 := by omega
    have e2 : (M + 1) % 12 = M % 12 + 1 := by omega
    rw [e1, e2]; omega
theorem FM_mono_nat (M : Int) (n : Nat) : FM M + 28 * n ≤ FM (M + n) := by
  induction n with
  | zero => simp
  | succ n ih =>
    have := FM_succ (M + n)
    have := (SM_range (M + n)).1
    have e : M + ((n + 1 : Nat) : Int) = M + n + 1 := by omega
    rw [e]; omega
theorem FM_mono (M M' : Int) (h : M < M') : FM M + SM M ≤ FM M' := by
  obtain ⟨n, rfl⟩ : ∃ n : Nat, M' = M + 1 + n := ⟨(M' - (M + 1)).toNat, by omega⟩
  have := FM_mono_nat (M + 1) n
  have := FM_succ M
  omega
theorem FM_mono' (M M' : Int) (h : M < M') : FM M + 28 ≤ FM M' := by
  have := FM_mono M M' h; have := SM_range M; omega

/-- what a date's parts are -/
structure IsParts (d y m k : Int) : Prop where
  y1 : 1 ≤ y
  m1 : 1 ≤ m
  m2 : m ≤ 12
  k1 : 1 ≤ k
  k2 : k ≤ L y m
  eq : d = F y + A y m + k - 1
theorem IsParts.fm {d y m k : Int} (h : IsParts d y m k) : d = FM (12 * (y - 1) + m - 1) + k - 1 ∧ k ≤ SM (12 * (y - 1) + m - 1) := by
  have e1 : (12 * (y - 1) + m - 1) / 12 + 1 = y := by have := h.m1; have := h.m2; omega
  have e2 : (12 * (y - 1) + m - 1) % 12 + 1 = m := by have := h.m1; have := h.m2; omega
  unfold FM SM
  rw [e1, e2]; exact ⟨h.eq, h.k2⟩
theorem month_unique {d M k M' k' : Int} (h1 : 1 ≤ k) (h2 : k ≤ SM M) (e : d = FM M + k - 1) (h1' : 1 ≤ k') (h2' : k' ≤ SM M') (e' : d = FM M' + k' - 1) : M = M' ∧ k = k' := by
  have hM : M = M' := by
    rcases Int.lt_trichotomy M M' with h | h | h
    · have := FM_mono M M' h; omega
    · exact h
    · have := FM_mono M' M h; omega
  subst hM; exact ⟨rfl, by omega⟩
theorem IsParts.unique {d y m k y' m' k' : Int} (h : IsParts d y m k) (h' : IsParts d y' m' k') : y = y' ∧ m = m' ∧ k = k' := by
  have a := h.fm; have b := h'.fm
  have := month_unique h.k1 a.2 a.1 h'.k1 b.2 b.1
  have := h.m1; have := h.m2; have := h'.m1; have := h'.m2
  omega
theorem IsParts.of_month {d M k : Int} (hM : 0 ≤ M) (h1 : 1 ≤ k) (h2 : k ≤ SM M) (e : d = FM M + k - 1) : IsParts d (M / 12 + 1) (M % 12 + 1) k :=
  ⟨by omega, by omega, by omega, h1, h2, e⟩

theorem year_start (d : Int) (h : 0 ≤ d) : F (400 * (d / 146097) + d % 146097 / 366 + 1) ≤ d ∧ 1 ≤ 400 * (d / 146097) + d % 146097 / 366 + 1 := by
  unfold F; omega
theorem year_end (d y : Int) (h : F y ≤ d) (hd : d ≤ 1048575) : y ≤ 2871 := by
  unfold F at h; omega
theorem max_parts : IsParts 1048575 2871 11 26 := by
  refine ⟨by decide, by decide, by decide, by decide, by decide, by decide⟩
theorem FM_zero : FM 0 = 0 := by decide
theorem month_nonneg {d M k : Int} (hd : 0 ≤ d) (h1 : 1 ≤ k) (h2 : k ≤ SM M) (e : d = FM M + k - 1) : 0 ≤ M := by
  refine Int.not_lt.1 fun h => ?_
  have := FM_mono M 0 (by omega)
  rw [FM_zero] at this
  omega
theorem month_le {d M k d' M' k' : Int} (h1 : 1 ≤ k) (e : d = FM M + k - 1) (h2' : k' ≤ SM M') (e' : d' = FM M' + k' - 1) (h : d ≤ d') : M ≤ M' := by
  refine Int.not_lt.1 fun hl => ?_
  have := FM_mono M' M hl
  omega
/-- every date lies in a month -/
theorem month_exists (d : Int) (h : 0 ≤ d) : ∃ M k : Int, 0 ≤ M ∧ 1 ≤ k ∧ k ≤ SM M ∧ d = FM M + k - 1 := by
  obtain ⟨n, rfl⟩ := Int.eq_ofNat_of_zero_le h
  induction n with
  | zero => exact ⟨0, 1, by decide, by decide, by decide, by decide⟩
  | succ n ih =>
    obtain ⟨M, k, h0, h1, h2, e⟩ := ih (by omega)
    by_cases hk : k + 1 ≤ SM M
    · exact ⟨M, k + 1, h0, by omega, hk, by omega⟩
    · have := SM_range (M + 1); have := FM_succ M
      exact ⟨M + 1, 1, by omega, by omega, by omega, by omega⟩
theorem parts_exists (d : Int) (h : 0 ≤ d) : ∃ y m k, IsParts d y m k := by
  obtain ⟨M, k, h0, h1, h2, e⟩ := month_exists d h
  exact ⟨_, _, _, IsParts.of_month h0 h1 h2 e⟩
end Go.Proofs.Ytdajcnhhfgnbmaa.Days
namespace Go.Proofs.Ytdajcnhhfgnbmaa.Pure
open Go.RowKit Go.Proofs.Ytdajcnhhfgnbmaa.PFeastYear Go.Proofs.YtdajcnhhfgnbmaaW.PrintWords Go.Proofs.YtdajcnhhfgnbmaaW.PrintLast Go.Proofs.Ytdajcnhhfgnbmaa.Days
/-- numbers that need no wrap -/
theorem w64 {x : Int} (h1 : -9223372036854775808 ≤ x) (h2 : x ≤ 9223372036854775807) : wrap64 x = x := by unfold wrap64; omega
theorem tdivnn {a b : Int} (h : 0 ≤ a) : Int.tdiv a b = a / b := Int.tdiv_eq_ediv_of_nonneg h
theorem tmodnn {a b : Int} (h : 0 ≤ a) : Int.tmod a b = a % b := Int.tmod_eq_emod_of_nonneg h
theorem Ev.ifp {α : Type} {c : Prop} [Decidable c] {a b : Nat → Option α} {r : α} (h : c) (k : Ev a r) : Ev (fun n => if c then a n else b n) r := Ev.congr (fun n => by rw [if_pos h]) k
theorem Ev.ifn {α : Type} {c : Prop} [Decidable c] {a b : Nat → Option α} {r : α} (h : ¬ c) (k : Ev b r) : Ev (fun n => if c then a n else b n) r := Ev.congr (fun n => by rw [if_neg h]) k
theorem Ev.to {α : Type} {a b : α} (h : a = b) : Ev (fun _ => some a) b := h ▸ Ev.now a
theorem below_of (x n : Int) (h0 : 0 < n) (h1 : n ≤ 4611686018427387904) : mootmake_Below.f x n = some (x % n) := by
  have hr := Int.emod_nonneg x (show n ≠ 0 by omega)
  have hl := Int.emod_lt_of_pos x h0
  unfold mootmake_Below.f
  rw [if_neg (by omega), Int.tmod_eq_emod]
  by_cases h : 0 ≤ x ∨ n ∣ x
  · rw [if_pos h, show x % n - ((0 : Nat) : Int) = x % n from by omega, if_neg (by omega)]
  · have h3 : x % n ≠ 0 := fun e => h (.inr (Int.dvd_of_emod_eq_zero e))
    rw [if_neg h, if_pos (by omega), w64 (by omega) (by omega)]
    congr 1; omega
theorem below_range (x n : Int) (h0 : 0 < n) : 0 ≤ x % n ∧ x % n < n := ⟨Int.emod_nonneg x (by omega), Int.emod_lt_of_pos x h0⟩
theorem drop_rd (l : List Int) (i : Nat) (h : i < l.length) : l.drop i = rd l (i : Int) :: l.drop (i + 1) := by
  rw [List.drop_eq_getElem_cons h]
  unfold rd
  simp [List.getD, h]
theorem w64_succ {i n : Nat} (h : i < n) (hn : n ≤ 9223372036854775807) : wrap64 ((i : Int) + 1) = ((i + 1 : Nat) : Int) := by
  rw [w64 (by omega) (by omega)]; omega
theorem next_of (l : List Int) (n : Int) (h0 : 0 < n) (h1 : n ≤ 4611686018427387904) : ∃ v l', mootmake_Stream_Next.f l n = some (v, l') ∧ 0 ≤ v ∧ v < n := by
  unfold mootmake_Stream_Next.f
  rw [if_neg (by omega)]
  by_cases h : l = []
  · rw [if_pos h]; exact ⟨0, l, rfl, by omega, h0⟩
  · rw [if_neg h, below_of _ _ h0 h1]
    have := below_range (rd l 0) n h0
    exact ⟨_, _, rfl, this.1, this.2⟩
theorem day_of (x : Int) : mootmake_Day.f x = some (700000 + x % 40000) := by
  unfold mootmake_Day.f
  rw [below_of _ _ (by omega) (by omega)]
  simp only [Option.bind_some]
  rw [w64 (by omega) (by omega)]
theorem clamp_of (d : Int) (h0 : 0 ≤ d) (h1 : d ≤ 1048575) : day_clamp.f d = some d := by
  unfold day_clamp.f mx mn
  congr 1; split <;> split <;> omega
theorem first_of (y : Int) (h1 : 1 ≤ y) (h2 : y ≤ 100000) : day_first.f y = some (F y) := by
  unfold day_first.f F
  simp (disch := omega) only [w64, tdivnn]
theorem leap_of (y : Int) (h1 : 1 ≤ y) : day_Leap.f y = some (decide (lp y)) := by
  unfold day_Leap.f lp
  simp (disch := omega) only [tmodnn]
  by_cases a : y % 4 = 0
  · rw [if_pos a]
    by_cases b : y % 100 = 0
    · rw [if_pos b]; by_cases c : y % 400 = 0 <;> simp [a, b, c]
    · rw [if_neg b]; simp [a, b]
  · rw [if_neg a]; simp [a]
theorem ahead_of (y m : Int) (h1 : 1 ≤ y) (m1 : 1 ≤ m) (m2 : m ≤ 13) : day_ahead.f y m = some (A y m) := by
  unfold day_ahead.f A
  rw [leap_of y h1]
  simp only [Option.bind_some]
  simp (disch := omega) only [w64, tdivnn]
  by_cases hm : m ≤ 2
  · rw [if_pos hm, if_pos hm, Int.sub_zero]
  · rw [if_neg hm, if_neg hm]
    by_cases hl : lp y
    · simp only [hl, decide_true, if_true]
    · simp [hl]
theorem parts_l1 (y r : Int) (h1 : 1 ≤ y) (h2 : y ≤ 100000) (hr : r < A y 13) (n : Nat) : ∀ m : Int, 1 ≤ m → m ≤ 12 → (12 - m).toNat = n → A y m ≤ r →
    ∃ m' k' : Int, Ev (fun k => day_Parts.l1 k y r m) (y, m', k') ∧ 1 ≤ m' ∧ m' ≤ 12 ∧ 1 ≤ k' ∧ k' ≤ L y m' ∧ r = A y m' + k' - 1 := by
  have hA13 := A_range y 13 (by omega) (by omega)
  induction n with
  | zero =>
    intro m m1 m2 hn ha
    obtain rfl : m = 12 := by omega
    have := A_range y 12 (by omega) (by omega)
    refine ⟨12, r - A y 12 + 1, Ev.step (fun k => ?_) (Ev.now _), by omega, by omega, by omega, by unfold L; rw [show (12 : Int) + 1 = 13 from rfl]; omega, by omega⟩
    simp only [day_Parts.l1]
    rw [if_neg (by omega), ahead_of _ _ h1 (by omega) (by omega)]
    simp only [Option.bind_some]
    rw [w64 (x := r - A y 12) (by omega) (by omega), w64 (by omega) (by omega)]
  | succ n ih =>
    intro m m1 m2 hn ha
    have hb := A_range y m (by omega) (by omega)
    by_cases hc : A y (m + 1) ≤ r
    · obtain ⟨m', k', he, h⟩ := ih (m + 1) (by omega) (by omega) (by omega) hc
      refine ⟨m', k', Ev.step (fun k => ?_) he, h⟩
      simp only [day_Parts.l1]
      rw [if_pos (by omega), w64 (x := m + 1) (by omega) (by omega), ahead_of _ _ h1 (by omega) (by omega)]
      simp only [Option.bind_some]
      rw [if_pos hc]
    · refine ⟨m, r - A y m + 1, Ev.step (fun k => ?_) (Ev.now _), m1, m2, by omega, by unfold L; omega, by omega⟩
      simp only [day_Parts.l1]
      rw [if_pos (by omega), w64 (x := m + 1) (by omega) (by omega), ahead_of _ _ h1 (by omega) (by omega)]
      simp only [Option.bind_some]
      rw [if_neg hc, ahead_of _ _ h1 (by omega) (by omega)]
      simp only [Option.bind_some]
      rw [w64 (x := r - A y m) (by omega) (by omega), w64 (by omega) (by omega)]
theorem parts_l0 (d : Int) (h0 : 0 ≤ d) (hd : d ≤ 1048575) (n : Nat) : ∀ y : Int, 1 ≤ y → F y ≤ d → (3000 - y).toNat = n →
    ∃ y' m' k' : Int, Ev (fun k => day_Parts.l0 k d y) (y', m', k') ∧ IsParts d y' m' k' := by
  induction n with
  | zero => intro y h1 hf hn; have := year_end d y hf hd; omega
  | succ n ih =>
    intro y h1 hf hn
    have hy := year_end d y hf hd
    have hF := F_range y h1
    by_cases hc : F (y + 1) ≤ d
    · obtain ⟨y', m', k', he, h⟩ := ih (y + 1) (by omega) hc (by omega)
      refine ⟨y', m', k', Ev.step (fun k => ?_) he, h⟩
      simp only [day_Parts.l0]
      rw [w64 (x := y + 1) (by omega) (by omega), first_of _ (by omega) (by omega)]
      simp only [Option.bind_some]
      rw [if_pos hc]
    · have hs := F_succ y
      have h13 := A13 y
      obtain ⟨m', k', he, m1, m2, k1, k2, e⟩ := parts_l1 y (d - F y) h1 (by omega) (by omega) _ 1 (by omega) (by omega) rfl (by rw [A1]; omega)
      refine ⟨y, m', k', Ev.step (fun k => ?_) he, ⟨h1, m1, m2, k1, k2, by omega⟩⟩
      simp only [day_Parts.l0]
      rw [w64 (x := y + 1) (by omega) (by omega), first_of _ (by omega) (by omega)]
      simp only [Option.bind_some]
      rw [if_neg hc, first_of _ (by omega) (by omega)]
      simp only [Option.bind_some]
      rw [w64 (x := d - F y) (by omega) (by omega)]
theorem parts_of {d y m k : Int} (h0 : 0 ≤ d) (hd : d ≤ 1048575) (h : IsParts d y m k) : Ev (fun n => day_Parts.f n d) (y, m, k) := by
  have hs := year_start d h0
  obtain ⟨y', m', k', he, h'⟩ := parts_l0 d h0 hd _ _ hs.2 hs.1 rfl
  obtain ⟨rfl, rfl, rfl⟩ := h.unique h'
  refine Ev.congr (fun n => ?_) he
  unfold day_Parts.f
  rw [clamp_of d h0 hd]
  simp only [Option.bind_some]
  simp (disch := omega) only [w64, tdivnn, tmodnn]
/-- the month's number -/
def mo (y m : Int) : Int := 12 * (y - 1) + m - 1
theorem IsPartsB {d y m k : Int} (h : IsParts d y m k) (hd : d ≤ 1048575) : y ≤ 2871 := by
  refine year_end d y ?_ hd
  have := A_range y m h.m1 (by have := h.m2; omega)
  have := h.eq; have := h.k1; omega
theorem month_of {d y m k : Int} (h0 : 0 ≤ d) (hd : d ≤ 1048575) (h : IsParts d y m k) : Ev (fun n => day_Month.f n d) (12 * (y - 1) + m - 1) := by
  have := h.y1; have := IsPartsB h hd; have := h.m1; have := h.m2
  simp only [day_Month.f]
  refine Ev.bind (parts_of h0 hd h) ?_
  simp (disch := omega) only [w64]
  exact Ev.now _
theorem month_max : Ev (fun n => day_Month.f n 1048575) 34450 := month_of (by omega) (by omega) max_parts
theorem clip (M : Int) (h0 : 0 ≤ M) (h1 : M ≤ 34450) : mx 0 (mn M 34450) = M := by unfold mx mn; split <;> split <;> omega
theorem size_of (M : Int) (h0 : 0 ≤ M) (h1 : M ≤ 34450) : Ev (fun n => day_Size.f n M) (SM M) := by
  simp only [day_Size.f]
  refine Ev.bind month_max ?_
  rw [clip M h0 h1]
  simp (disch := omega) only [w64, tdivnn]
  rw [ahead_of _ _ (by omega) (by omega) (by omega), ahead_of _ _ (by omega) (by omega) (by omega)]
  simp only [Option.bind_some]
  have := A_range (M / 12 + 1) (M % 12 + 1 + 1) (by omega) (by omega)
  have := A_range (M / 12 + 1) (M % 12 + 1) (by omega) (by omega)
  rw [w64 (by omega) (by omega)]
  exact Ev.now _
theorem size_gen (X M : Int) (h0 : 0 ≤ M) (h1 : M ≤ 34450) (hc : mx 0 (mn X 34450) = M) : Ev (fun n => day_Size.f n X) (SM M) := by
  simp only [day_Size.f]
  refine Ev.bind month_max ?_
  rw [hc]
  simp (disch := omega) only [w64, tdivnn]
  rw [ahead_of _ _ (by omega) (by omega) (by omega), ahead_of _ _ (by omega) (by omega) (by omega)]
  simp only [Option.bind_some]
  have := A_range (M / 12 + 1) (M % 12 + 1 + 1) (by omega) (by omega)
  have := A_range (M / 12 + 1) (M % 12 + 1) (by omega) (by omega)
  rw [w64 (by omega) (by omega)]
  exact Ev.now _
theorem of_gen (y m k : Int) (h1 : 1 ≤ y) (h2 : y ≤ 4000) (m1 : 1 ≤ m) (m2 : m ≤ 12) (k1 : 1 ≤ k) :
    Ev (fun c => day_Of.f c y m k) (if k > L y m then (0, 1) else if F y + A y m + k - 1 > 1048575 then (0, 2) else (F y + A y m + k - 1, 0)) := by
  have hA := A_range y m m1 (by omega)
  have hA' := A_range y (m + 1) (by omega) (by omega)
  have hF := F_range y h1
  have hL := L_range y m m1 m2
  simp only [day_Of.f]
  refine Ev.ifn (by omega) (Ev.ifn (by omega) (Ev.ifn (by omega) ?_))
  refine Ev.step (f := fun _ => some (if k > L y m then (0, 1) else if F y + A y m + k - 1 > 1048575 then (0, 2) else (F y + A y m + k - 1, 0))) (fun c => ?_) (Ev.now _)
  simp only [day_Of.j0]
  rw [if_neg (by simpa using k1), if_neg (by omega), w64 (x := m + 1) (by omega) (by omega), ahead_of _ _ h1 (by omega) (by omega), ahead_of _ _ h1 (by omega) (by omega), first_of _ h1 (by omega)]
  simp only [Option.bind_some]
  rw [show A y (m + 1) - A y m = L y m from rfl, w64 (x := L y m) (by omega) (by omega)]
  by_cases c1 : k > L y m
  · rw [if_pos c1, if_pos c1]
  · rw [if_neg c1, if_neg c1]
    rw [w64 (x := F y + A y m) (by omega) (by omega), w64 (x := F y + A y m + k) (by omega) (by omega), w64 (x := F y + A y m + k - 1) (by omega) (by omega)]
    split <;> rfl
theorem of_of {d y m k : Int} (hd : d ≤ 1048575) (h : IsParts d y m k) : Ev (fun c => day_Of.f c y m k) (d, 0) := by
  have hB := IsPartsB h hd; have he := h.eq; have hk2 := h.k2
  have := of_gen y m k h.y1 (by omega) h.m1 h.m2 h.k1
  rw [if_neg (by omega), if_neg (by omega), ← he] at this
  exact this
def okS (y : Int) : Bool :=
  match feast_Sunday.f 1 y with
  | some (d, e) => e == 0 && decide (F y + A y 3 + 21 ≤ d) && decide (d ≤ F y + A y 4 + 24) && d % 7 == 6
  | none => false
set_option maxRecDepth 100000 in
theorem all_okS : (List.range 2871).all (fun n => okS ((n : Int) + 1)) = true := by decide +kernel
theorem sun_step (y : Int) (c : Nat) : feast_Sunday.f (c + 1) y = feast_Sunday.f 1 y := by
  unfold feast_Sunday.f day_Of.f
  simp only [day_Of.j0]
theorem sun_of (y : Int) (h1 : 1 ≤ y) (h2 : y ≤ 2871) : ∃ d, Ev (fun c => feast_Sunday.f c y) (d, 0) ∧ F y + A y 3 + 21 ≤ d ∧ d ≤ F y + A y 4 + 24 ∧ d % 7 = 6 := by
  have := List.all_eq_true.1 all_okS (y - 1).toNat (List.mem_range.2 (by omega))
  rw [show (((y - 1).toNat : Nat) : Int) + 1 = y from by omega] at this
  unfold okS at this
  split at this
  · rename_i d e he
    simp only [Bool.and_eq_true, beq_iff_eq, decide_eq_true_eq] at this
    obtain ⟨⟨⟨rfl, b⟩, c⟩, f⟩ := this
    exact ⟨d, Ev.step (fun c => (sun_step y c).trans he) (Ev.now _), b, c, f⟩
  · exact absurd this (by simp)
theorem sun_parts {y d : Int} (h1 : 1 ≤ y) (ha : F y + A y 3 + 21 ≤ d) (hb : d ≤ F y + A y 4 + 24) : (∃ k, IsParts d y 3 k ∧ 22 ≤ k) ∨ ∃ k, IsParts d y 4 k ∧ k ≤ 25 := by
  have hL : L y 3 = 31 := by unfold L A; by_cases h : lp y <;> simp [h]
  have hL4 : L y 4 = 30 := by unfold L A; by_cases h : lp y <;> simp [h]
  have hd : A y 4 = A y 3 + 31 := by have : L y 3 = A y 4 - A y 3 := rfl; omega
  by_cases hc : d < F y + A y 4
  · exact .inl ⟨d - F y - A y 3 + 1, ⟨h1, by omega, by omega, by omega, by omega, by omega⟩, by omega⟩
  · exact .inr ⟨d - F y - A y 4 + 1, ⟨h1, by omega, by omega, by omega, by omega, by omega⟩, by omega⟩
theorem Ev.unique {α : Type} {g : Nat → Option α} {a b : α} (h : Ev g a) (h' : Ev g b) : a = b := by
  obtain ⟨K, h⟩ := h
  obtain ⟨K', h'⟩ := h'
  have e1 := h (max K K') (by omega)
  have e2 := h' (max K K') (by omega)
  rw [e1] at e2
  exact Option.some.inj e2
/-- the rules that the maker of calendars makes -/
def GoodRule (s : S99) : Prop :=
  (s.f0 = 0 ∧ 1 ≤ s.f1 ∧ s.f1 ≤ 12 ∧ 1 ≤ s.f2 ∧ s.f2 ≤ 29 ∧ s.f3 = 0 ∧ s.f4 = 0) ∨
  (s.f0 = 1 ∧ 1 ≤ s.f1 ∧ s.f1 ≤ 12 ∧ s.f2 = 0 ∧ 0 ≤ s.f3 ∧ s.f3 ≤ 6 ∧ (s.f4 = -1 ∨ 1 ≤ s.f4 ∧ s.f4 ≤ 5)) ∨
  (s.f0 = 2 ∧ s.f1 = 0 ∧ -80 ≤ s.f2 ∧ s.f2 ≤ 250 ∧ s.f3 = 0 ∧ s.f4 = 0) ∨
  (s.f0 = 3 ∧ s.f1 = 0 ∧ 0 ≤ s.f2 ∧ s.f2 ≤ 1048575 ∧ s.f3 = 0 ∧ s.f4 = 0)
theorem fcheck_j0 (a b c d e : Int) (x : Bool) (hx : x = true) : Ev (fun k => feast_check.j0 k x a b c d e a b c d e) 0 := by
  subst hx
  exact Ev.step (f := fun _ => some 0) (fun k => by simp [feast_check.j0]) (Ev.now _)
theorem L4 (m : Int) (h1 : 1 ≤ m) (h2 : m ≤ 12) : 29 ≤ L 4 m ∧ F 4 + A 4 m ≤ 2000 := by
  rcases months m h1 h2 with rfl | rfl | rfl | rfl | rfl | rfl | rfl | rfl | rfl | rfl | rfl | rfl <;> decide
theorem fcheck_of (s : S99) (h : GoodRule s) : Ev (fun k => feast_check.f k s.f0 s.f1 s.f2 s.f3 s.f4) 0 := by
  obtain ⟨f0, f1, f2, f3, f4⟩ := s
  rcases h with ⟨h0, h1, h2, h3, h4, h5, h6⟩ | ⟨h0, h1, h2, h3, h4, h5, h6⟩ | ⟨h0, h1, h2, h3, h4, h5⟩ | ⟨h0, h1, h2, h3, h4, h5⟩ <;> simp only at * <;> subst h0
  · subst h5 h6
    have hL := L4 f1 h1 h2
    have ho := of_gen 4 f1 f2 (by omega) (by omega) h1 h2 h3
    rw [if_neg (by omega), if_neg (by omega)] at ho
    simp only [feast_check.f]
    exact Ev.ifp trivial (Ev.bind ho (fcheck_j0 _ _ _ _ _ _ rfl))
  · subst h3
    simp only [feast_check.f]
    refine Ev.ifn (by decide) (Ev.ifp trivial (Ev.ifp h1 (Ev.ifp h2 (Ev.ifp h4 (Ev.ifp h5 ?_)))))
    rcases h6 with rfl | ⟨h6, h7⟩
    · exact Ev.ifp rfl (fcheck_j0 _ _ _ _ _ _ rfl)
    · exact Ev.ifn (by omega) (Ev.ifp h6 (fcheck_j0 _ _ _ _ _ _ (decide_eq_true h7)))
  · subst h1 h4 h5
    simp only [feast_check.f]
    exact Ev.ifn (by decide) (Ev.ifn (by decide) (Ev.ifp trivial (Ev.ifp h2 (fcheck_j0 _ _ _ _ _ _ (decide_eq_true h3)))))
  · subst h1 h4 h5
    simp only [feast_check.f]
    exact Ev.ifn (by decide) (Ev.ifn (by decide) (Ev.ifn (by decide) (Ev.ifp trivial (Ev.ifp h2 (fcheck_j0 _ _ _ _ _ _ (decide_eq_true h3))))))
theorem size_any (M : Int) (h0 : 0 ≤ M) (h1 : M ≤ 34451) : ∃ s, Ev (fun n => day_Size.f n M) s ∧ 28 ≤ s ∧ s ≤ 31 := by
  by_cases h : M ≤ 34450
  · exact ⟨_, size_of M h0 h, SM_range M⟩
  · obtain rfl : M = 34451 := by omega
    exact ⟨SM 34450, size_gen 34451 34450 (by omega) (by omega) (by decide), SM_range _⟩
theorem exbind {α β : Type} {g : Nat → Option α} {f : Nat → α → Option β} {a : α} (h : Ev g a) (k : ∃ r, Ev (fun n => f n a) r) : ∃ r, Ev (fun n => (g n).bind (f n)) r := by
  obtain ⟨r, k⟩ := k
  exact ⟨r, Ev.bind h k⟩
theorem nth_l0 (f z : Int) (hz : 28 ≤ z ∧ z ≤ 31) (hf : 0 ≤ f ∧ f ≤ 1048575) (n : Nat) : ∀ d : Int, 0 ≤ d → d ≤ 1048700 → (f + z - d).toNat ≤ n → ∃ p, Ev (fun k => feast_nth.l0 k f z d) p := by
  induction n with
  | zero =>
    intro d h0 h1 hn
    refine ⟨(d, true), Ev.step (f := fun _ => some (d, true)) (fun k => ?_) (Ev.now _)⟩
    simp only [feast_nth.l0]
    rw [w64 (x := d + 7) (by omega) (by omega), w64 (x := f + z) (by omega) (by omega), if_neg (by omega)]
  | succ n ih =>
    intro d h0 h1 hn
    by_cases hc : d + 7 < f + z
    · obtain ⟨p, hp⟩ := ih (d + 7) (by omega) (by omega) (by omega)
      refine ⟨p, Ev.step (fun k => ?_) hp⟩
      simp only [feast_nth.l0]
      rw [w64 (x := d + 7) (by omega) (by omega), w64 (x := f + z) (by omega) (by omega), if_pos hc]
    · refine ⟨(d, true), Ev.step (f := fun _ => some (d, true)) (fun k => ?_) (Ev.now _)⟩
      simp only [feast_nth.l0]
      rw [w64 (x := d + 7) (by omega) (by omega), w64 (x := f + z) (by omega) (by omega), if_neg hc]
theorem nth_of (y m w n : Int) (h1 : 1 ≤ y) (h2 : y ≤ 2871) (m1 : 1 ≤ m) (m2 : m ≤ 12) (w1 : 0 ≤ w) (w2 : w ≤ 6) : ∃ p, Ev (fun k => feast_nth.f k y m w n) p := by
  have ho := of_gen y m 1 h1 (by omega) m1 m2 (by omega)
  have hL := L_range y m m1 m2
  have hF := F_range y h1
  have hA := A_range y m m1 (by omega)
  rw [if_neg (by omega)] at ho
  obtain ⟨p, hp, hp0, hp1⟩ : ∃ p : Int × Int, Ev (fun c => day_Of.f c y m 1) p ∧ 0 ≤ p.1 ∧ p.1 ≤ 1048575 := by
    by_cases hc : F y + A y m + 1 - 1 > 1048575
    · rw [if_pos hc] at ho; exact ⟨_, ho, by simp, by simp⟩
    · rw [if_neg hc] at ho; exact ⟨_, ho, by simp only []; omega, by simp only []; omega⟩
  obtain ⟨z, hz, hz1⟩ := size_any (12 * (y - 1) + m - 1) (by omega) (by omega)
  have hw : day_Week.f p.1 = some (p.1 % 7) := by
    unfold day_Week.f
    rw [clamp_of _ hp0 hp1]
    simp only [Option.bind_some]
    rw [tmodnn hp0]
  simp only [feast_nth.f]
  by_cases hn : n > 0
  · refine exbind hp ?_
    rw [w64 (x := y - 1) (by omega) (by omega), w64 (x := 12 * (y - 1)) (by omega) (by omega), w64 (x := 12 * (y - 1) + m) (by omega) (by omega), w64 (x := 12 * (y - 1) + m - 1) (by omega) (by omega)]
    refine exbind hz ?_
    simp only [hw, Option.bind_some]
    exact ⟨_, Ev.ifp hn (Ev.now _)⟩
  · obtain ⟨q, hq⟩ := nth_l0 p.1 z hz1 ⟨hp0, hp1⟩ _ (p.1 + (w - p.1 % 7 + 7) % 7) (by omega) (by omega) (Nat.le_refl _)
    refine ⟨q, Ev.bind hp ?_⟩
    rw [w64 (x := y - 1) (by omega) (by omega), w64 (x := 12 * (y - 1)) (by omega) (by omega), w64 (x := 12 * (y - 1) + m) (by omega) (by omega), w64 (x := 12 * (y - 1) + m - 1) (by omega) (by omega)]
    refine Ev.bind hz ?_
    simp only [hw, Option.bind_some]
    refine Ev.ifn hn ?_
    rw [w64 (x := w - p.1 % 7) (by omega) (by omega), w64 (x := w - p.1 % 7 + 7) (by omega) (by omega), tmodnn (by omega), w64 (by omega) (by omega)]
    exact hq
theorem meets_of (s : S99) (h : GoodRule s) (d : Int) (d0 : 0 ≤ d) (d1 : d ≤ 1048575) : ∃ b, Ev (fun k => feast_meets.f k s.f0 s.f1 s.f2 s.f3 s.f4 d) b := by
  obtain ⟨y, m, kk, hp⟩ := parts_exists d d0
  have hB := IsPartsB hp d1; have hy1 := hp.y1
  simp only [feast_meets.f]
  refine exbind (parts_of d0 d1 hp) ?_
  rcases h with ⟨h0, h1, h2, h3, h4, h5, h6⟩ | ⟨h0, h1, h2, h3, h4, h5, h6⟩ | ⟨h0, h1, h2, h3, h4, h5⟩ | ⟨h0, h1, h2, h3, h4, h5⟩ <;> rw [h0]
  · by_cases hm : m = s.f1
    · exact ⟨_, Ev.ifp rfl (Ev.ifp hm (Ev.now _))⟩
    · exact ⟨_, Ev.ifp rfl (Ev.ifn hm (Ev.now _))⟩
  · obtain ⟨p, hn⟩ := nth_of y s.f1 s.f3 s.f4 hy1 hB h1 h2 h4 h5
    by_cases hq : p.2 = true
    · exact ⟨_, Ev.ifn (by decide) (Ev.ifp rfl (Ev.bind hn (Ev.ifp hq (Ev.now _))))⟩
    · exact ⟨_, Ev.ifn (by decide) (Ev.ifp rfl (Ev.bind hn (Ev.ifn hq (Ev.now _))))⟩
  · obtain ⟨x, hx, _⟩ := sun_of y hy1 hB
    exact ⟨_, Ev.ifn (by decide) (Ev.ifn (by decide) (Ev.ifp rfl (Ev.bind hx (Ev.ifp rfl (Ev.now _)))))⟩
  · exact ⟨_, Ev.ifn (by decide) (Ev.ifn (by decide) (Ev.ifn (by decide) (Ev.now _)))⟩
theorem one_of (s : S99) (h : GoodRule s) (d : Int) (d0 : 0 ≤ d) (d1 : d ≤ 1048575) : ∃ b, Ev (fun k => feast_Is.one k s d) b := by
  obtain ⟨b, hb⟩ := meets_of s h d d0 d1
  refine ⟨b, ?_⟩
  simp only [feast_Is.one]
  exact Ev.bind (fcheck_of s h) (Ev.ifp rfl hb)
theorem any_of (d : Int) (d0 : 0 ≤ d) (d1 : d ≤ 1048575) : ∀ l : List S99, (∀ s ∈ l, GoodRule s) → ∃ b, Ev (fun k => feast_Is.any k d l) b
  | [], _ => ⟨false, by simp only [feast_Is.any]; exact Ev.now _⟩
  | s :: l, h => by
    obtain ⟨b, hb⟩ := one_of s (h s (by simp)) d d0 d1
    obtain ⟨c, hc⟩ := any_of d d0 d1 l (fun t ht => h t (by simp [ht]))
    simp only [feast_Is.any]
    cases b
    · exact ⟨c, Ev.bind hb (Ev.ifn (by decide) hc)⟩
    · exact ⟨true, Ev.bind hb (Ev.ifp rfl (Ev.now _))⟩
theorem fdrop (l : List S99) (i : Nat) (h : i < l.length) : rd_T99 l (i : Int) ∈ l := by
  have := List.getElem_mem h
  unfold rd_T99
  simp [List.getD, h]
theorem fCheck_l0 (l : List S99) (h : ∀ s ∈ l, GoodRule s) (hl : l.length ≤ 60) (n : Nat) : ∀ i : Nat, i ≤ l.length → l.length - i = n → Ev (fun k => feast_Check.l0 k l (l.length : Int) (i : Int)) 0 := by
  induction n with
  | zero =>
    intro i hi hn
    obtain rfl : i = l.length := by omega
    refine Ev.step (f := fun _ => some 0) (fun k => ?_) (Ev.now _)
    simp only [feast_Check.l0]
    rw [if_neg (by omega)]
  | succ n ih =>
    intro i hi hn
    have hlt : i < l.length := by omega
    refine Ev.step (fun k => ?_) (Ev.bind (fcheck_of _ (h _ (fdrop l i hlt))) (Ev.ifp (c := (0 : Int) = 0) rfl (ih (i + 1) (by omega) (by omega))) : Ev (fun k => (feast_check.f k (rd_T99 l (i : Int)).f0 (rd_T99 l (i : Int)).f1 (rd_T99 l (i : Int)).f2 (rd_T99 l (i : Int)).f3 (rd_T99 l (i : Int)).f4).bind fun e => if e = 0 then feast_Check.l0 k l (l.length : Int) ((i + 1 : Nat) : Int) else some e) 0)
    simp only [feast_Check.l0]
    rw [if_pos (by omega), if_pos (by omega), if_pos (by omega), w64_succ hlt (by omega)]
theorem fCheck_of (b1 b2 b3 b4 b5 b6 : Bool) (l : List S99) (h : ∀ s ∈ l, GoodRule s) (hl : l.length ≤ 60) : Ev (fun k => feast_Check.f k false b1 b2 b3 b4 b5 b6 l) 0 := by
  simp only [feast_Check.f]
  exact Ev.ifn (by omega) (Ev.ifp trivial (fCheck_l0 l h hl _ 0 (by omega) rfl))
theorem fIs_of (b0 b1 b2 b3 b4 b5 b6 : Bool) (l : List S99) (h : ∀ s ∈ l, GoodRule s) (hl : l.length ≤ 60) : ∃ hol : Int → Bool, ∀ d, 0 ≤ d → d ≤ 1048575 → Ev (fun k => feast_Is.f k b0 b1 b2 b3 b4 b5 b6 l d) (hol d) := by
  have : ∀ d, ∃ b, 0 ≤ d → d ≤ 1048575 → Ev (fun k => feast_Is.f k b0 b1 b2 b3 b4 b5 b6 l d) b := by
    intro d
    by_cases hd : 0 ≤ d ∧ d ≤ 1048575
    · obtain ⟨b, hb⟩ := any_of d hd.1 hd.2 l h
      refine ⟨b, fun _ _ => ?_⟩
      simp only [feast_Is.f]
      exact Ev.ifp hd (Ev.ifp (by omega) hb)
    · exact ⟨true, fun h0 h1 => absurd ⟨h0, h1⟩ hd⟩
  exact Classical.axiomOfChoice this
theorem good_app {l : List S99} {r : S99} (h : ∀ s ∈ l, GoodRule s) (hr : GoodRule r) : ∀ s ∈ l ++ [r], GoodRule s := by
  intro s hs
  rcases List.mem_append.1 hs with hs | hs
  · exact h s hs
  · obtain rfl := List.mem_singleton.1 hs
    exact hr
theorem cal_l0 (m : Int) (hm : m < 9) (b2 b5 : Bool) (n : Nat) : ∀ (i : Nat) (st : List Int) (l : List S99), (i : Int) ≤ m → (m - i).toNat = n → l.length = i → (∀ s ∈ l, GoodRule s) →
    ∃ c, Ev (fun k => mootkeep1_cal.l0 k m (i : Int) st false false b2 false false b5 true l) (false, false, b2, false, false, b5, true, c) ∧ c.length ≤ 9 ∧ ∀ s ∈ c, GoodRule s := by
  induction n with
  | zero =>
    intro i st l hi hn hl hg
    obtain rfl : m = (i : Int) := by omega
    refine ⟨l, Ev.step (f := fun _ => some (false, false, b2, false, false, b5, true, l)) (fun k => ?_) (Ev.now _), by omega, hg⟩
    simp only [mootkeep1_cal.l0]
    rw [if_neg (by omega)]
  | succ n ih =>
    intro i st l hi hn hl hg
    obtain ⟨t, s1, e1, t0, t1⟩ := next_of st 4 (by omega) (by omega)
    have hi1 : wrap64 ((i : Int) + 1) = ((i + 1 : Nat) : Int) := by rw [w64 (by omega) (by omega)]; omega
    by_cases c0 : t = 0
    · obtain ⟨u, s2, e2, u0, u1⟩ := next_of s1 12 (by omega) (by omega)
      obtain ⟨v, s3, e3, v0, v1⟩ := next_of s2 29 (by omega) (by omega)
      obtain ⟨c, hc, hr⟩ := ih (i + 1) s3 (l ++ [(⟨t, 1 + u, 1 + v, 0, 0⟩ : S99)]) (by omega) (by omega) (by simp [hl]) (good_app hg (.inl ⟨c0, by simp only []; omega, by simp only []; omega, by simp only []; omega, by simp only []; omega, rfl, rfl⟩))
      refine ⟨c, Ev.step (fun k => ?_) hc, hr⟩
      simp only [mootkeep1_cal.l0]
      rw [if_pos (by omega), e1]
      simp only [Option.bind_some]
      rw [if_pos c0, e2]
      simp only [Option.bind_some]
      rw [e3]
      simp only [Option.bind_some]
      rw [if_pos (by omega), hi1, w64 (x := 1 + u) (by omega) (by omega), w64 (x := 1 + v) (by omega) (by omega)]
    · by_cases c1 : t = 1
      · obtain ⟨u, s2, e2, u0, u1⟩ := next_of s1 12 (by omega) (by omega)
        obtain ⟨v, s3, e3, v0, v1⟩ := next_of s2 7 (by omega) (by omega)
        obtain ⟨w, s4, e4, w0, w1⟩ := next_of s3 6 (by omega) (by omega)
        have hw : rd [1, 2, 3, 4, 5, -1] w = -1 ∨ 1 ≤ rd [1, 2, 3, 4, 5, -1] w ∧ rd [1, 2, 3, 4, 5, -1] w ≤ 5 := by
          have : w = 0 ∨ w = 1 ∨ w = 2 ∨ w = 3 ∨ w = 4 ∨ w = 5 := by omega
          rcases this with rfl | rfl | rfl | rfl | rfl | rfl <;> decide
        obtain ⟨c, hc, hr⟩ := ih (i + 1) s4 (l ++ [(⟨t, 1 + u, 0, v, rd [1, 2, 3, 4, 5, -1] w⟩ : S99)]) (by omega) (by omega) (by simp [hl]) (good_app hg (.inr (.inl ⟨c1, by simp only []; omega, by simp only []; omega, rfl, v0, by simp only []; omega, hw⟩)))
        refine ⟨c, Ev.step (fun k => ?_) hc, hr⟩
        simp only [mootkeep1_cal.l0]
        rw [if_pos (by omega), e1]
        simp only [Option.bind_some]
        rw [if_neg c0, if_pos c1, e2]
        simp only [Option.bind_some]
        rw [e3]
        simp only [Option.bind_some]
        rw [e4]
        simp only [Option.bind_some]
        rw [if_pos w0, if_pos (by simp; omega), if_pos (by omega), hi1, w64 (x := 1 + u) (by omega) (by omega)]
      · by_cases c2 : t = 2
        · obtain ⟨u, s2, e2, u0, u1⟩ := next_of s1 100 (by omega) (by omega)
          obtain ⟨c, hc, hr⟩ := ih (i + 1) s2 (l ++ [(⟨t, 0, u - 49, 0, 0⟩ : S99)]) (by omega) (by omega) (by simp [hl]) (good_app hg (.inr (.inr (.inl ⟨c2, rfl, by simp only []; omega, by simp only []; omega, rfl, rfl⟩))))
          refine ⟨c, Ev.step (fun k => ?_) hc, hr⟩
          simp only [mootkeep1_cal.l0]
          rw [if_pos (by omega), e1]
          simp only [Option.bind_some]
          rw [if_neg c0, if_neg c1, if_pos c2, e2]
          simp only [Option.bind_some]
          rw [if_pos (by omega), hi1, w64 (x := u - 49) (by omega) (by omega)]
        · obtain ⟨u, s2, e2, u0, u1⟩ := next_of s1 40000 (by omega) (by omega)
          have hu := below_range u 40000 (by omega)
          obtain ⟨c, hc, hr⟩ := ih (i + 1) s2 (l ++ [(⟨t, 0, 700000 + u % 40000, 0, 0⟩ : S99)]) (by omega) (by omega) (by simp [hl]) (good_app hg (.inr (.inr (.inr ⟨by simp only []; omega, rfl, by simp only []; omega, by simp only []; omega, rfl, rfl⟩))))
          refine ⟨c, Ev.step (fun k => ?_) hc, hr⟩
          simp only [mootkeep1_cal.l0]
          rw [if_pos (by omega), e1]
          simp only [Option.bind_some]
          rw [if_neg c0, if_neg c1, if_neg c2, e2]
          simp only [Option.bind_some]
          rw [day_of u]
          simp only [Option.bind_some]
          rw [if_pos (by omega), hi1]
theorem cal_of (st : List Int) : ∃ b2 b5 c, Ev (fun k => mootkeep1_cal.f k st) (false, false, b2, false, false, b5, true, c) ∧ c.length ≤ 9 ∧ ∀ s ∈ c, GoodRule s := by
  obtain ⟨u, s1, e1, u0, u1⟩ := next_of st 2 (by omega) (by omega)
  obtain ⟨v, s2, e2, v0, v1⟩ := next_of s1 8 (by omega) (by omega)
  obtain ⟨m, s3, e3, m0, m1⟩ := next_of s2 9 (by omega) (by omega)
  obtain ⟨c, hc, hr⟩ := cal_l0 m m1 (v == 1) (u == 1) _ 0 s3 [] (by omega) rfl rfl (fun s h => by simp at h)
  refine ⟨v == 1, u == 1, c, ?_, hr⟩
  · simp only [mootkeep1_cal.f]
    simp only [e1, e2, e3, Option.bind_some]
    exact hc
theorem pf_of : ∃ pf : Int → Int × Int × Int, ∀ d, 0 ≤ d → d ≤ 1048575 → Ev (fun k => day_Parts.f k d) (pf d) ∧ IsParts d (pf d).1 (pf d).2.1 (pf d).2.2 := by
  have : ∀ d : Int, ∃ p : Int × Int × Int, 0 ≤ d → d ≤ 1048575 → Ev (fun k => day_Parts.f k d) p ∧ IsParts d p.1 p.2.1 p.2.2 := by
    intro d
    by_cases hd : 0 ≤ d ∧ d ≤ 1048575
    · obtain ⟨y, m, k, hp⟩ := parts_exists d hd.1
      exact ⟨(y, m, k), fun h0 h1 => ⟨parts_of h0 h1 hp, hp⟩⟩
    · exact ⟨(0, 0, 0), fun h0 h1 => absurd ⟨h0, h1⟩ hd⟩
  exact Classical.axiomOfChoice this
/-- the holidays of a year from a date on -/
def hl (yr : Int → Int × Int × Int) (hol : Int → Bool) (y : Int) : Nat → Int → List Int
  | 0, _ => []
  | n + 1, d => if (yr d).1 = y then (if hol d = true then d :: hl yr hol y n (d + 1) else hl yr hol y n (d + 1)) else hl yr hol y n (d + 1)
theorem mem_hl (yr : Int → Int × Int × Int) (hol : Int → Bool) (y : Int) (x : Int) (n : Nat) : ∀ d, x ∈ hl yr hol y n d ↔ d ≤ x ∧ x < d + n ∧ (yr x).1 = y ∧ hol x = true := by
  induction n with
  | zero => intro d; simp [hl]; omega
  | succ n ih =>
    intro d
    rw [hl]
    by_cases h1 : (yr d).1 = y
    · rw [if_pos h1]
      by_cases h2 : hol d = true
      · rw [if_pos h2, List.mem_cons, ih]
        constructor
        · rintro (rfl | ⟨a, b, c⟩)
          · exact ⟨by omega, by omega, h1, h2⟩
          · exact ⟨by omega, by omega, c⟩
        · rintro ⟨a, b, c⟩
          by_cases hx : x = d
          · exact .inl hx
          · exact .inr ⟨by omega, by omega, c⟩
      · rw [if_neg h2, ih]
        constructor
        · rintro ⟨a, b, c⟩; exact ⟨by omega, by omega, c⟩
        · rintro ⟨a, b, c⟩
          have hx : x ≠ d := by rintro rfl; exact h2 c.2
          exact ⟨by omega, by omega, c⟩
    · rw [if_neg h1, ih]
      constructor
      · rintro ⟨a, b, c⟩; exact ⟨by omega, by omega, c⟩
      · rintro ⟨a, b, c⟩
        have hx : x ≠ d := by rintro rfl; exact h1 c.1
        exact ⟨by omega, by omega, c⟩
theorem pw_hl (yr : Int → Int × Int × Int) (hol : Int → Bool) (y : Int) (n : Nat) : ∀ d, (hl yr hol y n d).Pairwise fun a b => a < b := by
  induction n with
  | zero => intro d; exact List.Pairwise.nil
  | succ n ih =>
    intro d
    rw [hl]
    split
    · split
      · refine List.pairwise_cons.2 ⟨fun x hx => ?_, ih _⟩
        have := (mem_hl yr hol y x n (d + 1)).1 hx
        omega
      · exact ih _
    · exact ih _
theorem feasts_of : Ev (fun n => mootkeep1_feasts.f n) true := by
  simp only [mootkeep1_feasts.f]
  have h0 : feast_Sunday.f 1 2000 = some (730232, 0) := by decide +kernel
  refine Ev.bind (a := (730232, 0)) (Ev.step (fun c => (sun_step 2000 c).trans h0) (Ev.now _)) ?_
  refine Ev.bind (parts_of (y := 2000) (m := 4) (k := 23) (by omega) (by omega) ⟨by decide, by decide, by decide, by decide, by decide, by decide⟩) ?_
  exact Ev.now _
theorem on_l0 (y from_ top : Int) (htop : top = min (from_ + 365) 1048575) (hf0 : 0 ≤ from_) (hf1 : from_ ≤ 1048575) (b0 b1 b2 b3 b4 b5 b6 : Bool) (c : List S99) (pf : Int → Int × Int × Int) (hpf : ∀ d, 0 ≤ d → d ≤ 1048575 → Ev (fun k => day_Parts.f k d) (pf d) ∧ IsParts d (pf d).1 (pf d).2.1 (pf d).2.2)
    (hol : Int → Bool) (hhol : ∀ d, 0 ≤ d → d ≤ 1048575 → Ev (fun k => feast_Is.f k b0 b1 b2 b3 b4 b5 b6 c d) (hol d)) (n : Nat) :
    ∀ (d : Int) (acc : List Int), 0 ≤ d → d + n = top + 1 → acc.length + n ≤ 1000 → Ev (fun k => feast_On.l0 k y from_ acc d b0 b1 b2 b3 b4 b5 b6 c) (acc ++ hl pf hol y n d, 0) := by
  have hm : mn (wrap64 (from_ + 365)) 1048575 = top := by
    rw [w64 (by omega) (by omega), htop]; unfold mn; split <;> omega
  induction n with
  | zero =>
    intro d acc h0 h1 h2
    rw [hl, List.append_nil]
    refine Ev.step (f := fun _ => some (acc, 0)) (fun k => ?_) (Ev.now _)
    simp only [feast_On.l0]
    rw [hm, if_neg (by omega)]
  | succ n ih =>
    intro d acc h0 h1 h2
    have hp := (hpf d h0 (by omega)).1
    have hh := hhol d h0 (by omega)
    have hw : wrap64 (d + 1) = d + 1 := w64 (by omega) (by omega)
    refine Ev.step (f := fun k => (day_Parts.f k d).bind fun bt191 => (if bt191.1 = y then ((feast_Is.f k b0 b1 b2 b3 b4 b5 b6 c d).bind fun t194 => (if t194 = true then feast_On.l0 k y from_ (acc ++ [d]) (d + 1) b0 b1 b2 b3 b4 b5 b6 c else feast_On.l0 k y from_ acc (d + 1) b0 b1 b2 b3 b4 b5 b6 c)) else feast_On.l0 k y from_ acc (d + 1) b0 b1 b2 b3 b4 b5 b6 c)) (fun k => ?_) ?_
    · simp only [feast_On.l0]
      rw [hm, if_pos (by omega), hw, if_pos (by omega)]
    · refine Ev.bind hp ?_
      rw [hl]
      by_cases c1 : (pf d).1 = y
      · rw [if_pos c1]
        refine Ev.ifp c1 (Ev.bind hh ?_)
        by_cases c2 : hol d = true
        · rw [if_pos c2]
          refine Ev.ifp c2 ?_
          have := ih (d + 1) (acc ++ [d]) (by omega) (by omega) (by simp; omega)
          rw [List.append_assoc, List.singleton_append] at this
          exact this
        · rw [if_neg c2]
          exact Ev.ifn c2 (ih (d + 1) acc (by omega) (by omega) (by omega))
      · rw [if_neg c1]
        exact Ev.ifn c1 (ih (d + 1) acc (by omega) (by omega) (by omega))
theorem yd_drop (l : List Int) (i : Nat) (h : i < l.length) : l.drop i = rd l (i : Int) :: l.drop (i + 1) := by
  rw [List.drop_eq_getElem_cons h]
  unfold rd
  simp [List.getD, h]
theorem yd_get (l : List Int) (i : Nat) (h : i < l.length) : rd l (i : Int) = l[i] := by
  unfold rd
  simp [List.getD, h]
theorem index_l0 (xs : List Int) (a : Int) (hlen : xs.length ≤ 1000) (n : Nat) : ∀ i : Nat, i ≤ xs.length → xs.length - i = n → ∃ r, Ev (fun k => slices_Index_int_int.l0 k xs a (xs.length : Int) (i : Int)) r ∧ decide (r ≥ 0) = decide (a ∈ xs.drop i) := by
  induction n with
  | zero =>
    intro i hi hn
    obtain rfl : i = xs.length := by omega
    refine ⟨-1, Ev.step (f := fun _ => some (-1)) (fun k => ?_) (Ev.now _), by simp⟩
    simp only [slices_Index_int_int.l0]
    rw [if_neg (by omega)]
  | succ n ih =>
    intro i hi hn
    have hlt : i < xs.length := by omega
    rw [yd_drop xs i hlt]
    by_cases hc : a = rd xs (i : Int)
    · refine ⟨(i : Int), Ev.step (f := fun _ => some (i : Int)) (fun k => ?_) (Ev.now _), ?_⟩
      · simp only [slices_Index_int_int.l0]
        rw [if_pos (by omega), if_pos (by omega), if_pos (by omega), if_pos hc]
      · rw [decide_eq_true (by omega : (i : Int) ≥ 0), decide_eq_true (by rw [← hc]; simp)]
    · obtain ⟨r, hr, he⟩ := ih (i + 1) (by omega) (by omega)
      refine ⟨r, Ev.step (fun k => ?_) hr, ?_⟩
      · simp only [slices_Index_int_int.l0]
        rw [if_pos (by omega), if_pos (by omega), if_pos (by omega), if_neg hc, w64_succ hlt (by omega)]
      · rw [he]
        congr 1
        rw [List.mem_cons]
        exact propext ⟨.inr, fun h => h.resolve_left hc⟩
theorem contains_of (xs : List Int) (a : Int) (hlen : xs.length ≤ 1000) : Ev (fun k => slices_Contains_int_int.f k xs a) (decide (a ∈ xs)) := by
  obtain ⟨r, hr, he⟩ := index_l0 xs a hlen _ 0 (by omega) rfl
  simp only [slices_Contains_int_int.f, slices_Index_int_int.f]
  refine Ev.bind hr (Ev.to ?_)
  rw [he, List.drop_zero]
theorem fy_l0 (d y : Int) (xs : List Int) (hlen : xs.length ≤ 1000) (b0 b1 b2 b3 b4 b5 b6 : Bool) (c : List S99) (pf : Int → Int × Int × Int) (hpf : ∀ x ∈ xs, Ev (fun k => day_Parts.f k x) (pf x) ∧ (pf x).1 = y) (hpw : xs.Pairwise fun a b => a < b)
    (h : Bool) (hI : Ev (fun k => feast_Is.f k b0 b1 b2 b3 b4 b5 b6 c d) h) (he : decide (d ∈ xs) = h) (n : Nat) :
    ∀ i : Nat, i ≤ xs.length → xs.length - i = n → Ev (fun k => mootkeep1_FeastYear.l0 k d y xs xs (xs.length : Int) (i : Int) b0 b1 b2 b3 b4 b5 b6 c) true := by
  induction n with
  | zero =>
    intro i hi hn
    obtain rfl : i = xs.length := by omega
    refine Ev.step (f := fun k => (slices_Contains_int_int.f k xs d).bind fun t225 => (feast_Is.f k b0 b1 b2 b3 b4 b5 b6 c d).bind fun t226 => some (t225 == t226)) (fun k => ?_) ?_
    · simp only [mootkeep1_FeastYear.l0]
      rw [if_neg (by omega)]
    · refine Ev.bind (contains_of xs d hlen) (Ev.bind hI (Ev.to ?_))
      rw [he]; simp
  | succ n ih =>
    intro i hi hn
    have hlt : i < xs.length := by omega
    have hp := hpf (rd xs (i : Int)) (by rw [yd_get xs i hlt]; exact List.getElem_mem hlt)
    have ih' := ih (i + 1) (by omega) (by omega)
    refine Ev.step (f := fun k => (day_Parts.f k (rd xs (i : Int))).bind fun bt221 => if bt221.1 = y then mootkeep1_FeastYear.l0 k d y xs xs (xs.length : Int) ((i + 1 : Nat) : Int) b0 b1 b2 b3 b4 b5 b6 c else some false) (fun k => ?_) (Ev.bind hp.1 (Ev.ifp hp.2 ih'))
    simp only [mootkeep1_FeastYear.l0]
    rw [if_pos (by omega), if_pos (by omega), if_pos (by omega), w64_succ hlt (by omega)]
    by_cases h0 : 0 < i
    · have hl := List.pairwise_iff_getElem.1 hpw (i - 1) i (by omega) hlt (by omega)
      rw [← yd_get xs i hlt, ← yd_get xs (i - 1) (by omega)] at hl
      rw [w64 (x := (i : Int) - 1) (by omega) (by omega), show (i : Int) - 1 = ((i - 1 : Nat) : Int) from by omega, if_pos (by omega), if_pos (by omega), if_pos (by omega), if_neg (by omega)]
    · rw [if_neg (by omega)]
theorem FeastYear : mootkeep1_FeastYear.Pure := by
  intro st a1 _ _ _ _
  have r1 := below_range a1 40000 (by omega)
  obtain ⟨d, hd⟩ : ∃ d, d = 700000 + a1 % 40000 := ⟨_, rfl⟩
  obtain ⟨b2, b5, c, hcal, hlen, hg⟩ := cal_of st
  obtain ⟨pf, hpf⟩ := pf_of
  obtain ⟨hol, hhol⟩ := fIs_of false false b2 false false b5 true c hg (by omega)
  obtain ⟨y, hy⟩ : ∃ y, y = (pf d).1 := ⟨_, rfl⟩
  have hpd := hpf d (by omega) (by omega)
  have hp := hpd.2
  rw [← hy] at hp
  have hB := IsPartsB hp (by omega); have hy1 := hp.y1; have hm1 := hp.m1; have hm2 := hp.m2; have hk1 := hp.k1; have hk2 := hp.k2; have heq := hp.eq
  have hA13 := A13 y
  have hAm := A_range y (pf d).2.1 hm1 (by omega)
  have hA1 := A1 y
  have hL1 := L_range y 1 (by omega) (by omega)
  have hLm : L y (pf d).2.1 = A y ((pf d).2.1 + 1) - A y (pf d).2.1 := rfl
  have hle : A y ((pf d).2.1 + 1) ≤ 366 := (A_range y ((pf d).2.1 + 1) (by omega) (by omega)).2.1
  have hF := F_range y hy1
  have hof := of_gen y 1 1 hy1 (by omega) (by omega) (by omega) (by omega)
  rw [if_neg (by omega), if_neg (by omega), show F y + A y 1 + 1 - 1 = F y by omega] at hof
  obtain ⟨top, htop⟩ : ∃ t, t = min (F y + 365) 1048575 := ⟨_, rfl⟩
  obtain ⟨n, hn⟩ : ∃ n : Nat, F y + n = top + 1 := ⟨(top + 1 - F y).toNat, by omega⟩
  have hon := on_l0 y (F y) top htop (by omega) (by omega) false false b2 false false b5 true c pf hpf hol hhol n (F y) [] (by omega) hn (by simp; omega)
  rw [List.nil_append] at hon
  have hOn : Ev (fun k => feast_On.f k false false b2 false false b5 true c y) (hl pf hol y n (F y), 0) := by
    simp only [feast_On.f]
    exact Ev.bind (fCheck_of _ _ _ _ _ _ c hg (by omega)) (Ev.ifp rfl (Ev.bind hof (Ev.ifp rfl hon)))
  have hxs : ∀ x ∈ hl pf hol y n (F y), Ev (fun k => day_Parts.f k x) (pf x) ∧ (pf x).1 = y := by
    intro x hx
    have := (mem_hl pf hol y x n (F y)).1 hx
    exact ⟨(hpf x (by omega) (by omega)).1, this.2.2.1⟩
  have hlen2 : (hl pf hol y n (F y)).length ≤ 1000 := by
    have : ∀ (n : Nat) (d : Int), (hl pf hol y n d).length ≤ n := by
      intro n
      induction n with
      | zero => intro d; simp [hl]
      | succ n ih =>
        intro d
        have := ih (d + 1)
        rw [hl]
        split
        · split
          · rw [List.length_cons]; omega
          · omega
        · omega
    have := this n (F y)
    omega
  have he : decide (d ∈ hl pf hol y n (F y)) = hol d := by
    have hmem := mem_hl pf hol y d n (F y)
    cases hh : hol d with
    | true => exact decide_eq_true (hmem.2 ⟨by omega, by omega, hy.symm, hh⟩)
    | false => exact decide_eq_false (fun hx => by have := (hmem.1 hx).2.2.2; rw [hh] at this; exact absurd this (by decide))
  refine Ev.rounds (g := fun k => mootkeep1_FeastYear.f k st a1) ?_
  simp only [mootkeep1_FeastYear.f]
  refine Ev.bind hcal ?_
  simp only [day_of, Option.bind_some]
  rw [← hd]
  refine Ev.bind hpd.1 ?_
  rw [← hy]
  refine Ev.bind hOn (Ev.bind feasts_of (Ev.ifp rfl ?_))
  refine Ev.step (fun k => ?_) (fy_l0 d y _ hlen2 false false b2 false false b5 true c pf hxs (pw_hl pf hol y n (F y)) (hol d) (hhol d (by omega) (by omega)) he _ 0 (by omega) rfl)
  simp only [mootkeep1_FeastYear.j0]
  rw [if_neg (by decide)]; rfl
end Go.Proofs.Ytdajcnhhfgnbmaa.Pure
