/-
The parts of an amount that is not negative sum to it, each is less than 1 away from its quota, and a part with more weight is not less, whatever numbers come in.
-/
import Derived.Test.YtkcmjdbeiclbkaaPCashSumsx5
set_option linter.unusedVariables false
set_option linter.unusedSimpArgs false
namespace Go.Proofs.Ytkcmjdbeiclbkaa.Pure
open Go.RowKit Go.Proofs.Ytkcmjdbeiclbkaa.PCashSums Go.Proofs.YtkcmjdbeiclbkaaW.PrintWords Go.Proofs.YtkcmjdbeiclbkaaW.PrintLast
/-- numbers that need no wrap -/
theorem w64 {x : Int} (h1 : -9223372036854775808 ≤ x) (h2 : x ≤ 9223372036854775807) : wrap64 x = x := by unfold wrap64; omega
theorem tdivnn {a b : Int} (h : 0 ≤ a) : Int.tdiv a b = a / b := Int.tdiv_eq_ediv_of_nonneg h
theorem tmodnn {a b : Int} (h : 0 ≤ a) : Int.tmod a b = a % b := Int.tmod_eq_emod_of_nonneg h
theorem Ev.ifp {α : Type} {c : Prop} [Decidable c] {a b : Nat → Option α} {r : α} (h : c) (k : Ev a r) : Ev (fun n => if c then a n else b n) r := Ev.congr (fun n => by rw [if_pos h]) k
theorem Ev.ifn {α : Type} {c : Prop} [Decidable c] {a b : Nat → Option α} {r : α} (h : ¬ c) (k : Ev b r) : Ev (fun n => if c then a n else b n) r := Ev.congr (fun n => by rw [if_neg h]) k
theorem Ev.to {α : Type} {a b : α} (h : a = b) : Ev (fun _ => some a) b := h ▸ Ev.now a
theorem below_of (x n : Int) (h0 : 0 < n) (h1 : n ≤ 4611686018427387904) : mootmake_Below.f x n = some (x % n) := by
  have hr := Int.emod_nonneg x (show n ≠ 0 by omega)
  have hl := Int.emod_lt_of_pos x h0
  unfold mootmake_Below.f
  rw [if_neg (by omega), Int.tmod_eq_emod]
  by_cases h : 0 ≤ x ∨ n ∣ x
  · rw [if_pos h, show x % n - ((0 : Nat) : Int) = x % n from by omega, if_neg (by omega)]
  · have h3 : x % n ≠ 0 := fun e => h (.inr (Int.dvd_of_emod_eq_zero e))
    rw [if_neg h, if_pos (by omega), w64 (by omega) (by omega)]
    congr 1; omega
theorem below_range (x n : Int) (h0 : 0 < n) : 0 ≤ x % n ∧ x % n < n := ⟨Int.emod_nonneg x (by omega), Int.emod_lt_of_pos x h0⟩
namespace StabP
open Go Go.Sort slices_SortStableFunc_int_int
/-- no fellow of the second row is less than one of the first, and so on: sortedness of two rows that are put one after the other -/
theorem sorted_join {lt : Int → Int → Bool} (hS : SWO lt) {a m b : Nat} {d : Array Int} (h1 : SortedIn lt a m d) (h2 : SortedIn lt m b d) (h : ∀ i j, a ≤ i → i < m → m ≤ j → j < b → lt d[j]! d[i]! = false) : SortedIn lt a b d := by
  intro i j hi hij hj
  by_cases e1 : j < m
  · exact h1 i j hi hij e1
  · by_cases e2 : i < m
    · exact h i j hi e2 (by omega) hj
    · exact h2 i j (by omega) hij hj
theorem pall {a b : Nat} {d d' : Array Int} (p : Int → Prop) (hb : b ≤ d.size) (h : PermIn a b d d') (hp : ∀ i, a ≤ i → i < b → p d[i]!) : ∀ i, a ≤ i → i < b → p d'[i]! := permIn_all d d' a b p hb h hp
theorem pmono {a b a' b' : Nat} {d d' : Array Int} (h1 : a' ≤ a) (h2 : b ≤ b') (h3 : b' ≤ d.size) (h : PermIn a b d d') : PermIn a' b' d d' := permIn_mono d d' a b a' b' h1 h2 h3 h
theorem ptrans {a b : Nat} {d d' d'' : Array Int} (h1 : PermIn a b d d') (h2 : PermIn a b d' d'') : PermIn a b d d'' := permIn_trans d d' d'' a b h1 h2
theorem pswp {d : Array Int} {a b i j : Nat} (h1 : a ≤ i) (h2 : i < b) (h3 : a ≤ j) (h4 : j < b) (h5 : b ≤ d.size) : PermIn a b d (swp d i j) := swp_permIn d a b i j h1 h2 h3 h4 h5
/-! ### the rotation -/
theorem swr_perm (a b lo hi : Nat) : ∀ (r i : Nat) (d : Array Int), lo ≤ a → lo ≤ b → a + i + r ≤ hi → b + i + r ≤ hi → hi ≤ d.size → PermIn lo hi d (swr d a b i r)
  | 0, _, d, _, _, _, _, _ => permIn_refl d lo hi
  | r + 1, i, d, h1, h2, h3, h4, h5 => by
    rw [swr]
    exact ptrans (pswp (by omega) (by omega) (by omega) (by omega) h5) (swr_perm a b lo hi r (i + 1) _ h1 h2 (by omega) (by omega) (by rw [size_swp]; exact h5))
theorem swr_get (a b : Nat) : ∀ (r i : Nat) (d : Array Int), a + i + r ≤ b → b + i + r ≤ d.size → ∀ k, (swr d a b i r)[k]! = if a + i ≤ k ∧ k < a + i + r then d[k - a + b]! else if b + i ≤ k ∧ k < b + i + r then d[k - b + a]! else d[k]!
  | 0, i, d, _, _, k => by rw [swr, if_neg (by omega), if_neg (by omega)]
  | r + 1, i, d, h1, h2, k => by
    rw [swr, swr_get a b r (i + 1) _ (by omega) (by rw [size_swp]; omega) k]
    have hne : a + i ≠ b + i := by omega
    by_cases c1 : k = a + i
    · subst c1
      rw [if_neg (by omega), if_neg (by omega), if_pos (by omega), swp_left _ _ _ (by omega) hne, show a + i - a + b = b + i from by omega]
    · by_cases c2 : k = b + i
      · subst c2
        rw [if_neg (by omega), if_neg (by omega), if_neg (by omega), if_pos (by omega), swp_right _ _ _ (by omega), show b + i - b + a = a + i from by omega]
      · by_cases c3 : a + i ≤ k ∧ k < a + i + (r + 1)
        · rw [if_pos c3, if_pos (by omega), swp_other _ _ _ _ (by omega) (by omega)]
        · rw [if_neg c3, if_neg (by omega)]
          by_cases c4 : b + i ≤ k ∧ k < b + i + (r + 1)
          · rw [if_pos c4, if_pos (by omega), swp_other _ _ _ _ (by omega) (by omega)]
          · rw [if_neg c4, if_neg (by omega), swp_other _ _ _ _ c1 c2]
theorem rot_get (m : Nat) : ∀ (f : Nat) (d : Array Int) (i j : Nat), 0 < i → 0 < j → i ≤ m → m + j ≤ d.size → i + j ≤ f → ∀ k, (rot m f d i j)[k]! = if m - i ≤ k ∧ k < m - i + j then d[k + i]! else if m - i + j ≤ k ∧ k < m + j then d[k - j]! else d[k]!
  | 0, _, _, _, h1, h2, _, _, h5, _ => by omega
  | f + 1, d, i, j, h1, h2, h3, h4, h5, k => by
    rw [rot]
    by_cases e : i = j
    · rw [if_pos e]
      subst e
      rw [swr_get _ _ _ _ _ (by omega) (by omega) k]
      by_cases c1 : m - i ≤ k ∧ k < m - i + i
      · rw [if_pos (by omega), if_pos c1, show k - (m - i) + m = k + i from by omega]
      · rw [if_neg (by omega), if_neg c1]
        by_cases c2 : m - i + i ≤ k ∧ k < m + i
        · rw [if_pos (by omega), if_pos c2, show k - m + (m - i) = k - i from by omega]
        · rw [if_neg (by omega), if_neg c2]
    · rw [if_neg e]
      by_cases g : i > j
      · rw [if_pos g, rot_get m f _ (i - j) j (by omega) h2 (by omega) (by rw [swr_size]; exact h4) (by omega) k]
        by_cases c1 : m - i ≤ k ∧ k < m - i + j
        · rw [if_neg (by omega), if_neg (by omega), if_pos c1, swr_get _ _ _ _ _ (by omega) (by omega), if_pos (by omega), show k - (m - i) + m = k + i from by omega]
        · rw [if_neg c1]
          by_cases c2 : m - i + j ≤ k ∧ k < m + j
          · rw [if_pos c2]
            by_cases c3 : k < m - (i - j) + j
            · rw [if_pos (by omega), swr_get _ _ _ _ _ (by omega) (by omega)]
              by_cases c4 : m ≤ k + (i - j)
              · rw [if_neg (by omega), if_pos (by omega), show k + (i - j) - m + (m - i) = k - j from by omega]
              · rw [if_neg (by omega), if_neg (by omega)]
                exact (c4 (by omega)).elim
            · rw [if_neg (by omega), if_pos (by omega), swr_get _ _ _ _ _ (by omega) (by omega), if_neg (by omega), if_neg (by omega)]
          · rw [if_neg c2, if_neg (by omega), if_neg (by omega), swr_get _ _ _ _ _ (by omega) (by omega), if_neg (by omega), if_neg (by omega)]
      · rw [if_neg g, rot_get m f _ i (j - i) h1 (by omega) h3 (by rw [swr_size]; omega) (by omega) k]
        by_cases c1 : m - i ≤ k ∧ k < m - i + j
        · rw [if_pos c1]
          by_cases c3 : k < m - i + (j - i)
          · rw [if_pos (by omega), swr_get _ _ _ _ _ (by omega) (by omega), if_neg (by omega), if_neg (by omega)]
          · rw [if_neg (by omega), if_pos (by omega), swr_get _ _ _ _ _ (by omega) (by omega), if_pos (by omega), show k - (j - i) - (m - i) + (m + j - i) = k + i from by omega]
        · rw [if_neg c1, if_neg (by omega), if_neg (by omega), swr_get _ _ _ _ _ (by omega) (by omega)]
          by_cases c2 : m - i + j ≤ k ∧ k < m + j
          · rw [if_pos c2, if_neg (by omega), if_pos (by omega), show k - (m + j - i) + (m - i) = k - j from by omega]
          · rw [if_neg c2, if_neg (by omega), if_neg (by omega)]
theorem rot_perm (m lo hi : Nat) : ∀ (f : Nat) (d : Array Int) (i j : Nat), 0 < i → 0 < j → i ≤ m → lo ≤ m - i → m + j ≤ hi → hi ≤ d.size → PermIn lo hi d (rot m f d i j)
  | 0, d, _, _, _, _, _, _, _, _ => permIn_refl d lo hi
  | f + 1, d, i, j, h1, h2, h3, h4, h5, h6 => by
    rw [rot]
    by_cases e : i = j
    · rw [if_pos e]
      exact swr_perm _ _ lo hi _ _ _ (by omega) (by omega) (by omega) (by omega) h6
    · rw [if_neg e]
      by_cases g : i > j
      · rw [if_pos g]
        exact ptrans (swr_perm _ _ lo hi _ _ _ (by omega) (by omega) (by omega) (by omega) h6) (rot_perm m lo hi f _ (i - j) j (by omega) h2 (by omega) (by omega) h5 (by rw [swr_size]; exact h6))
      · rw [if_neg g]
        exact ptrans (swr_perm _ _ lo hi _ _ _ (by omega) (by omega) (by omega) (by omega) h6) (rot_perm m lo hi f _ i (j - i) h1 (by omega) h3 h4 (by omega) (by rw [swr_size]; exact h6))
/-! ### one element goes to its place -/
theorem bup_perm (lo hi : Nat) : ∀ (r : Nat) (d : Array Int) (k : Nat), lo ≤ k → k + r < hi → hi ≤ d.size → PermIn lo hi d (bup r d k)
  | 0, d, _, _, _, _ => permIn_refl d lo hi
  | r + 1, d, k, h1, h2, h3 => by
    rw [bup]
    exact ptrans (pswp h1 (by omega) (by omega) (by omega) h3) (bup_perm lo hi r _ (k + 1) (by omega) (by omega) (by rw [size_swp]; exact h3))
theorem bup_get : ∀ (r : Nat) (d : Array Int) (k : Nat), k + r < d.size → ∀ p, (bup r d k)[p]! = if k ≤ p ∧ p < k + r then d[p + 1]! else if p = k + r then d[k]! else d[p]!
  | 0, d, k, _, p => by
    rw [bup, if_neg (by omega)]
    by_cases c : p = k + 0
    · rw [if_pos c, c]; rfl
    · rw [if_neg c]
  | r + 1, d, k, h, p => by
    rw [bup, bup_get r _ (k + 1) (by rw [size_swp]; omega) p]
    by_cases c1 : p = k
    · rw [if_neg (by omega), if_neg (by omega), if_pos (by omega), c1, swp_left _ _ _ (by omega) (by omega)]
    · by_cases c2 : p = k + (r + 1)
      · rw [if_neg (by omega), if_pos (by omega), if_neg (by omega), if_pos c2, swp_right _ _ _ (by omega)]
      · rw [if_neg (show ¬ p = k + 1 + r from by omega), if_neg c2]
        by_cases c3 : k ≤ p ∧ p < k + (r + 1)
        · rw [if_pos c3, if_pos (by omega), swp_other _ _ _ _ (by omega) (by omega)]
        · rw [if_neg c3, if_neg (by omega), swp_other _ _ _ _ (by omega) (by omega)]
theorem bdn_perm (lo hi : Nat) : ∀ (r : Nat) (d : Array Int) (k : Nat), lo + r ≤ k → k < hi → hi ≤ d.size → PermIn lo hi d (bdn r d k)
  | 0, d, _, _, _, _ => permIn_refl d lo hi
  | r + 1, d, k, h1, h2, h3 => by
    rw [bdn]
    exact ptrans (pswp (by omega) (by omega) (by omega) (by omega) h3) (bdn_perm lo hi r _ (k - 1) (by omega) (by omega) (by rw [size_swp]; exact h3))
theorem bdn_get : ∀ (r : Nat) (d : Array Int) (k : Nat), r ≤ k → k < d.size → ∀ p, (bdn r d k)[p]! = if k - r < p ∧ p ≤ k then d[p - 1]! else if p = k - r then d[k]! else d[p]!
  | 0, d, k, _, _, p => by
    rw [bdn, if_neg (by omega)]
    by_cases c : p = k - 0
    · rw [if_pos c, c]; rfl
    · rw [if_neg c]
  | r + 1, d, k, h, h2, p => by
    rw [bdn, bdn_get r _ (k - 1) (by omega) (by rw [size_swp]; omega) p]
    by_cases c1 : p = k
    · rw [if_neg (by omega), if_neg (by omega), if_pos (by omega), c1, swp_left _ _ _ (by omega) (by omega)]
    · by_cases c2 : p = k - (r + 1)
      · rw [if_neg (by omega), if_pos (by omega), if_neg (by omega), if_pos c2, swp_right _ _ _ (by omega)]
      · rw [if_neg (show ¬ p = k - 1 - r from by omega), if_neg c2]
        by_cases c3 : k - (r + 1) < p ∧ p ≤ k
        · rw [if_pos c3, if_pos (by omega), swp_other _ _ _ _ (by omega) (by omega)]
        · rw [if_neg c3, if_neg (by omega), swp_other _ _ _ _ (by omega) (by omega)]
/-! ### the search -/
theorem bs_spec (p : Nat → Bool) (s : Nat) : ∀ (f i j : Nat), i ≤ j → j - i ≤ f → (∀ x y, i ≤ x → x ≤ y → y < j → p y = true → p x = true) → i ≤ bs p f i j ∧ bs p f i j ≤ j ∧ (∀ x, i ≤ x → x < bs p f i j → p x = true) ∧ (∀ x, bs p f i j ≤ x → x < j → p x = false)
  | 0, i, j, h1, h2, _ => by
    rw [bs]
    exact ⟨Nat.le_refl _, h1, fun x _ _ => by omega, fun x _ _ => by omega⟩
  | f + 1, i, j, h1, h2, hm => by
    rw [bs]
    by_cases h : i < j
    · rw [if_pos h]
      by_cases hp : p ((i + j) / 2) = true
      · rw [if_pos hp]
        obtain ⟨a1, a2, a3, a4⟩ := bs_spec p s f ((i + j) / 2 + 1) j (by omega) (by omega) (fun x y hx hxy hy => hm x y (by omega) hxy hy)
        refine ⟨by omega, a2, fun x hx hlt => ?_, a4⟩
        by_cases c : x ≤ (i + j) / 2
        · exact hm x _ hx c (by omega) hp
        · exact a3 x (by omega) hlt
      · rw [if_neg hp]
        obtain ⟨a1, a2, a3, a4⟩ := bs_spec p s f i ((i + j) / 2) (by omega) (by omega) (fun x y hx hxy hy => hm x y hx hxy (by omega))
        refine ⟨a1, by omega, a3, fun x hx hlt => ?_⟩
        by_cases c : x < (i + j) / 2
        · exact a4 x hx c
        · cases hv : p x
          · rfl
          · exact (hp (hm _ x (by omega) (by omega) hlt hv)).elim
    · rw [if_neg h]
      exact ⟨Nat.le_refl _, h1, fun x _ _ => by omega, fun x _ _ => by omega⟩
/-! ### the merge -/
theorem symA_ok {lt : Int → Int → Bool} (hS : SWO lt) (d : Array Int) (a m b : Nat) (h1 : m - a = 1) (h2 : m < b) (h3 : b ≤ d.size) (hs : SortedIn lt m b d) : PermIn a b d (symA lt d a m b) ∧ SortedIn lt a b (symA lt d a m b) := by
  unfold symA
  obtain ⟨a1, a2, a3, a4⟩ := bs_spec (fun h => lt d[h]! d[a]!) 0 (b - m) m b (by omega) (Nat.le_refl _) (fun x y hx hxy hy hp => by
    cases hv : lt d[x]! d[a]!
    · by_cases c : x = y
      · rw [c] at hv; rw [hv] at hp; exact hp
      · have := hS.ntrans _ _ _ (hs x y hx (by omega) hy) hv
        rw [this] at hp; exact hp
    · rfl)
  generalize bs (fun h => lt d[h]! d[a]!) (b - m) m b = i at a1 a2 a3 a4
  refine ⟨bup_perm a b _ _ _ (Nat.le_refl _) (by omega) h3, fun x y hx hxy hy => ?_⟩
  rw [bup_get _ _ _ (by omega) y, bup_get _ _ _ (by omega) x]
  by_cases c1 : x < i - 1
  · rw [if_pos (show a ≤ x ∧ x < a + (i - 1 - a) from by omega)]
    by_cases c2 : y < i - 1
    · rw [if_pos (by omega)]
      exact hs _ _ (by omega) (by omega) (by omega)
    · by_cases c3 : y = i - 1
      · rw [if_neg (by omega), if_pos (by omega)]
        exact hS.asymmA (a3 (x + 1) (by omega) (by omega))
      · rw [if_neg (by omega), if_neg (by omega)]
        exact hs _ _ (by omega) (by omega) (by omega)
  · rw [if_neg (show ¬ (a ≤ x ∧ x < a + (i - 1 - a)) from by omega), if_neg (show ¬ (a ≤ y ∧ y < a + (i - 1 - a)) from by omega), if_neg (show ¬ y = a + (i - 1 - a) from by omega)]
    by_cases c2 : x = a + (i - 1 - a)
    · rw [if_pos c2]
      exact a4 y (by omega) hy
    · rw [if_neg c2]
      exact hs _ _ (by omega) (by omega) (by omega)
theorem symB_ok {lt : Int → Int → Bool} (hS : SWO lt) (d : Array Int) (a m b : Nat) (h1 : a < m) (h2 : b - m = 1) (h3 : b ≤ d.size) (hs : SortedIn lt a m d) : PermIn a b d (symB lt d a m b) ∧ SortedIn lt a b (symB lt d a m b) := by
  unfold symB
  obtain ⟨a1, a2, a3, a4⟩ := bs_spec (fun h => !(lt d[m]! d[h]!)) 0 (m - a) a m (by omega) (Nat.le_refl _) (fun x y hx hxy hy hp => by
    have hp' : lt d[m]! d[y]! = false := by simpa using hp
    by_cases c : x = y
    · rw [c]; exact hp
    · have := hS.ntrans _ _ _ hp' (hs x y hx (by omega) hy)
      simpa using this)
  generalize bs (fun h => !(lt d[m]! d[h]!)) (m - a) a m = i at a1 a2 a3 a4
  refine ⟨bdn_perm a b _ _ _ (by omega) (by omega) h3, fun x y hx hxy hy => ?_⟩
  rw [bdn_get _ _ _ (by omega) (by omega) y, bdn_get _ _ _ (by omega) (by omega) x]
  have e0 : m - (m - i) = i := by omega
  rw [e0]
  by_cases c1 : x < i
  · rw [if_neg (show ¬ (i < x ∧ x ≤ m) from by omega), if_neg (show ¬ x = i from by omega)]
    by_cases c2 : y < i
    · rw [if_neg (by omega), if_neg (by omega)]
      exact hs _ _ hx hxy (by omega)
    · by_cases c3 : y = i
      · rw [if_neg (by omega), if_pos c3]
        have := a3 x hx c1
        simpa using this
      · rw [if_pos (by omega)]
        exact hs _ _ (by omega) (by omega) (by omega)
  · rw [if_pos (show i < y ∧ y ≤ m from by omega)]
    by_cases c2 : x = i
    · rw [if_neg (by omega), if_pos c2]
      have := a4 (y - 1) (by omega) (by omega)
      exact hS.asymmA (by simpa using this)
    · rw [if_pos (by omega)]
      exact hs _ _ (by omega) (by omega) (by omega)
theorem symC_ok {lt : Int → Int → Bool} (hS : SWO lt) (rec : Array Int → Nat → Nat → Nat → Array Int) (d : Array Int) (a m b : Nat) (h1 : a < m) (h2 : m < b) (h3 : b ≤ d.size)
    (hrec : ∀ (X : Array Int) (a' m' b' : Nat), X.size = d.size → a' < m' → m' < b' → b' ≤ d.size → b' - a' < b - a → SortedIn lt a' m' X → SortedIn lt m' b' X → PermIn a' b' X (rec X a' m' b') ∧ SortedIn lt a' b' (rec X a' m' b'))
    (hl : SortedIn lt a m d) (hr : SortedIn lt m b d) : PermIn a b d (symC lt rec d a m b) ∧ SortedIn lt a b (symC lt rec d a m b) := by
  unfold symC symF symS
  obtain ⟨mid, hmid⟩ : ∃ mid, mid = (a + b) / 2 := ⟨_, rfl⟩
  rw [← hmid]
  obtain ⟨n, hn⟩ : ∃ n, n = mid + m := ⟨_, rfl⟩
  rw [← hn]
  obtain ⟨s0, hs0⟩ : ∃ s0, s0 = if mid < m then n - b else a := ⟨_, rfl⟩
  rw [← hs0]
  obtain ⟨r0, hr0⟩ : ∃ r0, r0 = if mid < m then mid else m := ⟨_, rfl⟩
  rw [← hr0]
  have hb : a ≤ s0 ∧ s0 ≤ r0 ∧ r0 ≤ m ∧ n - s0 ≤ b ∧ m ≤ n - r0 ∧ r0 ≤ mid ∧ s0 ≤ n := by
    by_cases h : mid < m
    · rw [if_pos h] at hs0 hr0; omega
    · rw [if_neg h] at hs0 hr0; omega
  have hfirst : s0 = a ∨ n - s0 = b := by
    by_cases h : mid < m
    · rw [if_pos h] at hs0; omega
    · rw [if_neg h] at hs0; omega
  have hlast : r0 = m ∨ n - r0 = m := by
    by_cases h : mid < m
    · rw [if_pos h] at hr0; omega
    · rw [if_neg h] at hr0; omega
  obtain ⟨b1, b2, b3, b4, b5, b6, b7⟩ := hb
  obtain ⟨a1, a2, a3, a4⟩ := bs_spec (fun c => !(lt d[n - 1 - c]! d[c]!)) 0 (r0 - s0) s0 r0 b2 (Nat.le_refl _) (fun x y hx hxy hy hp => by
    have hp' : lt d[n - 1 - y]! d[y]! = false := by simpa using hp
    by_cases c : x = y
    · rw [c]; exact hp
    · have e1 := hr (n - 1 - y) (n - 1 - x) (by omega) (by omega) (by omega)
      have e2 := hl x y (by omega) (by omega) (by omega)
      have := hS.ntrans _ _ _ (hS.ntrans _ _ _ e1 hp') e2
      simpa using this)
  generalize bs (fun c => !(lt d[n - 1 - c]! d[c]!)) (r0 - s0) s0 r0 = s at a1 a2 a3 a4
  obtain ⟨en, hen⟩ : ∃ en, en = n - s := ⟨_, rfl⟩
  rw [← hen]
  have c1 : a ≤ s ∧ s ≤ m ∧ s ≤ mid ∧ m ≤ en ∧ mid ≤ en ∧ en ≤ b ∧ s + (en - m) = mid ∧ a < mid ∧ mid < b := by omega
  obtain ⟨c1, c2, c3, c4, c5, c6, c7, c8, c9⟩ := c1
  -- the two rows that lie beside the cut
  have ha3 : ∀ i j, a ≤ i → i < s → en ≤ j → j < b → lt d[j]! d[i]! = false := by
    intro i j hi hj hk hlt
    rcases hfirst with e | e
    · have e1 := a3 (s - 1) (by omega) (by omega)
      have e1' : lt d[n - 1 - (s - 1)]! d[s - 1]! = false := by simpa using e1
      have e2 : n - 1 - (s - 1) = en := by omega
      rw [e2] at e1'
      have e3 : lt d[s - 1]! d[i]! = false := by
        by_cases c : i = s - 1
        · rw [← c]; exact hS.irrefl _
        · exact hl _ _ hi (by omega) (by omega)
      have e4 : lt d[j]! d[en]! = false := by
        by_cases c : en = j
        · rw [← c]; exact hS.irrefl _
        · exact hr _ _ c4 (by omega) hlt
      exact hS.ntrans _ _ _ (hS.ntrans _ _ _ e4 e1') e3
    · by_cases c : s = s0
      · omega
      · have e1 := a3 (s - 1) (by omega) (by omega)
        have e1' : lt d[n - 1 - (s - 1)]! d[s - 1]! = false := by simpa using e1
        have e2 : n - 1 - (s - 1) = en := by omega
        rw [e2] at e1'
        have e3 : lt d[s - 1]! d[i]! = false := by
          by_cases c : i = s - 1
          · rw [← c]; exact hS.irrefl _
          · exact hl _ _ hi (by omega) (by omega)
        have e4 : lt d[j]! d[en]! = false := by
          by_cases c : en = j
          · rw [← c]; exact hS.irrefl _
          · exact hr _ _ c4 (by omega) hlt
        exact hS.ntrans _ _ _ (hS.ntrans _ _ _ e4 e1') e3
  have ha4 : ∀ i j, m ≤ i → i < en → s ≤ j → j < m → lt d[j]! d[i]! = false := by
    intro i j hi hj hk hlt
    have hsr : s < r0 := by omega
    have e1 := a4 s (Nat.le_refl _) hsr
    have e1' : lt d[n - 1 - s]! d[s]! = true := by simpa using e1
    have e2 : n - 1 - s = en - 1 := by omega
    rw [e2] at e1'
    have e1'' := hS.asymmA e1'
    have e3 : lt d[j]! d[s]! = false := by
      by_cases c : s = j
      · rw [← c]; exact hS.irrefl _
      · exact hl _ _ c1 (by omega) hlt
    have e4 : lt d[en - 1]! d[i]! = false := by
      by_cases c : i = en - 1
      · rw [← c]; exact hS.irrefl _
      · exact hr _ _ hi (by omega) (by omega)
    exact hS.ntrans _ _ _ (hS.ntrans _ _ _ e3 e1'') e4
  obtain ⟨e1, he1⟩ : ∃ e1, e1 = if s < m ∧ m < en then rot m (en - s) d (m - s) (en - m) else d := ⟨_, rfl⟩
  rw [← he1]
  have hP1 : PermIn a b d e1 := by
    rw [he1]
    split
    · exact rot_perm m a b _ _ _ _ (by omega) (by omega) (by omega) (by omega) (by omega) h3
    · exact permIn_refl d a b
  have hG : ∀ k, e1[k]! = if s ≤ k ∧ k < mid then d[k + (m - s)]! else if mid ≤ k ∧ k < en then d[k - (en - m)]! else d[k]! := by
    intro k
    rw [he1]
    by_cases g : s < m ∧ m < en
    · rw [if_pos g, rot_get _ _ _ _ _ (by omega) (by omega) (by omega) (by omega) (by omega)]
      rw [show m - (m - s) = s from by omega, c7, show m + (en - m) = en from by omega]
    · rw [if_neg g]
      by_cases k1 : s ≤ k ∧ k < mid
      · rw [if_pos k1, show k + (m - s) = k from by omega]
      · rw [if_neg k1]
        by_cases k2 : mid ≤ k ∧ k < en
        · rw [if_pos k2, show k - (en - m) = k from by omega]
        · rw [if_neg k2]
  clear he1
  have hz1 : e1.size = d.size := hP1.1
  have g1 : ∀ k, k < s → e1[k]! = d[k]! := fun k hk => by rw [hG, if_neg (by omega), if_neg (by omega)]
  have g2 : ∀ k, s ≤ k → k < mid → e1[k]! = d[k + (m - s)]! := fun k hk hk2 => by rw [hG, if_pos ⟨hk, hk2⟩]
  have g3 : ∀ k, mid ≤ k → k < en → e1[k]! = d[k - (en - m)]! := fun k hk hk2 => by rw [hG, if_neg (by omega), if_pos ⟨hk, hk2⟩]
  have g4 : ∀ k, en ≤ k → e1[k]! = d[k]! := fun k hk => by rw [hG, if_neg (by omega), if_neg (by omega)]
  have s1 : SortedIn lt a s e1 := fun i j hi hij hj => by rw [g1 i (by omega), g1 j hj]; exact hl _ _ hi hij (by omega)
  have s2 : SortedIn lt s mid e1 := fun i j hi hij hj => by rw [g2 i hi (by omega), g2 j (by omega) hj]; exact hr _ _ (by omega) (by omega) (by omega)
  have s3 : SortedIn lt mid en e1 := fun i j hi hij hj => by rw [g3 i hi (by omega), g3 j (by omega) hj]; exact hl _ _ (by omega) (by omega) (by omega)
  have s4 : SortedIn lt en b e1 := fun i j hi hij hj => by rw [g4 i hi, g4 j (by omega)]; exact hr _ _ (by omega) hij hj
  have hX : ∀ j, mid ≤ j → j < b → ∀ i, a ≤ i → i < mid → lt e1[j]! e1[i]! = false := by
    intro j hj hjb i hi him
    by_cases i1 : i < s
    · rw [g1 i i1]
      by_cases j1 : j < en
      · rw [g3 j hj j1]; exact hl _ _ hi (by omega) (by omega)
      · rw [g4 j (by omega)]; exact ha3 i j hi i1 (by omega) hjb
    · rw [g2 i (by omega) him]
      by_cases j1 : j < en
      · rw [g3 j hj j1]; exact ha4 _ _ (by omega) (by omega) (by omega) (by omega)
      · rw [g4 j (by omega)]; exact hr _ _ (by omega) (by omega) hjb
  clear hG g1 g2 g3 g4 ha3 ha4 a3 a4 hl hr
  obtain ⟨e2, he2⟩ : ∃ e2, e2 = if a < s ∧ s < mid then rec e1 a s mid else e1 := ⟨_, rfl⟩
  rw [← he2]
  have h22 : PermIn a mid e1 e2 ∧ SortedIn lt a mid e2 := by
    rw [he2]
    split
    · next g => exact hrec e1 a s mid hz1 g.1 g.2 (by omega) (by omega) s1 s2
    · refine ⟨permIn_refl _ _ _, ?_⟩
      by_cases c : a = s
      · rw [c]; exact s2
      · rw [show mid = s from by omega]; exact s1
  clear he2
  obtain ⟨hP2, hs2⟩ := h22
  have hz2 : e2.size = d.size := hP2.1.trans hz1
  have s3' : SortedIn lt mid en e2 := fun i j hi hij hj => by rw [hP2.2.1 i (by omega), hP2.2.1 j (by omega)]; exact s3 i j hi hij hj
  have s4' : SortedIn lt en b e2 := fun i j hi hij hj => by rw [hP2.2.1 i (by omega), hP2.2.1 j (by omega)]; exact s4 i j hi hij hj
  have hX2 : ∀ j, mid ≤ j → j < b → ∀ i, a ≤ i → i < mid → lt e2[j]! e2[i]! = false := by
    intro j hj hjb
    rw [hP2.2.1 j (by omega)]
    exact pall (fun x => lt e1[j]! x = false) (by omega) hP2 (hX j hj hjb)
  obtain ⟨e3, he3⟩ : ∃ e3, e3 = if mid < en ∧ en < b then rec e2 mid en b else e2 := ⟨_, rfl⟩
  rw [← he3]
  have h33 : PermIn mid b e2 e3 ∧ SortedIn lt mid b e3 := by
    rw [he3]
    split
    · next g => exact hrec e2 mid en b hz2 g.1 g.2 h3 (by omega) s3' s4'
    · refine ⟨permIn_refl _ _ _, ?_⟩
      by_cases c : mid = en
      · rw [c]; exact s4'
      · rw [show b = en from by omega]; exact s3'
  clear he3
  obtain ⟨hP3, hs3⟩ := h33
  refine ⟨ptrans hP1 (ptrans (pmono (Nat.le_refl _) (by omega) (by omega) hP2) (pmono (by omega) (Nat.le_refl _) (by omega) hP3)), ?_⟩
  refine sorted_join hS (m := mid) (fun i j hi hij hj => by rw [hP3.2.1 i (by omega), hP3.2.1 j (by omega)]; exact hs2 i j hi hij hj) hs3 ?_
  intro i j hi him hj hjb
  rw [hP3.2.1 i (by omega)]
  exact pall (fun x => lt x e2[i]! = false) (by omega) hP3 (fun j hj hjb => hX2 j hj hjb i hi him) j hj hjb
theorem sym_ok {lt : Int → Int → Bool} (hS : SWO lt) : ∀ (f : Nat) (d : Array Int) (a m b : Nat), b - a ≤ f → a < m → m < b → b ≤ d.size → SortedIn lt a m d → SortedIn lt m b d → PermIn a b d (sym lt f d a m b) ∧ SortedIn lt a b (sym lt f d a m b)
  | 0, d, a, m, b, h, h1, h2, _, _, _ => by omega
  | f + 1, d, a, m, b, h, h1, h2, h3, hl, hr => by
    rw [sym]
    by_cases c1 : m - a = 1
    · rw [if_pos c1]; exact symA_ok hS d a m b c1 h2 h3 hr
    · rw [if_neg c1]
      by_cases c2 : b - m = 1
      · rw [if_pos c2]; exact symB_ok hS d a m b h1 c2 h3 hl
      · rw [if_neg c2]
        exact symC_ok hS _ d a m b h1 h2 h3 (fun X a' m' b' hX i1 i2 i3 i4 hl' hr' => sym_ok hS f X a' m' b' (by omega) i1 i2 (by omega) hl' hr') hl hr
/-- from a on, rows of s that are each in order -/
def Blks (lt : Int → Int → Bool) (s n : Nat) (d : Array Int) (a : Nat) : Prop := ∀ k, SortedIn lt (a + k * s) (min (a + (k + 1) * s) n) d
theorem Blks.next {lt : Int → Int → Bool} {s n : Nat} {d : Array Int} {a : Nat} (h : Blks lt s n d a) : Blks lt s n d (a + s) := fun k => by
  have := h (k + 1)
  rw [Nat.succ_mul (k + 1) s, Nat.succ_mul k s] at this
  rw [Nat.succ_mul k s]
  intro i j hi hij hj
  exact this i j (by omega) hij (by omega)
theorem Blks.back {lt : Int → Int → Bool} {s n : Nat} {d : Array Int} {a : Nat} (h0 : SortedIn lt a (min (a + s) n) d) (h : Blks lt s n d (a + s)) : Blks lt s n d a := fun k => by
  cases k with
  | zero => intro i j hi hij hj; exact h0 i j (by omega) hij (by omega)
  | succ k =>
    have := h k
    rw [Nat.succ_mul k s] at this
    rw [Nat.succ_mul (k + 1) s, Nat.succ_mul k s]
    intro i j hi hij hj
    exact this i j (by omega) hij (by omega)
theorem Blks.same {lt : Int → Int → Bool} {s n : Nat} {d d' : Array Int} {a : Nat} (h : Blks lt s n d a) (he : ∀ i, a ≤ i → d'[i]! = d[i]!) : Blks lt s n d' a := fun k i j hi hij hj => by
  rw [he i (by omega), he j (by omega)]
  exact h k i j hi hij hj
theorem Blks.first {lt : Int → Int → Bool} {s n : Nat} {d : Array Int} {a : Nat} (h : Blks lt s n d a) : SortedIn lt a (min (a + s) n) d := by
  have := h 0
  intro i j hi hij hj
  exact this i j (by omega) hij (by omega)
theorem Blks.only {lt : Int → Int → Bool} {s n : Nat} {d : Array Int} {a : Nat} (h0 : SortedIn lt a n d) (hn : n ≤ a + s) : Blks lt s n d a :=
  Blks.back (fun i j hi hij hj => h0 i j hi hij (by omega)) (fun k i j hi hij hj => by omega)
theorem stIns_ok {lt : Int → Int → Bool} (hS : SWO lt) (n : Nat) : ∀ (f : Nat) (d : Array Int) (a : Nat), n ≤ d.size → a ≤ n → n - a ≤ f → PermIn a n d (stIns lt n f d a) ∧ Blks lt 20 n (stIns lt n f d a) a
  | 0, d, a, hn, h1, h2 => by
    rw [stIns]
    obtain ⟨p, q⟩ := insertionSort_holds hS d a n h1 hn
    exact ⟨p, Blks.only q (by omega)⟩
  | f + 1, d, a, hn, h1, h2 => by
    rw [stIns]
    by_cases c : a + 20 ≤ n
    · rw [if_pos c]
      obtain ⟨p, q⟩ := insertionSort_holds hS d a (a + 20) (by omega) (by omega)
      obtain ⟨p2, q2⟩ := stIns_ok hS n f _ (a + 20) (by rw [p.1]; exact hn) c (by omega)
      refine ⟨ptrans (pmono (Nat.le_refl _) c hn p) (pmono (by omega) (Nat.le_refl _) (by rw [p.1]; exact hn) p2), Blks.back ?_ q2⟩
      intro i j hi hij hj
      rw [p2.2.1 i (by omega), p2.2.1 j (by omega)]
      exact q i j hi hij (by omega)
    · rw [if_neg c]
      obtain ⟨p, q⟩ := insertionSort_holds hS d a n h1 hn
      exact ⟨p, Blks.only q (by omega)⟩
theorem stPass_ok {lt : Int → Int → Bool} (hS : SWO lt) (n s : Nat) (hs : 1 ≤ s) : ∀ (f : Nat) (d : Array Int) (a : Nat), n ≤ d.size → a ≤ n → n - a ≤ f → Blks lt s n d a → PermIn a n d (stPass lt n s f d a) ∧ Blks lt (2 * s) n (stPass lt n s f d a) a
  | 0, d, a, hn, h1, h2, hB => by
    rw [stPass]
    exact ⟨permIn_refl _ _ _, Blks.only (fun i j hi hij hj => by omega) (by omega)⟩
  | f + 1, d, a, hn, h1, h2, hB => by
    rw [stPass]
    by_cases c : a + 2 * s ≤ n
    · rw [if_pos c]
      obtain ⟨p, q⟩ := sym_ok hS (2 * s) d a (a + s) (a + 2 * s) (by omega) (by omega) (by omega) (by omega) (fun i j hi hij hj => hB.first i j hi hij (by omega)) (fun i j hi hij hj => hB.next.first i j hi hij (by omega))
      have hB2 : Blks lt s n (sym lt (2 * s) d a (a + s) (a + 2 * s)) (a + 2 * s) := Blks.same (d := d) (by have := hB.next.next; rw [show a + 2 * s = a + s + s from by omega]; exact this) (fun i hi => p.2.1 i (by omega))
      obtain ⟨p2, q2⟩ := stPass_ok hS n s hs f _ (a + 2 * s) (by rw [p.1]; exact hn) c (by omega) hB2
      refine ⟨ptrans (pmono (Nat.le_refl _) c hn p) (pmono (by omega) (Nat.le_refl _) (by rw [p.1]; exact hn) p2), Blks.back ?_ q2⟩
      intro i j hi hij hj
      rw [p2.2.1 i (by omega), p2.2.1 j (by omega)]
      exact q i j hi hij (by omega)
    · rw [if_neg c]
      by_cases c2 : a + s < n
      · rw [if_pos c2]
        obtain ⟨p, q⟩ := sym_ok hS (n - a) d a (a + s) n (Nat.le_refl _) (by omega) c2 hn (fun i j hi hij hj => hB.first i j hi hij (by omega)) (fun i j hi hij hj => hB.next.first i j hi hij (by omega))
        exact ⟨p, Blks.only q (by omega)⟩
      · rw [if_neg c2]
        exact ⟨permIn_refl _ _ _, Blks.only (fun i j hi hij hj => hB.first i j hi hij (by omega)) (by omega)⟩
theorem stOut_ok {lt : Int → Int → Bool} (hS : SWO lt) (n : Nat) : ∀ (f : Nat) (d : Array Int) (s : Nat), n ≤ d.size → 1 ≤ s → n - s ≤ f → Blks lt s n d 0 → PermIn 0 n d (stOut lt n f d s) ∧ SortedIn lt 0 n (stOut lt n f d s)
  | 0, d, s, hn, h1, h2, hB => by
    rw [stOut]
    exact ⟨permIn_refl _ _ _, fun i j hi hij hj => hB.first i j hi hij (by omega)⟩
  | f + 1, d, s, hn, h1, h2, hB => by
    rw [stOut]
    by_cases c : s < n
    · rw [if_pos c]
      obtain ⟨p, q⟩ := stPass_ok hS n s h1 n d 0 hn (by omega) (by omega) hB
      obtain ⟨p2, q2⟩ := stOut_ok hS n f _ (2 * s) (by rw [p.1]; exact hn) (by omega) (by omega) q
      exact ⟨ptrans p p2, q2⟩
    · rw [if_neg c]
      exact ⟨permIn_refl _ _ _, fun i j hi hij hj => hB.first i j hi hij (by omega)⟩
theorem stab_ok {lt : Int → Int → Bool} (hS : SWO lt) (d : Array Int) : PermIn 0 d.size d (stab lt d) ∧ SortedIn lt 0 d.size (stab lt d) := by
  unfold stab
  obtain ⟨p, q⟩ := stIns_ok hS d.size d.size d 0 (Nat.le_refl _) (by omega) (by omega)
  obtain ⟨p2, q2⟩ := stOut_ok hS d.size d.size _ 20 (by rw [p.1]; exact Nat.le_refl _) (by omega) (by omega) q
  exact ⟨ptrans p p2, q2⟩
end StabP
theorem rd_app (p : List Int) (x : Int) (l : List Int) : rd (p ++ x :: l) (p.length : Int) = x := by
  unfold rd
  simp
theorem set_app (p : List Int) (x v : Int) (l : List Int) : (p ++ x :: l).set ((p.length : Int)).toNat v = p ++ v :: l := by simp
theorem app1 (p : List Int) (x : Int) (l : List Int) : p ++ x :: l = (p ++ [x]) ++ l := by simp
/-- each weight is valid -/
def GoodW (ws : List Int) : Prop := ∀ w ∈ ws, 0 ≤ w ∧ w ≤ 1048576
theorem sum_range : ∀ ws : List Int, GoodW ws → 0 ≤ ws.sum ∧ ws.sum ≤ 1048576 * ws.length
  | [], _ => by simp
  | w :: l, h => by
    have h1 := h w (by simp)
    have h2 := sum_range l (fun x hx => h x (by simp [hx]))
    simp only [List.sum_cons, List.length_cons]
    omega
theorem split_l0 (n : Int) (hn : 0 ≤ n) (ws : List Int) (hw : GoodW ws) (hlen : ws.length ≤ 1000) (hS : ws.sum ≠ 0) (r : List Int × Int) (hr : Ev (fun k => cash_Split.j2 k 1 n ws ws.sum) r) : ∀ (l p : List Int), p ++ l = ws → Ev (fun k => cash_Split.l0 k ws (ws.length : Int) (p.length : Int) n ws p.sum) r
  | [], p, h => by
    have h' : p = ws := by simpa using h
    subst h'
    refine Ev.step (fun k => ?_) hr
    simp only [cash_Split.l0]
    rw [if_neg (by omega), if_neg hS, if_neg (by omega)]
  | x :: l, p, h => by
    have hx := hw x (by rw [← h]; simp)
    have hl : ws.length = p.length + (l.length + 1) := by rw [← h]; simp
    have hp := sum_range p (fun z hz => hw z (by rw [← h]; simp [hz]))
    have hrd : rd ws (p.length : Int) = x := by rw [← h]; exact rd_app p x l
    have := split_l0 n hn ws hw hlen hS r hr l (p ++ [x]) (by rw [← app1]; exact h)
    refine Ev.step (fun k => ?_) this
    simp only [cash_Split.l0]
    rw [if_pos (by omega), if_pos (by omega), if_pos (by omega), hrd, if_neg (by omega), if_neg (by omega), w64 (x := (p.length : Int) + 1) (by omega) (by omega), w64 (x := p.sum + x) (by omega) (by omega)]
    simp
def qs (n S : Int) (ws : List Int) : List Int := ws.map fun w => n * w / S
def idx : Nat → List Int
  | 0 => []
  | n + 1 => idx n ++ [(n : Int)]
theorem idx_len : ∀ n, (idx n).length = n
  | 0 => rfl
  | n + 1 => by simp [idx, idx_len n]
theorem idx_mem : ∀ n (z : Int), z ∈ idx n → 0 ≤ z ∧ z < n
  | 0, z, h => by simp [idx] at h
  | n + 1, z, h => by
    simp only [idx, List.mem_append, List.mem_singleton] at h
    rcases h with h | h
    · have := idx_mem n z h; omega
    · omega
theorem zeros_succ (n : Nat) : List.replicate (n + 1) (0 : Int) = 0 :: List.replicate n 0 := rfl
theorem q_range {n S w : Int} (hn : 0 ≤ n) (hS : 0 < S) (w0 : 0 ≤ w) (w1 : w ≤ S) : 0 ≤ n * w / S ∧ n * w / S ≤ n := by
  have h0 : 0 ≤ n * w := Int.mul_nonneg hn w0
  constructor
  · exact Int.ediv_nonneg h0 (by omega)
  · refine Int.ediv_le_of_le_mul hS ?_
    exact Int.mul_le_mul_of_nonneg_left w1 hn
theorem qs_sum {n S : Int} (hn : 0 ≤ n) (hS : 0 < S) : ∀ ws : List Int, GoodW ws → S * (qs n S ws).sum ≤ n * ws.sum ∧ n * ws.sum ≤ S * (qs n S ws).sum + ws.length * (S - 1)
  | [], _ => by simp [qs]
  | w :: l, h => by
    have ih := qs_sum hn hS l (fun x hx => h x (by simp [hx]))
    have e := Int.mul_ediv_add_emod (n * w) S
    have e1 := Int.emod_nonneg (n * w) (show S ≠ 0 by omega)
    have e2 := Int.emod_lt_of_pos (n * w) hS
    have hq : (qs n S (w :: l)).sum = n * w / S + (qs n S l).sum := by simp [qs]
    have hl : (((w :: l).length : Nat) : Int) * (S - 1) = l.length * (S - 1) + (S - 1) := by
      rw [List.length_cons, Int.natCast_add, Int.add_mul]; simp
    rw [hq, hl, List.sum_cons, Int.mul_add, Int.mul_add]
    omega
/-- one more for a place -/
def bump (c : List Int) (i : Int) : List Int := c.set i.toNat (rd c i + 1)
theorem set_rd (c : List Int) (i : Int) (h0 : 0 ≤ i) (h1 : i < c.length) : c.set i.toNat (rd c i) = c := by
  unfold rd
  have hlt : i.toNat < c.length := by omega
  rw [List.getD_eq_getElem?_getD, List.getElem?_eq_getElem hlt]
  simp
theorem split_l3 (c : List Int) (hc : ∀ x ∈ c, -9223372036854775808 ≤ x ∧ x ≤ 9223372036854775807) (hl : c.length ≤ 1000000) (n : Nat) : ∀ i : Int, 0 ≤ i → i + n = c.length → Ev (fun k => cash_Split.l3 k 1 c (c.length : Int) i) (c, 0) := by
  induction n with
  | zero =>
    intro i h0 h1
    refine Ev.step (f := fun _ => some (c, 0)) (fun k => ?_) (Ev.now _)
    simp only [cash_Split.l3]
    rw [if_neg (by omega)]
  | succ n ih =>
    intro i h0 h1
    have hm : rd c i ∈ c := by
      unfold rd
      have hlt : i.toNat < c.length := by omega
      rw [List.getD_eq_getElem?_getD, List.getElem?_eq_getElem hlt]
      simp
    have hb := hc _ hm
    have := ih (i + 1) (by omega) (by omega)
    refine Ev.step (fun k => ?_) this
    simp only [cash_Split.l3]
    rw [if_pos (by omega), if_pos h0, if_pos (by omega), Int.mul_one, w64 hb.1 hb.2, set_rd c i h0 (by omega), w64 (x := i + 1) (by omega) (by omega)]
theorem rd_mem (c : List Int) (i : Int) (h0 : 0 ≤ i) (h1 : i < c.length) : rd c i ∈ c := by
  unfold rd
  have hlt : i.toNat < c.length := by omega
  rw [List.getD_eq_getElem?_getD, List.getElem?_eq_getElem hlt]
  simp
theorem bump_mem {c : List Int} {i B : Int} (h0 : 0 ≤ i) (h1 : i < c.length) (hc : ∀ x ∈ c, 0 ≤ x ∧ x ≤ B) : ∀ x ∈ bump c i, 0 ≤ x ∧ x ≤ B + 1 := by
  intro x hx
  unfold bump at hx
  rcases List.mem_or_eq_of_mem_set hx with h | h
  · have := hc x h; omega
  · have := hc _ (rd_mem c i h0 h1); omega
theorem split_l2 (o y : List Int) (hy : y.length ≤ 1000) (B : Int) (hB : B ≤ 4000000000000) (L : Nat) (hL : L ≤ 1000) : ∀ (l p c : List Int), p ++ l = y → (∀ z ∈ l, 0 ≤ z ∧ z < L) → c.length = L → (∀ x ∈ c, 0 ≤ x ∧ x ≤ B + p.length) → Ev (fun k => cash_Split.l2 k 1 c o y (y.length : Int) (p.length : Int)) (l.foldl bump c, 0)
  | [], p, c, h, _, hc, hb => by
    have h' : p = y := by simpa using h
    subst h'
    have h3 := split_l3 c (fun x hx => by have := hb x hx; omega) (by omega) c.length 0 (by omega) (by omega)
    refine Ev.step (fun k => ?_) h3
    simp only [cash_Split.l2]
    rw [if_neg (by omega)]
  | z :: l, p, c, h, hz, hc, hb => by
    have hl : y.length = p.length + (l.length + 1) := by rw [← h]; simp
    have hrd : rd y (p.length : Int) = z := by rw [← h]; exact rd_app p z l
    have hz0 := hz z (by simp)
    have hm := hb _ (rd_mem c z hz0.1 (by omega))
    have := split_l2 o y hy B hB L hL l (p ++ [z]) (bump c z) (by rw [← app1]; exact h) (fun w hw => hz w (by simp [hw])) (by simp [bump, hc]) (fun x hx => by
      have := bump_mem hz0.1 (by omega) hb x hx
      simp only [List.length_append, List.length_cons, List.length_nil]
      omega)
    refine Ev.step (fun k => ?_) this
    simp only [cash_Split.l2]
    rw [if_pos (by omega), if_pos (by omega), if_pos (by omega), hrd, if_pos hz0.1, if_pos (by omega), w64 (x := rd c z + 1) (by omega) (by omega), w64 (x := (p.length : Int) + 1) (by omega) (by omega)]
    simp [bump]
theorem bump_sum (c : List Int) (i : Int) (h0 : 0 ≤ i) (h1 : i < c.length) : (bump c i).sum = c.sum + 1 := by
  obtain ⟨k, rfl⟩ : ∃ k : Nat, i = k := ⟨i.toNat, by omega⟩
  have hk : k < c.length := by omega
  obtain ⟨p, x, l, rfl, hp⟩ : ∃ p x l, c = p ++ x :: l ∧ p.length = k := ⟨c.take k, c[k], c.drop (k + 1), by rw [← List.drop_eq_getElem_cons hk]; exact (List.take_append_drop k c).symm, by simp; omega⟩
  subst hp
  unfold bump
  rw [rd_app, set_app]
  simp
  omega
theorem bumps_sum (L : Nat) : ∀ (l c : List Int), (∀ z ∈ l, 0 ≤ z ∧ z < L) → c.length = L → (l.foldl bump c).sum = c.sum + l.length ∧ (l.foldl bump c).length = L
  | [], c, _, h => by simp [h]
  | z :: l, c, hz, h => by
    have h0 := hz z (by simp)
    have := bumps_sum L l (bump c z) (fun w hw => hz w (by simp [hw])) (by simp [bump, h])
    rw [List.foldl_cons, List.length_cons]
    have h2 := bump_sum c z h0.1 (by omega)
    omega
/-- the order in which what is left is given -/
def ordr (n : Int) (ws : List Int) : List Int := slices_SortStableFunc_int_int.srt n ws ws.sum (idx ws.length)
theorem nm_mem (m : Nat) (hm : 1 ≤ m) (z : Int) : 0 ≤ slices_SortStableFunc_int_int.nm m z ∧ slices_SortStableFunc_int_int.nm m z < m := by
  unfold slices_SortStableFunc_int_int.nm
  split <;> omega
theorem ordr_mem (n : Int) (ws : List Int) (h : 1 ≤ ws.length) (z : Int) (hz : z ∈ ordr n ws) : 0 ≤ z ∧ z < ws.length := by
  unfold ordr slices_SortStableFunc_int_int.srt at hz
  obtain ⟨x, _, rfl⟩ := List.mem_map.1 hz
  exact nm_mem _ h x
def left (n : Int) (ws : List Int) : Int := n - (qs n ws.sum ws).sum
theorem left_range (n : Int) (hn : 0 ≤ n) (ws : List Int) (hw : GoodW ws) (hS : 0 < ws.sum) : 0 ≤ left n ws ∧ left n ws ≤ ws.length := by
  have h := qs_sum hn hS ws hw
  have e : ws.sum * left n ws = n * ws.sum - ws.sum * (qs n ws.sum ws).sum := by unfold left; rw [Int.mul_sub, Int.mul_comm ws.sum n]
  constructor
  · refine Int.not_lt.1 fun hl => ?_
    have : ws.sum * left n ws < 0 := Int.mul_neg_of_pos_of_neg hS hl
    omega
  · refine Int.not_lt.1 fun hl => ?_
    have h1 : ws.sum * ((ws.length : Int) + 1) ≤ ws.sum * left n ws := Int.mul_le_mul_of_nonneg_left (by omega) (by omega)
    rw [Int.mul_add, Int.mul_one, Int.mul_comm] at h1
    rw [Int.mul_sub, Int.mul_one] at h
    omega
theorem split_l1 (n : Int) (hn : 0 ≤ n) (hn2 : n ≤ 1099511627776) (ws : List Int) (hw : GoodW ws) (hlen : 1 ≤ ws.length) (hlen2 : ws.length ≤ 1000) (hS : 0 < ws.sum) (hso : (ordr n ws).length = ws.length) : ∀ (l p : List Int), p ++ l = ws →
    Ev (fun k => cash_Split.l1 k 1 (qs n ws.sum p ++ List.replicate l.length 0) (idx p.length ++ List.replicate l.length 0) (n - (qs n ws.sum p).sum) ws (ws.length : Int) (p.length : Int) n ws ws.sum) (((ordr n ws).take (left n ws).toNat).foldl bump (qs n ws.sum ws), 0)
  | [], p, h => by
    have h' : p = ws := by simpa using h
    subst h'
    have hl := left_range n hn p hw hS
    have hq : ∀ x ∈ qs n p.sum p, 0 ≤ x ∧ x ≤ 1099511627776 := by
      intro x hx
      obtain ⟨w, hw2, rfl⟩ := List.mem_map.1 hx
      have := q_range hn hS (hw w hw2).1 (by
        have : ∀ (l : List Int), GoodW l → w ∈ l → w ≤ l.sum := by
          intro l
          induction l with
          | nil => intro _ h; simp at h
          | cons a l ih =>
            intro hg hm
            have h1 := hg a (by simp)
            have h2 := sum_range l (fun x hx => hg x (by simp [hx]))
            rcases List.mem_cons.1 hm with rfl | hm
            · simp only [List.sum_cons]; omega
            · have := ih (fun x hx => hg x (by simp [hx])) hm
              simp only [List.sum_cons]; omega
        exact this p hw hw2)
      omega
    have h2 := split_l2 (ordr n p) ((ordr n p).take (left n p).toNat) (by simp; omega) 1099511627776 (by omega) p.length (by omega) ((ordr n p).take (left n p).toNat) [] (qs n p.sum p) rfl (fun z hz => ordr_mem n p hlen z (List.mem_of_mem_take hz)) (by simp [qs]) (fun x hx => by have := hq x hx; simp; omega)
    have hs : slices_SortStableFunc_int_int.f (idx p.length) n p p.sum = some (ordr n p) := by
      unfold slices_SortStableFunc_int_int.f
      rw [if_pos ⟨hlen, by rw [idx_len]; exact hlen2, by rw [idx_len]; exact hlen, by omega, List.all_eq_true.2 fun z hz => decide_eq_true (idx_mem _ z hz)⟩]
      rfl
    simp only [List.length_nil, List.replicate_zero, List.append_nil]
    refine Ev.step (fun k => ?_) h2
    simp only [cash_Split.l1]
    rw [if_neg (by omega), hs]
    simp only [Option.bind_some]
    rw [if_pos (show 0 ≤ n - (qs n p.sum p).sum from hl.1), idx_len, if_pos (show n - (qs n p.sum p).sum ≤ _ from hl.2)]
    rfl
  | x :: l, p, h => by
    have hl : ws.length = p.length + (l.length + 1) := by rw [← h]; simp
    have hx := hw x (by rw [← h]; simp)
    have hgp : GoodW p := fun z hz => hw z (by rw [← h]; simp [hz])
    have hps := sum_range p hgp
    have hrd : rd ws (p.length : Int) = x := by rw [← h]; exact rd_app p x l
    have hlS : (ws.length : Int) ≤ 1000 := by omega
    have hqp := qs_sum hn hS p hgp
    have ih := split_l1 n hn hn2 ws hw hlen hlen2 hS hso l (p ++ [x]) (by rw [← app1]; exact h)
    have hnx : 0 ≤ n * x := Int.mul_nonneg hn hx.1
    have hnx2 : n * x ≤ 1099511627776 * 1048576 := Int.mul_le_mul hn2 hx.2 hx.1 (by omega)
    have hq0 : 0 ≤ n * x / ws.sum := Int.ediv_nonneg hnx (by omega)
    have hq1 : n * x / ws.sum ≤ n * x := Int.ediv_le_self _ hnx
    have hlq : (qs n ws.sum p).length = p.length := by simp [qs]
    have hqs : 0 ≤ (qs n ws.sum p).sum ∧ (qs n ws.sum p).sum ≤ n := by
      have hpw : p.sum ≤ ws.sum := by
        rw [← h, List.sum_append]
        have := sum_range (x :: l) (fun z hz => hw z (by rw [← h]; exact List.mem_append_right _ hz))
        omega
      constructor
      · have : ∀ q : List Int, GoodW q → 0 ≤ (qs n ws.sum q).sum := by
          intro q
          induction q with
          | nil => intro _; simp [qs]
          | cons a q ih =>
            intro hg
            have h1 : 0 ≤ n * a / ws.sum := Int.ediv_nonneg (Int.mul_nonneg hn (hg a (by simp)).1) (by omega)
            have h2 := ih (fun z hz => hg z (by simp [hz]))
            have h3 : (qs n ws.sum (a :: q)).sum = n * a / ws.sum + (qs n ws.sum q).sum := by simp [qs]
            omega
        exact this p hgp
      · refine Int.not_lt.1 fun hlt => ?_
        have h1 : ws.sum * (n + 1) ≤ ws.sum * (qs n ws.sum p).sum := Int.mul_le_mul_of_nonneg_left (by omega) (by omega)
        have h2 : n * p.sum ≤ n * ws.sum := Int.mul_le_mul_of_nonneg_left hpw hn
        rw [Int.mul_add, Int.mul_one, Int.mul_comm] at h1
        omega
    refine Ev.step (fun k => ?_) ih
    simp only [cash_Split.l1]
    rw [if_pos (by omega), if_pos (by omega), if_pos (by omega), if_neg (by omega), hrd, w64 (x := n * x) (by omega) (by omega), tdivnn hnx, w64 (x := n * x / ws.sum) (by omega) (by omega)]
    rw [if_pos (by simp [hlq]; omega)]
    simp only [Option.bind_some]
    rw [if_pos (by simp [idx_len]; omega)]
    have e1 : (qs n ws.sum p ++ List.replicate (x :: l).length 0).set ((p.length : Int)).toNat (n * x / ws.sum) = qs n ws.sum (p ++ [x]) ++ List.replicate l.length 0 := by
      have := set_app (qs n ws.sum p) 0 (n * x / ws.sum) (List.replicate l.length 0)
      rw [hlq] at this
      rw [List.length_cons, zeros_succ, this]
      simp [qs]
    have e2 : (idx p.length ++ List.replicate (x :: l).length 0).set ((p.length : Int)).toNat (p.length : Int) = idx (p ++ [x]).length ++ List.replicate l.length 0 := by
      have := set_app (idx p.length) 0 (p.length : Int) (List.replicate l.length 0)
      rw [idx_len] at this
      rw [List.length_cons, zeros_succ, this]
      simp [idx]
    have e3 : rd (qs n ws.sum (p ++ [x]) ++ List.replicate l.length 0) (p.length : Int) = n * x / ws.sum := by
      have := rd_app (qs n ws.sum p) (n * x / ws.sum) (List.replicate l.length 0)
      rw [hlq] at this
      rw [← this]
      simp [qs]
    rw [e1, e2, e3]
    have e4 : (qs n ws.sum (p ++ [x])).sum = (qs n ws.sum p).sum + n * x / ws.sum := by simp [qs]
    rw [e4, w64 (x := n - (qs n ws.sum p).sum - n * x / ws.sum) (by omega) (by omega), w64 (x := (p.length : Int) + 1) (by omega) (by omega)]
    have e5 : n - ((qs n ws.sum p).sum + n * x / ws.sum) = n - (qs n ws.sum p).sum - n * x / ws.sum := by omega
    rw [e5]
    simp
theorem ordr_len (n : Int) (ws : List Int) : (ordr n ws).length = ws.length := by
  unfold ordr slices_SortStableFunc_int_int.srt
  rw [List.length_map, Array.length_toList, slices_SortStableFunc_int_int.stab_size]
  simp [idx_len]
/-- the parts of an amount that is not negative -/
def parts_ (n : Int) (ws : List Int) : List Int := ((ordr n ws).take (left n ws).toNat).foldl bump (qs n ws.sum ws)
theorem split_of (n : Int) (hn : 0 ≤ n) (hn2 : n ≤ 1099511627776) (ws : List Int) (hw : GoodW ws) (hlen : 1 ≤ ws.length) (hlen2 : ws.length ≤ 1000) (hS : 0 < ws.sum) : Ev (fun k => cash_Split.f k n ws) (parts_ n ws, 0) := by
  have h1 := split_l1 n hn hn2 ws hw hlen hlen2 hS (ordr_len n ws) ws [] rfl
  have h2 : Ev (fun k => cash_Split.j2 k 1 n ws ws.sum) (parts_ n ws, 0) := by
    refine Ev.step (fun k => ?_) h1
    simp only [cash_Split.j2]
    rw [if_pos (by omega), if_pos (by omega)]
    simp [qs, idx]
  have h3 := split_l0 n hn ws hw (by omega) (by omega) _ h2 ws [] rfl
  have hL : cash_large.f n = some false := by
    unfold cash_large.f
    rw [if_neg (by omega), decide_eq_false (by omega)]
  simp only [cash_Split.f, hL, Option.bind_some]
  refine Ev.ifn (by decide) (Ev.step (fun k => ?_) h3)
  simp only [cash_Split.j0]
  rw [decide_eq_false (by omega), if_neg (by decide)]
  rfl
theorem parts_sum (n : Int) (hn : 0 ≤ n) (ws : List Int) (hw : GoodW ws) (hlen : 1 ≤ ws.length) (hS : 0 < ws.sum) : (parts_ n ws).sum = n ∧ (parts_ n ws).length = ws.length := by
  have hl := left_range n hn ws hw hS
  have hb := bumps_sum ws.length ((ordr n ws).take (left n ws).toNat) (qs n ws.sum ws) (fun z hz => ordr_mem n ws hlen z (List.mem_of_mem_take hz)) (by simp [qs])
  have ht : (((ordr n ws).take (left n ws).toNat).length : Int) = left n ws := by rw [List.length_take, ordr_len]; omega
  unfold parts_
  refine ⟨?_, hb.2⟩
  rw [hb.1, ht]
  unfold left
  omega
/-! #### a part with no weight gets nothing -/
def remd (n : Int) (ws : List Int) (z : Int) : Int := n * rd ws z % ws.sum
theorem rd_mem' (ws : List Int) (z : Int) (h0 : 0 ≤ z) (h1 : z < ws.length) : rd ws z ∈ ws := rd_mem ws z h0 h1
theorem cf_of (n : Int) (hn : 0 ≤ n) (hn2 : n ≤ 1099511627776) (ws : List Int) (hw : GoodW ws) (hlen : 1 ≤ ws.length) (hlen2 : ws.length ≤ 1000) (hS : 0 < ws.sum) (x y : Int) : slices_SortStableFunc_int_int.cf n ws ws.sum x y = remd n ws (slices_SortStableFunc_int_int.nm ws.length y) - remd n ws (slices_SortStableFunc_int_int.nm ws.length x) := by
  have hS2 := (sum_range ws hw).2
  have one : ∀ v : Int, 0 ≤ v → v < ws.length → Int.tmod (wrap64 (n * rd ws v)) ws.sum = remd n ws v ∧ 0 ≤ remd n ws v ∧ remd n ws v < ws.sum := fun v v0 v1 => by
    have hr := hw _ (rd_mem ws v v0 v1)
    have h0 : 0 ≤ n * rd ws v := Int.mul_nonneg hn hr.1
    have h1 : n * rd ws v ≤ 1099511627776 * 1048576 := Int.mul_le_mul hn2 hr.2 hr.1 (by omega)
    rw [w64 (by omega) (by omega), tmodnn h0]
    exact ⟨rfl, Int.emod_nonneg _ (by omega), Int.emod_lt_of_pos _ hS⟩
  have hx := nm_mem ws.length hlen x
  have hy := nm_mem ws.length hlen y
  unfold slices_SortStableFunc_int_int.cf
  rw [(one _ hy.1 hy.2).1, (one _ hx.1 hx.2).1]
  have := (one _ hy.1 hy.2).2
  have := (one _ hx.1 hx.2).2
  rw [w64 (by omega) (by omega)]
theorem nm_id (m : Nat) (z : Int) (h0 : 0 ≤ z) (h1 : z < m) : slices_SortStableFunc_int_int.nm m z = z := by
  unfold slices_SortStableFunc_int_int.nm
  rw [if_pos ⟨h0, h1⟩]
/-- the order: every place once, by falling remainders -/
theorem ordr_sorted (n : Int) (hn : 0 ≤ n) (hn2 : n ≤ 1099511627776) (ws : List Int) (hw : GoodW ws) (hlen : 1 ≤ ws.length) (hlen2 : ws.length ≤ 1000) (hS : 0 < ws.sum) : (ordr n ws).Perm (idx ws.length) ∧ (ordr n ws).Pairwise (fun x y => remd n ws y ≤ remd n ws x) := by
  have hcf := cf_of n hn hn2 ws hw hlen hlen2 hS
  have swo : Sort.SWO (ltOf (slices_SortStableFunc_int_int.cf n ws ws.sum)) := ⟨fun x => by unfold ltOf; rw [hcf]; simp, fun x y z h1 h2 => by
      unfold ltOf at *; rw [hcf] at *
      have h1 := of_decide_eq_true h1
      have h2 := of_decide_eq_true h2
      exact decide_eq_true (by omega), fun x y z h1 h2 => by
      unfold ltOf at *; rw [hcf] at *
      have h1 := of_decide_eq_false h1
      have h2 := of_decide_eq_false h2
      exact decide_eq_false (by omega)⟩
  have hil : (idx ws.length).length = ws.length := idx_len _
  have hiz : (idx ws.length).toArray.size = ws.length := by simp [hil]
  obtain ⟨⟨hsz, _, hp⟩, hs⟩ := StabP.stab_ok swo (idx ws.length).toArray
  rw [hiz] at hp hs
  obtain ⟨d, hd⟩ : ∃ d, d = slices_SortStableFunc_int_int.stab (ltOf (slices_SortStableFunc_int_int.cf n ws ws.sum)) (idx ws.length).toArray := ⟨_, rfl⟩
  rw [← hd] at hsz hp hs
  have hds : d.size = ws.length := by rw [hsz]; simp [hil]
  have e1 : d.extract 0 ws.length = d := by rw [← hds]; simp
  have e2 : (idx ws.length).toArray.extract 0 ws.length = (idx ws.length).toArray := by
    have hA : (idx ws.length).toArray.size = ws.length := by simp [hil]
    generalize (idx ws.length).toArray = A at hA ⊢
    rw [← hA]; simp
  rw [e1, e2] at hp
  have hp' : d.toList.Perm (idx ws.length) := hp
  have hmem : ∀ z ∈ d.toList, 0 ≤ z ∧ z < ws.length := fun z hz => idx_mem ws.length z (hp'.mem_iff.1 hz)
  have ho : ordr n ws = d.toList := by
    unfold ordr slices_SortStableFunc_int_int.srt
    rw [← hd]
    rw [List.map_congr_left (g := id) (fun z hz => by rw [nm_id _ _ (hmem z hz).1 (hmem z hz).2]; rfl), List.map_id]
  rw [ho]
  refine ⟨hp', ?_⟩
  rw [List.pairwise_iff_getElem]
  intro i j hi hj hij
  have hi' : i < d.size := by simpa using hi
  have hj' : j < d.size := by simpa using hj
  have q := hs i j (Nat.zero_le _) hij (by omega)
  rw [getElem!_pos d j hj', getElem!_pos d i hi'] at q
  unfold ltOf at q
  rw [hcf] at q
  have q := of_decide_eq_false q
  have m1 := hmem d[i] (Array.getElem_mem_toList ..)
  have m2 := hmem d[j] (Array.getElem_mem_toList ..)
  rw [nm_id _ _ m1.1 m1.2, nm_id _ _ m2.1 m2.2] at q
  simp only [Array.getElem_toList]
  omega
theorem idx_map (ws : List Int) (f : Int → Int) : (idx ws.length).map (fun z => f (rd ws z)) = ws.map f := by
  have gen : ∀ (m : Nat), m ≤ ws.length → (idx m).map (fun z => f (rd ws z)) = (ws.take m).map f := by
    intro m
    induction m with
    | zero => intro _; simp [idx]
    | succ m ih =>
      intro hm
      rw [idx, List.map_append, ih (by omega), List.take_succ_eq_append_getElem (by omega), List.map_append]
      congr 1
      simp [rd, List.getD, show m < ws.length by omega]
  rw [gen ws.length (Nat.le_refl _), List.take_length]
theorem sum_mod (n S : Int) : ∀ ws : List Int, (ws.map fun w => n * w % S).sum = n * ws.sum - S * (ws.map fun w => n * w / S).sum
  | [] => by simp
  | w :: ws => by
    have h := sum_mod n S ws
    have e := Int.emod_add_mul_ediv (n * w) S
    simp only [List.map_cons, List.sum_cons]
    rw [h, Int.mul_add, Int.mul_add]
    omega
theorem sum_perm {a b : List Int} (h : a.Perm b) : a.sum = b.sum := by
  induction h with
  | nil => rfl
  | cons x _ ih => simp [ih]
  | swap x y l => simp only [List.sum_cons]; omega
  | trans _ _ h1 h2 => exact h1.trans h2
theorem sum_le (B : Int) (f : Int → Int) : ∀ l : List Int, (∀ z ∈ l, f z ≤ B) → (l.map f).sum ≤ l.length * B
  | [], _ => by simp
  | z :: l, h => by
    have ih := sum_le B f l fun x hx => h x (by simp [hx])
    have := h z (by simp)
    simp only [List.map_cons, List.sum_cons, List.length_cons]
    have e : ((l.length + 1 : Nat) : Int) * B = l.length * B + B := by rw [Int.natCast_add, Int.add_mul]; simp
    rw [e]; omega
theorem take_pos (n : Int) (hn : 0 ≤ n) (hn2 : n ≤ 1099511627776) (ws : List Int) (hw : GoodW ws) (hlen : 1 ≤ ws.length) (hlen2 : ws.length ≤ 1000) (hS : 0 < ws.sum) : ∀ z ∈ (ordr n ws).take (left n ws).toNat, 0 < remd n ws z := by
  obtain ⟨hp, hs⟩ := ordr_sorted n hn hn2 ws hw hlen hlen2 hS
  have hl := left_range n hn ws hw hS
  intro z hz
  apply Classical.byContradiction
  intro hz0
  have hrn : ∀ v, 0 ≤ remd n ws v ∧ remd n ws v ≤ ws.sum - 1 := fun v => by
    unfold remd
    have := Int.emod_nonneg (n * rd ws v) (show ws.sum ≠ 0 by omega)
    have := Int.emod_lt_of_pos (n * rd ws v) hS
    omega
  obtain ⟨p, hp1, hp2⟩ := List.getElem_of_mem hz
  have hpl : p < (left n ws).toNat ∧ p < (ordr n ws).length := by
    rw [List.length_take] at hp1; omega
  have hpz : (ordr n ws)[p]'hpl.2 = z := by rw [← hp2, List.getElem_take]
  have hsplit : ordr n ws = (ordr n ws).take p ++ (ordr n ws).drop p := (List.take_append_drop p _).symm
  have hdrop : ∀ y ∈ (ordr n ws).drop p, remd n ws y ≤ 0 := by
    intro y hy
    obtain ⟨q, hq1, hq2⟩ := List.getElem_of_mem hy
    rw [List.getElem_drop] at hq2
    by_cases hq : q = 0
    · subst hq
      simp only [Nat.add_zero] at hq2
      rw [← hq2, hpz]; omega
    · rw [List.pairwise_iff_getElem] at hs
      have hlt : p + q < (ordr n ws).length := by rw [List.length_drop] at hq1; omega
      have := hs p (p + q) hpl.2 hlt (by omega)
      rw [hq2, hpz] at this
      omega
  have htot : ((ordr n ws).map (remd n ws)).sum = ws.sum * left n ws := by
    rw [sum_perm (hp.map (remd n ws))]
    have e1 := idx_map ws (fun w => n * w % ws.sum)
    rw [show (idx ws.length).map (remd n ws) = ws.map (fun w => n * w % ws.sum) from e1, sum_mod]
    unfold left qs
    rw [Int.mul_sub, Int.mul_comm ws.sum n]
  rw [hsplit, List.map_append, List.sum_append] at htot
  have s1 := sum_le (ws.sum - 1) (remd n ws) ((ordr n ws).take p) fun v _ => (hrn v).2
  have s2 := sum_le 0 (remd n ws) ((ordr n ws).drop p) hdrop
  rw [List.length_take, Nat.min_eq_left (by omega)] at s1
  rw [Int.mul_zero] at s2
  have h1 : (p : Int) * (ws.sum - 1) ≤ (left n ws - 1) * (ws.sum - 1) := Int.mul_le_mul_of_nonneg_right (by omega) (by omega)
  have h2 : (left n ws - 1) * (ws.sum - 1) = ws.sum * left n ws - left n ws - ws.sum + 1 := by
    rw [Int.sub_mul, Int.mul_sub, Int.mul_sub, Int.mul_comm (left n ws) ws.sum]; omega
  omega
theorem foldl_rd (z : Int) (h0 : 0 ≤ z) : ∀ (l c : List Int), (∀ y ∈ l, 0 ≤ y ∧ y ≠ z) → rd (l.foldl bump c) z = rd c z
  | [], c, _ => rfl
  | y :: l, c, h => by
    have hy := h y (by simp)
    rw [List.foldl_cons, foldl_rd z h0 l _ (fun x hx => h x (by simp [hx]))]
    unfold bump rd
    simp only [List.getD_eq_getElem?_getD, List.getElem?_set]
    rw [if_neg (by omega)]
theorem parts_zero (n : Int) (hn : 0 ≤ n) (hn2 : n ≤ 1099511627776) (ws : List Int) (hw : GoodW ws) (hlen : 1 ≤ ws.length) (hlen2 : ws.length ≤ 1000) (hS : 0 < ws.sum) (z : Int) (z0 : 0 ≤ z) (z1 : z < ws.length) (h : rd ws z = 0) : rd (parts_ n ws) z = 0 := by
  have ht := take_pos n hn hn2 ws hw hlen hlen2 hS
  have hr : remd n ws z = 0 := by unfold remd; rw [h]; simp
  unfold parts_
  rw [foldl_rd z z0 _ _ fun y hy => ⟨(ordr_mem n ws hlen y (List.mem_of_mem_take hy)).1, fun e => by
    have := ht y hy
    rw [e, hr] at this
    omega⟩]
  unfold qs rd
  have hz : z.toNat < ws.length := by omega
  have h' : ws[z.toNat] = 0 := by unfold rd at h; simpa [List.getD, hz] using h
  simp [List.getD, hz, h']
theorem bumps_mem (L : Nat) : ∀ (l c : List Int) (B : Int), (∀ z ∈ l, 0 ≤ z ∧ z < L) → c.length = L → (∀ x ∈ c, 0 ≤ x ∧ x ≤ B) → ∀ x ∈ l.foldl bump c, 0 ≤ x ∧ x ≤ B + l.length
  | [], c, B, _, _, h => by simpa using h
  | z :: l, c, B, hz, hc, h => by
    have h1 := hz z (by simp)
    have := bumps_mem L l (bump c z) (B + 1) (fun y hy => hz y (by simp [hy])) (by unfold bump; simp [hc]) (bump_mem h1.1 (by omega) h)
    intro x hx
    have := this x hx
    simp only [List.length_cons]
    omega
theorem parts_bound (n : Int) (hn : 0 ≤ n) (hn2 : n ≤ 1099511627776) (ws : List Int) (hw : GoodW ws) (hlen : 1 ≤ ws.length) (hlen2 : ws.length ≤ 1000) (hS : 0 < ws.sum) : ∀ v ∈ parts_ n ws, 0 ≤ v ∧ v ≤ 4000000000000 := by
  have hl := left_range n hn ws hw hS
  intro v hv
  unfold parts_ at hv
  have h := bumps_mem ws.length ((ordr n ws).take (left n ws).toNat) (qs n ws.sum ws) 1099511627776 (fun z hz => ordr_mem n ws hlen z (List.mem_of_mem_take hz)) (by simp [qs]) (fun x hx => by
    obtain ⟨w, hw2, rfl⟩ := List.mem_map.1 hx
    have hwr := hw w hw2
    have hle : w ≤ ws.sum := mem_le_sum ws hw w hw2
    have := q_range hn hS hwr.1 hle
    omega) v hv
  rw [List.length_take] at h
  omega
  where
  mem_le_sum : ∀ ws : List Int, GoodW ws → ∀ w ∈ ws, w ≤ ws.sum
  | [], _, w, h => by simp at h
  | x :: l, hw, w, h => by
    have h1 := hw x (by simp)
    have h2 := (sum_range l fun y hy => hw y (by simp [hy])).1
    rw [List.sum_cons]
    rcases List.mem_cons.1 h with rfl | h
    · omega
    · have := mem_le_sum l (fun y hy => hw y (by simp [hy])) w h; omega
theorem down_of (n m : Int) (h0 : -1099511627776 ≤ n) (h1 : n ≤ 1099511627776) (m0 : 1 ≤ m) (m1 : m ≤ 1099511627776) : cash_down.f n m = some (n / m) := by
  have e := Int.mul_ediv_add_emod n m
  have r0 := Int.emod_nonneg n (show m ≠ 0 by omega)
  have r1 := Int.emod_lt_of_pos n (show 0 < m by omega)
  have q0 : -1099511627776 ≤ n / m ∧ n / m ≤ 1099511627776 := by
    constructor
    · refine Int.not_lt.1 fun hl => ?_
      have : m * (n / m) ≤ m * (-1099511627777) := Int.mul_le_mul_of_nonneg_left (by omega) (by omega)
      have : m * (-1099511627777) ≤ 1 * (-1099511627777) := Int.mul_le_mul_of_nonpos_right m0 (by omega)
      omega
    · refine Int.not_lt.1 fun hl => ?_
      have : m * 1099511627777 ≤ m * (n / m) := Int.mul_le_mul_of_nonneg_left (by omega) (by omega)
      have : 1 * 1099511627777 ≤ m * 1099511627777 := Int.mul_le_mul_of_nonneg_right m0 (by omega)
      omega
  unfold cash_down.f
  rw [if_neg (by omega), Int.tdiv_eq_ediv]
  by_cases hc : 0 ≤ n ∨ m ∣ n
  · rw [if_pos hc, Int.add_zero, w64 (x := n / m) (by omega) (by omega), Int.mul_comm, w64 (x := m * (n / m)) (by omega) (by omega), if_neg (by omega)]
  · have hs : m.sign = 1 := Int.sign_eq_one_of_pos (by omega)
    have hr : n % m ≠ 0 := fun e => hc (.inr (Int.dvd_of_emod_eq_zero e))
    rw [if_neg hc, hs, w64 (x := n / m + 1) (by omega) (by omega), Int.add_mul, Int.mul_comm, Int.one_mul, w64 (x := m * (n / m) + m) (by omega) (by omega), if_pos (by omega), w64 (by omega) (by omega)]
    congr 1
    omega
theorem round_of (n way m : Int) (h0 : -1099511627776 ≤ n) (h1 : n ≤ 1099511627776) (m0 : 1 ≤ m) (m1 : m ≤ 1099511627776) (y0 : 0 ≤ way) (y1 : way < 5) :
    ∃ u : Int, (u = 0 ∨ u = 1) ∧ Ev (fun k => cash_Round.f k n way m) ((n / m + u) * m, 0) ∧ (u = 1 → 0 < n % m) ∧ (way = 0 → u = 0) ∧ (way = 1 → u = 0 → n % m = 0) ∧ (way ≥ 2 → (u = 1 → 2 * (n % m) ≥ m) ∧ (u = 0 → 2 * (n % m) ≤ m)) := by
  have e := Int.mul_ediv_add_emod n m
  have r0 := Int.emod_nonneg n (show m ≠ 0 by omega)
  have r1 := Int.emod_lt_of_pos n (show 0 < m by omega)
  have q0 : -1099511627777 ≤ n / m ∧ n / m ≤ 1099511627777 := by
    have hd := down_of n m h0 h1 m0 m1
    constructor
    · refine Int.not_lt.1 fun hl => ?_
      have : m * (n / m) ≤ m * (-1099511627777) := Int.mul_le_mul_of_nonneg_left (by omega) (by omega)
      have : m * (-1099511627777) ≤ 1 * (-1099511627777) := Int.mul_le_mul_of_nonpos_right m0 (by omega)
      omega
    · refine Int.not_lt.1 fun hl => ?_
      have : m * 1099511627777 ≤ m * (n / m) := Int.mul_le_mul_of_nonneg_left (by omega) (by omega)
      have : 1 * 1099511627777 ≤ m * 1099511627777 := Int.mul_le_mul_of_nonneg_right m0 (by omega)
      omega
  have hL : cash_large.f n = some false := by
    unfold cash_large.f
    rw [if_neg (by omega), decide_eq_false (by omega)]
  have w0 : wrap64 (n / m * m) = n / m * m := by rw [Int.mul_comm]; exact w64 (by omega) (by omega)
  have w1 : wrap64 (wrap64 (n / m + 1) * m) = (n / m + 1) * m := by
    rw [w64 (x := n / m + 1) (by omega) (by omega), Int.add_mul, Int.mul_comm, Int.one_mul]
    exact w64 (by omega) (by omega)
  have w2 : wrap64 (n - n / m * m) = n % m := by rw [Int.mul_comm, w64 (by omega) (by omega)]; omega
  have w3 : wrap64 (2 * (n % m)) = 2 * (n % m) := w64 (by omega) (by omega)
  have main : ∀ (u : Int) (b : Int × Int), b = ((n / m + u) * m, 0) → (∀ k, cash_Round.j0 (k + 1) n way m (decide (m > 1099511627776)) = some b) → Ev (fun k => cash_Round.f k n way m) ((n / m + u) * m, 0) := by
    intro u b hb hj
    subst hb
    simp only [cash_Round.f]
    exact Ev.ifn (by omega) (Ev.ifn (by omega) (Ev.ifn (by omega) (Ev.step hj (Ev.now _))))
  have hz : ((n / m + 0) * m, (0 : Int)) = (n / m * m, 0) := by rw [Int.add_zero]
  have start : ∀ k, cash_Round.j0 (k + 1) n way m (decide (m > 1099511627776)) = (if way = 1 then (if n % m > 0 then some ((n / m + 1) * m, 0) else some (n / m * m, 0)) else (if way = 2 then (if 2 * (n % m) ≥ m then some ((n / m + 1) * m, 0) else some (n / m * m, 0)) else (if way = 3 then (if 2 * (n % m) > m then some ((n / m + 1) * m, 0) else (if 2 * (n % m) = m then (if n > 0 then some ((n / m + 1) * m, 0) else some (n / m * m, 0)) else some (n / m * m, 0))) else (if way = 4 then (if 2 * (n % m) > m then some ((n / m + 1) * m, 0) else (if 2 * (n % m) = m then (if Int.tmod (n / m) 2 = 0 then some (n / m * m, 0) else some ((n / m + 1) * m, 0)) else some (n / m * m, 0))) else some (n / m * m, 0))))) := by
    intro k
    simp only [cash_Round.j0]
    rw [decide_eq_false (by omega), if_neg (by decide), hL]
    simp only [Option.bind_some]
    rw [if_neg (by decide), down_of n m h0 h1 m0 m1]
    simp only [Option.bind_some]
    rw [w0, w1, w2, w3]
  have up : (∀ k, cash_Round.j0 (k + 1) n way m (decide (m > 1099511627776)) = some ((n / m + 1) * m, 0)) → Ev (fun k => cash_Round.f k n way m) ((n / m + 1) * m, 0) := fun h => main 1 _ rfl h
  have dn : (∀ k, cash_Round.j0 (k + 1) n way m (decide (m > 1099511627776)) = some (n / m * m, 0)) → Ev (fun k => cash_Round.f k n way m) ((n / m + 0) * m, 0) := fun h => main 0 _ hz.symm h
  by_cases c1 : way = 1
  · by_cases c : n % m > 0
    · exact ⟨1, .inr rfl, up (fun k => by rw [start, if_pos c1, if_pos c]), fun _ => c, fun h => by omega, fun _ h => by omega, fun h => by omega⟩
    · exact ⟨0, .inl rfl, dn (fun k => by rw [start, if_pos c1, if_neg c]), fun h => by omega, fun h => rfl, fun _ h => by omega, fun h => by omega⟩
  · by_cases c2 : way = 2
    · by_cases c : 2 * (n % m) ≥ m
      · exact ⟨1, .inr rfl, up (fun k => by rw [start, if_neg c1, if_pos c2, if_pos c]), fun _ => by omega, fun h => by omega, fun h => absurd h c1, fun _ => ⟨fun _ => c, fun h => by omega⟩⟩
      · exact ⟨0, .inl rfl, dn (fun k => by rw [start, if_neg c1, if_pos c2, if_neg c]), fun h => by omega, fun h => rfl, fun h => absurd h c1, fun _ => ⟨fun h => by omega, fun h => by omega⟩⟩
    · by_cases c3 : way = 3
      · by_cases c : 2 * (n % m) > m
        · exact ⟨1, .inr rfl, up (fun k => by rw [start, if_neg c1, if_neg c2, if_pos c3, if_pos c]), fun _ => by omega, fun h => by omega, fun h => absurd h c1, fun _ => ⟨fun _ => by omega, fun h => by omega⟩⟩
        · by_cases d : 2 * (n % m) = m
          · by_cases g : n > 0
            · exact ⟨1, .inr rfl, up (fun k => by rw [start, if_neg c1, if_neg c2, if_pos c3, if_neg c, if_pos d, if_pos g]), fun _ => by omega, fun h => by omega, fun h => absurd h c1, fun _ => ⟨fun _ => by omega, fun h => by omega⟩⟩
            · exact ⟨0, .inl rfl, dn (fun k => by rw [start, if_neg c1, if_neg c2, if_pos c3, if_neg c, if_pos d, if_neg g]), fun h => by omega, fun h => rfl, fun h => absurd h c1, fun _ => ⟨fun h => by omega, fun h => by omega⟩⟩
          · exact ⟨0, .inl rfl, dn (fun k => by rw [start, if_neg c1, if_neg c2, if_pos c3, if_neg c, if_neg d]), fun h => by omega, fun h => rfl, fun h => absurd h c1, fun _ => ⟨fun h => by omega, fun h => by omega⟩⟩
      · by_cases c4 : way = 4
        · by_cases c : 2 * (n % m) > m
          · exact ⟨1, .inr rfl, up (fun k => by rw [start, if_neg c1, if_neg c2, if_neg c3, if_pos c4, if_pos c]), fun _ => by omega, fun h => by omega, fun h => absurd h c1, fun _ => ⟨fun _ => by omega, fun h => by omega⟩⟩
          · by_cases d : 2 * (n % m) = m
            · by_cases g : Int.tmod (n / m) 2 = 0
              · exact ⟨0, .inl rfl, dn (fun k => by rw [start, if_neg c1, if_neg c2, if_neg c3, if_pos c4, if_neg c, if_pos d, if_pos g]), fun h => by omega, fun h => rfl, fun h => absurd h c1, fun _ => ⟨fun h => by omega, fun h => by omega⟩⟩
              · exact ⟨1, .inr rfl, up (fun k => by rw [start, if_neg c1, if_neg c2, if_neg c3, if_pos c4, if_neg c, if_pos d, if_neg g]), fun _ => by omega, fun h => by omega, fun h => absurd h c1, fun _ => ⟨fun _ => by omega, fun h => by omega⟩⟩
            · exact ⟨0, .inl rfl, dn (fun k => by rw [start, if_neg c1, if_neg c2, if_neg c3, if_pos c4, if_neg c, if_neg d]), fun h => by omega, fun h => rfl, fun h => absurd h c1, fun _ => ⟨fun h => by omega, fun h => by omega⟩⟩
        · exact ⟨0, .inl rfl, dn (fun k => by rw [start, if_neg c1, if_neg c2, if_neg c3, if_neg c4]), fun h => by omega, fun h => rfl, fun h => absurd h c1, fun h => by omega⟩
theorem cents_of : Ev (fun k => mootkeep1_cents.f k) true := by
  have hp : parts_ 3 [1, 1] = [2, 1] := by
    have ho : ordr 3 [1, 1] = [0, 1] := by
      unfold ordr slices_SortStableFunc_int_int.srt slices_SortStableFunc_int_int.stab
      rw [show (idx ([1, 1] : List Int).length).toArray = #[0, 1] from rfl, show (#[0, 1] : Array Int).size = 2 from rfl, slices_SortStableFunc_int_int.stIns, if_neg (by decide), slices_SortStableFunc_int_int.stOut, if_neg (by decide)]
      unfold Sort.insertionSort
      rw [Sort.insOuter, if_pos (by decide), Sort.insOuter, if_neg (by decide)]
      decide +kernel
    unfold parts_
    rw [ho]
    decide
  have hs := split_of 3 (by omega) (by omega) [1, 1] (fun w hw => by simp at hw; omega) (by simp) (by simp) (by decide)
  rw [hp] at hs
  obtain ⟨u, hu, hr, h1, h2, h3, h4⟩ := round_of 7 2 5 (by omega) (by omega) (by omega) (by omega) (by omega) (by omega)
  have hu0 : u = 0 := by
    rcases hu with h | h
    · exact h
    · have := (h4 (by omega)).1 h; omega
  subst hu0
  simp only [mootkeep1_cents.f]
  refine Ev.bind hs (Ev.bind hr (Ev.ifp rfl ?_))
  have he : Ev (fun k => slices_Equal_int_int.f k [2, 1] [2, 1]) true := by
    simp only [slices_Equal_int_int.f]
    refine Ev.ifp (by simp) ?_
    refine Ev.step (f := fun k => slices_Equal_int_int.l0 k [2, 1] [2, 1] 2 1) (fun k => ?_) (Ev.step (f := fun k => slices_Equal_int_int.l0 k [2, 1] [2, 1] 2 2) (fun k => ?_) (Ev.step (f := fun _ => some true) (fun k => ?_) (Ev.now _)))
    · simp [slices_Equal_int_int.l0, wrap64]
    · simp [slices_Equal_int_int.l0, wrap64]
    · simp [slices_Equal_int_int.l0]
  exact Ev.bind he (Ev.ifp rfl (Ev.ifp rfl (Ev.to (by decide))))
/-- who gets one more -/
def took (n : Int) (ws : List Int) (z : Int) : Int := if z ∈ (ordr n ws).take (left n ws).toNat then 1 else 0
theorem idx_nodup : ∀ n, (idx n).Nodup
  | 0 => by simp [idx]
  | n + 1 => by
    rw [idx, List.nodup_append]
    refine ⟨idx_nodup n, by simp, ?_⟩
    intro a ha b hb
    have := idx_mem n a ha
    simp at hb
    omega
theorem foldl_rd1 (z : Int) (h0 : 0 ≤ z) : ∀ (l c : List Int), l.Nodup → (∀ y ∈ l, 0 ≤ y) → z < c.length → rd (l.foldl bump c) z = rd c z + (if z ∈ l then 1 else 0)
  | [], c, _, _, _ => by simp
  | y :: l, c, hn, h, hz => by
    have hy := h y (by simp)
    have hnd := List.nodup_cons.1 hn
    rw [List.foldl_cons, foldl_rd1 z h0 l _ hnd.2 (fun x hx => h x (by simp [hx])) (by unfold bump; simpa using hz)]
    by_cases e : z = y
    · subst e
      rw [if_neg hnd.1, if_pos (by simp)]
      unfold bump rd
      have hlt : z.toNat < c.length := by omega
      simp only [List.getD_eq_getElem?_getD, List.getElem?_set_self hlt]
      simp
    · have : rd (bump c y) z = rd c z := by
        unfold bump rd
        simp only [List.getD_eq_getElem?_getD, List.getElem?_set]
        rw [if_neg (by omega)]
      rw [this]
      simp [e]
theorem qs_rd (n S : Int) (ws : List Int) (z : Int) (z0 : 0 ≤ z) (z1 : z < ws.length) : rd (qs n S ws) z = n * rd ws z / S := by
  have hz : z.toNat < ws.length := by omega
  unfold qs rd
  simp [List.getD, hz]
theorem parts_rd (n : Int) (hn : 0 ≤ n) (hn2 : n ≤ 1099511627776) (ws : List Int) (hw : GoodW ws) (hlen : 1 ≤ ws.length) (hlen2 : ws.length ≤ 1000) (hS : 0 < ws.sum) (z : Int) (z0 : 0 ≤ z) (z1 : z < ws.length) : rd (parts_ n ws) z = n * rd ws z / ws.sum + took n ws z := by
  have hp := (ordr_sorted n hn hn2 ws hw hlen hlen2 hS).1
  unfold parts_ took
  rw [foldl_rd1 z z0 _ _ (((hp.nodup_iff).2 (idx_nodup _)).sublist (List.take_sublist _ _)) (fun y hy => (ordr_mem n ws hlen y (List.mem_of_mem_take hy)).1) (by simpa [qs] using z1), qs_rd n ws.sum ws z z0 z1]
/-- a place that is in the first part of a list that falls, and one that is in the list and not there -/
theorem took_le (n : Int) (hn : 0 ≤ n) (hn2 : n ≤ 1099511627776) (ws : List Int) (hw : GoodW ws) (hlen : 1 ≤ ws.length) (hlen2 : ws.length ≤ 1000) (hS : 0 < ws.sum) (x y : Int) (hx : x ∈ (ordr n ws).take (left n ws).toNat) (y0 : 0 ≤ y) (y1 : y < ws.length) (hy : ¬ y ∈ (ordr n ws).take (left n ws).toNat) : remd n ws y ≤ remd n ws x := by
  obtain ⟨hp, hs⟩ := ordr_sorted n hn hn2 ws hw hlen hlen2 hS
  have hyi : y ∈ idx ws.length := by
    have gen : ∀ m : Nat, y < m → y ∈ idx m := by
      intro m
      induction m with
      | zero => intro h; omega
      | succ m ih =>
        intro h
        rw [idx, List.mem_append, List.mem_singleton]
        by_cases c : y = (m : Int)
        · exact .inr c
        · exact .inl (ih (by omega))
    exact gen _ y1
  have hyo := hp.mem_iff.2 hyi
  have hd : y ∈ (ordr n ws).drop (left n ws).toNat := by
    rw [← List.take_append_drop (left n ws).toNat (ordr n ws), List.mem_append] at hyo
    rcases hyo with h | h
    · exact absurd h hy
    · exact h
  rw [← List.take_append_drop (left n ws).toNat (ordr n ws), List.pairwise_append] at hs
  exact hs.2.2 x hx y hd
theorem took_two (n : Int) (ws : List Int) (z : Int) : (took n ws z = 1 ∧ z ∈ (ordr n ws).take (left n ws).toNat) ∨ (took n ws z = 0 ∧ ¬ z ∈ (ordr n ws).take (left n ws).toNat) := by
  unfold took
  by_cases h : z ∈ (ordr n ws).take (left n ws).toNat
  · rw [if_pos h]; exact .inl ⟨rfl, h⟩
  · rw [if_neg h]; exact .inr ⟨rfl, h⟩
theorem quota (n : Int) (hn : 0 ≤ n) (hn2 : n ≤ 1099511627776) (ws : List Int) (hw : GoodW ws) (hlen : 1 ≤ ws.length) (hlen2 : ws.length ≤ 1000) (hS : 0 < ws.sum) (z : Int) (z0 : 0 ≤ z) (z1 : z < ws.length) : rd (parts_ n ws) z * ws.sum - n * rd ws z < ws.sum ∧ n * rd ws z - rd (parts_ n ws) z * ws.sum < ws.sum := by
  rw [parts_rd n hn hn2 ws hw hlen hlen2 hS z z0 z1]
  have e := Int.mul_ediv_add_emod (n * rd ws z) ws.sum
  have r0 := Int.emod_nonneg (n * rd ws z) (show ws.sum ≠ 0 by omega)
  have r1 := Int.emod_lt_of_pos (n * rd ws z) hS
  have e2 : (n * rd ws z / ws.sum + took n ws z) * ws.sum = ws.sum * (n * rd ws z / ws.sum) + took n ws z * ws.sum := by rw [Int.add_mul, Int.mul_comm]
  rw [e2]
  rcases took_two n ws z with ⟨h, hm⟩ | ⟨h, hm⟩
  · have := take_pos n hn hn2 ws hw hlen hlen2 hS z hm
    unfold remd at this
    rw [h]
    omega
  · rw [h]
    omega
theorem rises (n : Int) (hn : 0 ≤ n) (hn2 : n ≤ 1099511627776) (ws : List Int) (hw : GoodW ws) (hlen : 1 ≤ ws.length) (hlen2 : ws.length ≤ 1000) (hS : 0 < ws.sum) (x y : Int) (x0 : 0 ≤ x) (x1 : x < ws.length) (y0 : 0 ≤ y) (y1 : y < ws.length) (h : rd ws x < rd ws y) : rd (parts_ n ws) x ≤ rd (parts_ n ws) y := by
  rw [parts_rd n hn hn2 ws hw hlen hlen2 hS x x0 x1, parts_rd n hn hn2 ws hw hlen hlen2 hS y y0 y1]
  have hm : n * rd ws x ≤ n * rd ws y := Int.mul_le_mul_of_nonneg_left (by omega) hn
  have hq : n * rd ws x / ws.sum ≤ n * rd ws y / ws.sum := Int.ediv_le_ediv hS hm
  have ex := Int.mul_ediv_add_emod (n * rd ws x) ws.sum
  have ey := Int.mul_ediv_add_emod (n * rd ws y) ws.sum
  rcases took_two n ws x with ⟨hx, mx⟩ | ⟨hx, mx⟩ <;> rcases took_two n ws y with ⟨hy, my⟩ | ⟨hy, my⟩
  · omega
  · by_cases c : n * rd ws x / ws.sum = n * rd ws y / ws.sum
    · exfalso
      have hp := take_pos n hn hn2 ws hw hlen hlen2 hS x mx
      have hl := took_le n hn hn2 ws hw hlen hlen2 hS x y mx y0 y1 my
      unfold remd at hp hl
      rw [c] at ex
      by_cases n0 : n = 0
      · subst n0
        rw [Int.zero_mul, Int.zero_emod] at hp
        omega
      · have h2 : n * (rd ws x + 1) ≤ n * rd ws y := Int.mul_le_mul_of_nonneg_left (by omega) hn
        rw [Int.mul_add, Int.mul_one] at h2
        omega
    · omega
  · omega
  · omega
theorem take_sum (xs : List Int) (i : Nat) (h : i < xs.length) : (xs.take (i + 1)).sum = (xs.take i).sum + rd xs (i : Int) := by
  rw [List.take_succ_eq_append_getElem h, List.sum_append]
  simp [rd, List.getD, h]
theorem take_range (B : Int) : ∀ (xs : List Int) (i : Nat), (∀ x ∈ xs, 0 ≤ x ∧ x ≤ B) → 0 ≤ (xs.take i).sum ∧ (xs.take i).sum ≤ B * xs.length
  | [], i, _ => by simp
  | x :: xs, 0, h => by
    have h0 := h x (by simp)
    have : 0 ≤ B * (x :: xs).length := Int.mul_nonneg (by omega) (by omega)
    simp only [List.take_zero, List.sum_nil]
    omega
  | x :: xs, i + 1, h => by
    have h0 := h x (by simp)
    have := take_range B xs i (fun y hy => h y (by simp [hy]))
    have e : B * ((x :: xs).length : Int) = B * xs.length + B := by rw [List.length_cons, Int.natCast_add, Int.mul_add]; simp
    rw [e, List.take_succ_cons, List.sum_cons]
    omega
theorem CashSums : mootkeep1_CashSums.Pure := by
  intro a0 l1 _ _ _ _
  have hr := below_range a0 1073741824 (by omega)
  obtain ⟨n, hn⟩ : ∃ n, n = a0 % 1073741824 := ⟨_, rfl⟩
  rw [← hn] at hr
  obtain ⟨m, hm⟩ : ∃ m : Int, m = mn (l1.length : Int) 40 := ⟨_, rfl⟩
  have hmr : 0 ≤ m ∧ m ≤ l1.length ∧ m ≤ 40 := by
    rw [hm]; unfold mn
    split <;> omega
  obtain ⟨t, ht⟩ : ∃ t, t = l1.take m.toNat := ⟨_, rfl⟩
  have htl : t.length ≤ 40 := by rw [ht, List.length_take]; omega
  obtain ⟨ws, hws⟩ : ∃ ws, ws = 1 :: t.map (· % 1000) := ⟨_, rfl⟩
  have hwl : 1 ≤ ws.length ∧ ws.length ≤ 41 := by rw [hws]; simp; omega
  have hw1 : ∀ w ∈ ws, 0 ≤ w ∧ w ≤ 1000 := by
    intro w h
    rw [hws] at h
    rcases List.mem_cons.1 h with rfl | h
    · omega
    · obtain ⟨x, _, rfl⟩ := List.mem_map.1 h
      have := below_range x 1000 (by omega)
      omega
  have hw : GoodW ws := fun w h => by have := hw1 w h; omega
  have hS : 0 < ws.sum := by
    rw [hws, List.sum_cons]
    have := (sum_range (t.map (· % 1000)) fun w h => by
      obtain ⟨x, _, rfl⟩ := List.mem_map.1 h
      have := below_range x 1000 (by omega)
      omega).1
    omega
  have hS2 : ws.sum ≤ 41000 := by
    have := (take_range 1000 ws ws.length hw1).2
    rw [List.take_length] at this
    have : (1000 : Int) * ws.length ≤ 41000 := by omega
    omega
  have hps := parts_sum n hr.1 ws hw hwl.1 hS
  have hpb := parts_bound n hr.1 (by omega) ws hw hwl.1 (by omega) hS
  have hq := fun z z0 z1 => quota n hr.1 (by omega) ws hw hwl.1 (by omega) hS z z0 z1
  have hri := fun x y x0 x1 y0 y1 h => rises n hr.1 (by omega) ws hw hwl.1 (by omega) hS x y x0 x1 y0 y1 h
  have hsp := split_of n hr.1 (by omega) ws hw hwl.1 (by omega) hS
  obtain ⟨ps, hpe⟩ : ∃ ps, ps = parts_ n ws := ⟨_, rfl⟩
  rw [← hpe] at hps hpb hsp
  simp only [← hpe] at hq hri
  -- each two of them
  have l3 : ∀ (i : Int), 0 ≤ i → i < ws.length → Ev (fun k => mootkeep1_CashSums.l2 k n ws ps ws.sum n (ws.length : Int) (i + 1)) true → ∀ (q : Nat) (j : Int), 0 ≤ j → j + q = i → Ev (fun k => mootkeep1_CashSums.l3 k n ws ps ws.sum n i (ws.length : Int) i i j) true := by
    intro i i0 i1 hnext q
    induction q with
    | zero =>
      intro j j0 j1
      refine Ev.step (fun k => ?_) hnext
      simp only [mootkeep1_CashSums.l3]
      rw [if_neg (by omega), w64 (x := i + 1) (by omega) (by omega)]
    | succ q ih =>
      intro j j0 j1
      refine Ev.step (fun k => ?_) (ih (j + 1) (by omega) (by omega))
      simp only [mootkeep1_CashSums.l3]
      rw [if_pos (by omega), if_pos j0, if_pos (by omega), if_pos i0, if_pos i1, w64 (x := j + 1) (by omega) (by omega)]
      by_cases c : rd ws j > rd ws i
      · have := hri i j i0 i1 j0 (by omega) c
        rw [if_pos c, if_pos (by omega), if_pos (by omega), if_neg (by omega)]
      · rw [if_neg c]
  have l2 : ∀ (q : Nat) (i : Int), 0 ≤ i → i + q = ws.length → Ev (fun k => mootkeep1_CashSums.l2 k n ws ps ws.sum n (ws.length : Int) i) true := by
    intro q
    induction q with
    | zero =>
      intro i i0 i1
      refine Ev.step (f := fun _ => some true) (fun k => ?_) (Ev.now _)
      simp only [mootkeep1_CashSums.l2]
      rw [if_neg (by omega)]
      simp
    | succ q ih =>
      intro i i0 i1
      have h3 := l3 i i0 (by omega) (ih (i + 1) (by omega) (by omega)) i.toNat 0 (by omega) (by omega)
      have hP := hpb _ (rd_mem ps i i0 (by omega))
      have hW := hw1 _ (rd_mem ws i i0 (by omega))
      have hQ := hq i i0 (by omega)
      have p0 : 0 ≤ n * rd ws i := Int.mul_nonneg hr.1 hW.1
      have p1 : n * rd ws i ≤ 1073741824 * 1000 := Int.mul_le_mul (by omega) hW.2 hW.1 (by omega)
      have p2 : 0 ≤ rd ps i * ws.sum := Int.mul_nonneg hP.1 (by omega)
      have p3 : rd ps i * ws.sum ≤ 4000000000000 * 41000 := Int.mul_le_mul hP.2 hS2 (by omega) (by omega)
      refine Ev.step (f := fun k => mootkeep1_CashSums.j4 k n ws ps ws.sum n i (ws.length : Int) i false) (fun k => ?_) (Ev.step (fun k => ?_) h3)
      · simp only [mootkeep1_CashSums.l2]
        rw [if_pos (by omega), if_pos i0, if_pos (by omega), if_pos (by omega), w64 (x := rd ps i * ws.sum) (by omega) (by omega), w64 (x := n * rd ws i) (by omega) (by omega), w64 (x := rd ps i * ws.sum - n * rd ws i) (by omega) (by omega), w64 (x := n * rd ws i - rd ps i * ws.sum) (by omega) (by omega), if_neg (by omega), decide_eq_false (by omega)]
      · simp only [mootkeep1_CashSums.j4]
        rw [if_neg (by decide)]
  have l1' : ∀ (q i : Nat), i + q = ws.length → Ev (fun k => mootkeep1_CashSums.l1 k n ws ps (ws.take i).sum (ps.take i).sum (ws.length : Int) (i : Int)) true := by
    intro q
    induction q with
    | zero =>
      intro i i1
      refine Ev.step (fun k => ?_) (l2 ws.length 0 (by omega) (by omega))
      simp only [mootkeep1_CashSums.l1]
      rw [if_neg (by omega), List.take_of_length_le (by omega), List.take_of_length_le (by omega), hps.1]
    | succ q ih =>
      intro i i1
      have h := ih (i + 1) (by omega)
      have b1 := take_range 1000 ws i hw1
      have b2 := take_range 4000000000000 ps i hpb
      have c1 := hw1 _ (rd_mem ws i (by omega) (by omega))
      have c2 := hpb _ (rd_mem ps i (by omega) (by omega))
      rw [take_sum ws i (by omega), take_sum ps i (by omega)] at h
      refine Ev.step (fun k => ?_) h
      simp only [mootkeep1_CashSums.l1]
      rw [if_pos (by omega), if_pos (by omega), if_pos (by omega), if_pos (by omega), w64 (x := (ws.take i).sum + rd ws i) (by omega) (by omega), w64 (x := (ps.take i).sum + rd ps i) (by omega) (by omega), w64 (x := (i : Int) + 1) (by omega) (by omega)]
      simp
  have j1 : Ev (fun k => mootkeep1_CashSums.j1 k n ws ps ((ps.length : Int) != (ws.length : Int))) true := by
    refine Ev.step (fun k => ?_) (l1' ws.length 0 (by omega))
    simp only [mootkeep1_CashSums.j1]
    rw [hps.2, if_neg (by simp)]
    simp
  have l0 : ∀ (l p : List Int), p ++ l = t → Ev (fun k => mootkeep1_CashSums.l0 k n (1 :: p.map (· % 1000)) t (t.length : Int) (p.length : Int)) true := by
    intro l
    induction l with
    | nil =>
      intro p h
      have h' : p = t := by simpa using h
      subst h'
      rw [← hws]
      refine Ev.step (f := fun k => (cash_Split.f k n ws).bind fun bt153 => ((mootkeep1_cents.f k).bind fun t157 => (if t157 = true then (if bt153.2 = 0 then (mootkeep1_CashSums.j1 k n ws bt153.1 ((bt153.1.length : Int) != (ws.length : Int))) else (mootkeep1_CashSums.j1 k n ws bt153.1 true)) else (mootkeep1_CashSums.j1 k n ws bt153.1 true)))) (fun k => ?_) (Ev.bind hsp (Ev.bind cents_of (Ev.ifp rfl (Ev.ifp rfl j1))))
      simp only [mootkeep1_CashSums.l0]
      rw [if_neg (by omega)]
    | cons x l ih =>
      intro p h
      have hl : t.length = p.length + (l.length + 1) := by rw [← h]; simp
      have hrd : rd t (p.length : Int) = x := by rw [← h]; exact rd_app p x l
      have := ih (p ++ [x]) (by rw [← app1]; exact h)
      refine Ev.step (fun k => ?_) this
      simp only [mootkeep1_CashSums.l0]
      rw [if_pos (by omega), if_pos (by omega), if_pos (by omega), hrd, below_of x 1000 (by omega) (by omega)]
      simp only [Option.bind_some]
      rw [if_pos (by simp; omega), w64 (x := (p.length : Int) + 1) (by omega) (by omega)]
      simp
  refine Ev.rounds (g := fun k => mootkeep1_CashSums.f k a0 l1) ?_
  simp only [mootkeep1_CashSums.f]
  rw [below_of _ _ (by omega) (by omega), ← hn]
  simp only [Option.bind_some]
  rw [← hm, ← ht]
  exact Ev.ifp hmr.1 (Ev.ifp hmr.2.1 (l0 t [] rfl))
end Go.Proofs.Ytkcmjdbeiclbkaa.Pure
