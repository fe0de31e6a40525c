/-
The slices of an amount are together what of it is above the first step, and their value is from 0 to that, for every list and all numbers.
-/
import Derived.Test.YtdajcnhhfgnbmabPTableSlicesx6
set_option linter.unusedVariables false
set_option linter.unusedSimpArgs false
namespace Go.Proofs.Ytdajcnhhfgnbmab.Pure
open Go.RowKit Go.Proofs.Ytdajcnhhfgnbmab.PTableSlices Go.Proofs.YtdajcnhhfgnbmabW.PrintWords Go.Proofs.YtdajcnhhfgnbmabW.PrintLast
/-- numbers that need no wrap -/
theorem w64 {x : Int} (h1 : -9223372036854775808 ≤ x) (h2 : x ≤ 9223372036854775807) : wrap64 x = x := by unfold wrap64; omega
theorem tdivnn {a b : Int} (h : 0 ≤ a) : Int.tdiv a b = a / b := Int.tdiv_eq_ediv_of_nonneg h
theorem tmodnn {a b : Int} (h : 0 ≤ a) : Int.tmod a b = a % b := Int.tmod_eq_emod_of_nonneg h
theorem Ev.ifp {α : Type} {c : Prop} [Decidable c] {a b : Nat → Option α} {r : α} (h : c) (k : Ev a r) : Ev (fun n => if c then a n else b n) r := Ev.congr (fun n => by rw [if_pos h]) k
theorem Ev.ifn {α : Type} {c : Prop} [Decidable c] {a b : Nat → Option α} {r : α} (h : ¬ c) (k : Ev b r) : Ev (fun n => if c then a n else b n) r := Ev.congr (fun n => by rw [if_neg h]) k
theorem Ev.to {α : Type} {a b : α} (h : a = b) : Ev (fun _ => some a) b := h ▸ Ev.now a
theorem below_of (x n : Int) (h0 : 0 < n) (h1 : n ≤ 4611686018427387904) : mootmake_Below.f x n = some (x % n) := by
  have hr := Int.emod_nonneg x (show n ≠ 0 by omega)
  have hl := Int.emod_lt_of_pos x h0
  unfold mootmake_Below.f
  rw [if_neg (by omega), Int.tmod_eq_emod]
  by_cases h : 0 ≤ x ∨ n ∣ x
  · rw [if_pos h, show x % n - ((0 : Nat) : Int) = x % n from by omega, if_neg (by omega)]
  · have h3 : x % n ≠ 0 := fun e => h (.inr (Int.dvd_of_emod_eq_zero e))
    rw [if_neg h, if_pos (by omega), w64 (by omega) (by omega)]
    congr 1; omega
theorem below_range (x n : Int) (h0 : 0 < n) : 0 ≤ x % n ∧ x % n < n := ⟨Int.emod_nonneg x (by omega), Int.emod_lt_of_pos x h0⟩
theorem drop_rd (l : List Int) (i : Nat) (h : i < l.length) : l.drop i = rd l (i : Int) :: l.drop (i + 1) := by
  rw [List.drop_eq_getElem_cons h]
  unfold rd
  simp [List.getD, h]
theorem w64_succ {i n : Nat} (h : i < n) (hn : n ≤ 9223372036854775807) : wrap64 ((i : Int) + 1) = ((i + 1 : Nat) : Int) := by
  rw [w64 (by omega) (by omega)]; omega
theorem next_of (l : List Int) (n : Int) (h0 : 0 < n) (h1 : n ≤ 4611686018427387904) : ∃ v l', mootmake_Stream_Next.f l n = some (v, l') ∧ 0 ≤ v ∧ v < n := by
  unfold mootmake_Stream_Next.f
  rw [if_neg (by omega)]
  by_cases h : l = []
  · rw [if_pos h]; exact ⟨0, l, rfl, by omega, h0⟩
  · rw [if_neg h, below_of _ _ h0 h1]
    have := below_range (rd l 0) n h0
    exact ⟨_, _, rfl, this.1, this.2⟩
theorem tmn_min (a b : Int) : mn a b = min a b := by unfold mn; split <;> omega
theorem tmx_max (a b : Int) : mx a b = max a b := by unfold mx; split <;> omega
/-- what the maker of tables makes -/
structure TabOK (l : List S44) : Prop where
  pos : 0 < l.length
  len : l.length ≤ 20
  mem : ∀ s ∈ l, 0 ≤ s.f0 ∧ s.f0 ≤ 400000 ∧ 0 ≤ s.f1 ∧ s.f1 ≤ 1000000
  inc : l.Pairwise fun a b => a.f0 < b.f0
theorem rd_step (l : List S44) (i : Nat) (h : i < l.length) : rd_T44 l (i : Int) = l[i] := by
  unfold rd_T44
  simp [List.getD, h]
theorem TabOK.at {l : List S44} (h : TabOK l) (i : Nat) (hi : i < l.length) : 0 ≤ (rd_T44 l (i : Int)).f0 ∧ (rd_T44 l (i : Int)).f0 ≤ 400000 ∧ 0 ≤ (rd_T44 l (i : Int)).f1 ∧ (rd_T44 l (i : Int)).f1 ≤ 1000000 := by
  rw [rd_step l i hi]; exact h.mem _ (List.getElem_mem hi)
theorem TabOK.lt {l : List S44} (h : TabOK l) (i : Nat) (h0 : 0 < i) (hi : i < l.length) : (rd_T44 l ((i - 1 : Nat) : Int)).f0 < (rd_T44 l (i : Int)).f0 := by
  rw [rd_step l i hi, rd_step l (i - 1) (by omega)]
  exact List.pairwise_iff_getElem.1 h.inc (i - 1) i (by omega) hi (by omega)
theorem drop_step (l : List S44) (i : Nat) (h : i < l.length) : l.drop i = rd_T44 l (i : Int) :: l.drop (i + 1) := by
  rw [List.drop_eq_getElem_cons h, rd_step l i h]
theorem tcheck_l0 (l : List S44) (h : TabOK l) (lo up le mo : Int) (nm : ByteArray) (a b : Int) (sl : Bool) (h1 : lo ≤ 0) (h2 : 400000 ≤ up) (h3 : le ≤ 0) (h4 : 1000000 ≤ mo) (n : Nat) :
    ∀ i : Nat, i ≤ l.length → l.length - i = n → Ev (fun k => table_Check.l0 k lo up le mo l (l.length : Int) (i : Int) nm a b sl l) 0 := by
  induction n with
  | zero =>
    intro i hi hn
    obtain rfl : i = l.length := by omega
    refine Ev.step (f := fun _ => some 0) (fun k => ?_) (Ev.now _)
    simp only [table_Check.l0]
    rw [if_neg (by omega)]
  | succ n ih =>
    intro i hi hn
    have hlt : i < l.length := by omega
    have hl := h.len
    obtain ⟨o1, o2, o3, o4⟩ := h.at i hlt
    have ih' := ih (i + 1) (by omega) (by omega)
    refine Ev.step (f := fun k => table_Check.j2 k lo up le mo (i : Int) l (l.length : Int) (i : Int) false nm a b sl l (rd_T44 l (i : Int)).f0 (rd_T44 l (i : Int)).f1) (fun k => ?_) ?_
    · simp only [table_Check.l0]
      rw [if_pos (by omega), if_pos (by omega), if_pos (by omega), if_neg (by omega), if_neg (by omega), if_neg (by omega), decide_eq_false (by omega)]
    refine Ev.step (fun k => ?_) ih'
    simp only [table_Check.j2]
    rw [if_neg (by decide), w64_succ hlt (by omega)]
    by_cases hi0 : 0 < i
    · have hf := h.lt i hi0 hlt
      rw [if_pos (by omega), w64 (x := (i : Int) - 1) (by omega) (by omega), if_pos (by omega), if_pos (by omega), show (i : Int) - 1 = ((i - 1 : Nat) : Int) from by omega, if_neg (by omega)]
    · rw [if_neg (by omega)]
theorem trange2 : unit_Range.f 2 = some (-1099511627776, 1099511627776) := rfl
theorem trange5 : unit_Range.f 5 = some (-1048576, 1048576) := rfl
theorem trange6 : unit_Range.f 6 = some (-1000000000, 1000000000) := rfl
theorem tcheck_of {l : List S44} (h : TabOK l) (nm : ByteArray) (hn : nameOk nm = true) (b : Int) (sl : Bool) (hb : b = 2 ∨ b = 5 ∨ b = 6) (hs : sl = true → b = 2) : Ev (fun k => table_Check.f k nm 2 b sl l) 0 := by
  have hl := h.len; have hp := h.pos
  have hk : table_kinds.f nm 2 b sl l = some true := by
    unfold table_kinds.f
    rcases hb with rfl | rfl | rfl <;> cases sl <;> simp_all
  simp only [table_Check.f, fact_Name.f, Option.bind_some, hk, trange2]
  refine Ev.ifp hn (Ev.ifp trivial (Ev.ifn (by omega) (Ev.ifn (by omega) ?_)))
  cases sl
  · rcases hb with rfl | rfl | rfl
    · simp only [trange2, Option.bind_some]
      refine Ev.ifn (by decide) (Ev.step (fun k => ?_) (tcheck_l0 l h (-1099511627776) 1099511627776 (-1099511627776) 1099511627776 nm 2 2 false (by omega) (by omega) (by omega) (by omega) _ 0 (by omega) rfl))
      simp only [table_Check.j0]; rfl
    · simp only [trange5, Option.bind_some]
      refine Ev.ifn (by decide) (Ev.step (fun k => ?_) (tcheck_l0 l h (-1099511627776) 1099511627776 (-1048576) 1048576 nm 2 5 false (by omega) (by omega) (by omega) (by omega) _ 0 (by omega) rfl))
      simp only [table_Check.j0]; rfl
    · simp only [trange6, Option.bind_some]
      refine Ev.ifn (by decide) (Ev.step (fun k => ?_) (tcheck_l0 l h (-1099511627776) 1099511627776 (-1000000000) 1000000000 nm 2 6 false (by omega) (by omega) (by omega) (by omega) _ 0 (by omega) rfl))
      simp only [table_Check.j0]; rfl
  · obtain rfl := hs rfl
    simp only [trange2, Option.bind_some]
    refine Ev.ifp trivial (Ev.step (fun k => ?_) (tcheck_l0 l h (-1099511627776) 1099511627776 0 1000000 nm 2 2 true (by omega) (by omega) (by omega) (by omega) _ 0 (by omega) rfl))
    simp only [table_Check.j0]; rfl
theorem tfit2 (n : Int) (h1 : -1099511627776 ≤ n) (h2 : n ≤ 1099511627776) : unit_Fit.f 2 n = some (2, n) := by
  unfold unit_Fit.f unit_known.f
  rw [if_pos (by decide)]
  simp only [Option.bind_some]
  rw [if_pos (by decide), trange2]
  simp only [Option.bind_some]
  rw [tmx_max, tmn_min]
  congr 2; omega
theorem tfit_of (nm : ByteArray) (b : Int) (sl : Bool) (l : List S44) (n : Int) (h1 : -1099511627776 ≤ n) (h2 : n ≤ 1099511627776) : table_fit.f nm 2 b sl l n = some n := by
  unfold table_fit.f
  rw [tfit2 n h1 h2]; rfl
/-- the slices of an amount -/
def slv : List S44 → Int → List Int
  | [], _ => []
  | s :: [], n => [max 0 (n - s.f0)]
  | s :: t :: l, n => max 0 (min n t.f0 - s.f0) :: slv (t :: l) n
theorem slv_length (l : List S44) (n : Int) : (slv l n).length = l.length := by
  induction l with
  | nil => rfl
  | cons s l ih =>
    cases l with
    | nil => rfl
    | cons t l => rw [slv, List.length_cons, ih]; rfl
theorem set_pre (pre : List Int) (m : Nat) (v : Int) : (pre ++ List.replicate (m + 1) 0).set pre.length v = (pre ++ [v]) ++ List.replicate m 0 := by
  rw [List.set_append_right _ _ (Nat.le_refl _), Nat.sub_self, List.replicate_succ, List.set_cons_zero, List.append_assoc]; rfl
theorem slices_l0 (l : List S44) (h : TabOK l) (nm : ByteArray) (a b : Int) (sl : Bool) (x : Int) (hx1 : -1099511627776 ≤ x) (hx2 : x ≤ 1099511627776) (n : Nat) :
    ∀ (i : Nat) (pre : List Int), pre.length = i → i ≤ l.length → l.length - i = n →
    Ev (fun k => table_slices.l0 k x (pre ++ List.replicate n 0) l (l.length : Int) (i : Int) nm a b sl l) (pre ++ slv (l.drop i) x) := by
  induction n with
  | zero =>
    intro i pre hp hi hn
    obtain rfl : i = l.length := by omega
    rw [List.drop_length, slv, List.replicate_zero]
    refine Ev.step (f := fun _ => some (pre ++ [])) (fun k => ?_) (Ev.now _)
    simp only [table_slices.l0]
    rw [if_neg (by omega)]
  | succ n ih =>
    intro i pre hp hi hn
    have hlt : i < l.length := by omega
    have hl := h.len
    obtain ⟨o1, o2, _, _⟩ := h.at i hlt
    have hlen : (pre ++ List.replicate (n + 1) (0 : Int)).length = l.length := by rw [List.length_append, List.length_replicate]; omega
    by_cases h1 : i + 1 < l.length
    · obtain ⟨q1, q2, _, _⟩ := h.at (i + 1) h1
      have ih' := ih (i + 1) (pre ++ [max 0 (min x (rd_T44 l ((i + 1 : Nat) : Int)).f0 - (rd_T44 l (i : Int)).f0)]) (by simp [hp]) (by omega) (by omega)
      rw [drop_step l i hlt, drop_step l (i + 1) h1, slv, ← drop_step l (i + 1) h1]
      rw [List.append_assoc, List.append_assoc, List.singleton_append, List.singleton_append] at ih'
      refine Ev.step (fun k => ?_) ih'
      simp only [table_slices.l0]
      rw [if_pos (by omega), if_pos (by omega), if_pos (by omega), w64_succ hlt (by omega), if_pos (by omega), if_pos (by omega), if_pos (by rw [hlen]; omega), tmx_max, tmn_min, w64 (by omega) (by omega), Int.toNat_natCast, ← hp, set_pre, List.append_assoc, List.singleton_append]
    · have ih' := ih (i + 1) (pre ++ [max 0 (x - (rd_T44 l (i : Int)).f0)]) (by simp [hp]) (by omega) (by omega)
      obtain rfl : n = 0 := by omega
      rw [drop_step l i hlt]
      rw [show l.drop (i + 1) = [] from List.drop_eq_nil_of_le (by omega), slv, List.append_nil] at ih'
      rw [show l.drop (i + 1) = [] from List.drop_eq_nil_of_le (by omega), slv]
      refine Ev.step (fun k => ?_) ih'
      simp only [table_slices.l0]
      rw [if_pos (by omega), if_pos (by omega), if_pos (by omega), w64_succ hlt (by omega), if_neg (by omega), if_pos (by rw [hlen]; omega), tmx_max, w64 (by omega) (by omega), Int.toNat_natCast, ← hp, set_pre]
theorem slices_of {l : List S44} (h : TabOK l) (nm : ByteArray) (a b : Int) (sl : Bool) (x : Int) (hx1 : -1099511627776 ≤ x) (hx2 : x ≤ 1099511627776) : Ev (fun k => table_slices.f k nm a b sl l x) (slv l x) := by
  have hl := h.len
  simp only [table_slices.f]
  refine Ev.ifp (by omega) (Ev.ifp (by omega) ?_)
  have := slices_l0 l h nm a b sl x hx1 hx2 _ 0 [] rfl (by omega) rfl
  simpa only [List.nil_append, List.drop_zero, Nat.sub_zero, Int.toNat_natCast, Int.ofNat_zero, Int.natCast_zero] using this
/-- the slices are what of an amount is above the first step -/
theorem slv_sum (l : List S44) (s : S44) (h : (s :: l).Pairwise fun a b => a.f0 < b.f0) (n : Int) : (slv (s :: l) n).sum = max 0 (n - s.f0) := by
  induction l generalizing s with
  | nil => simp [slv]
  | cons t l ih =>
    have h' := List.pairwise_cons.1 h
    have hst := h'.1 t (by simp)
    rw [slv, List.sum_cons, ih t h'.2]
    omega
theorem slv_pos (l : List S44) (n : Int) : ∀ x ∈ slv l n, 0 ≤ x := by
  induction l with
  | nil => intro x hx; simp [slv] at hx
  | cons s l ih =>
    cases l with
    | nil => intro x hx; simp [slv] at hx; omega
    | cons t l =>
      intro x hx
      rw [slv] at hx
      rcases List.mem_cons.1 hx with rfl | hx
      · omega
      · exact ih x hx
/-- what the slices are worth -/
def dot : List Int → List S44 → Int
  | x :: xs, s :: ss => x * s.f1 + dot xs ss
  | _, _ => 0
theorem dot_range (xs : List Int) (l : List S44) (hx : ∀ x ∈ xs, 0 ≤ x) (hl : ∀ s ∈ l, 0 ≤ s.f1 ∧ s.f1 ≤ 1000000) : 0 ≤ dot xs l ∧ dot xs l ≤ 1000000 * xs.sum := by
  induction xs generalizing l with
  | nil => simp [dot]
  | cons x xs ih =>
    have hx0 := hx x (by simp)
    have hsum : 0 ≤ xs.sum := by
      clear ih
      induction xs with
      | nil => simp
      | cons y ys ih' =>
        rw [List.sum_cons]
        have := hx y (by simp)
        have := ih' (fun z hz => hx z (by
          rcases List.mem_cons.1 hz with rfl | hz
          · simp
          · simp [hz]))
        omega
    cases l with
    | nil => rw [show dot (x :: xs) [] = 0 from rfl, List.sum_cons]; omega
    | cons s l =>
      have hs := hl s (by simp)
      have := ih l (fun z hz => hx z (by simp [hz])) (fun z hz => hl z (by simp [hz]))
      have m1 := Int.mul_nonneg hx0 hs.1
      have m2 := Int.mul_le_mul_of_nonneg_left hs.2 hx0
      rw [dot, List.sum_cons]
      omega
theorem dot_mono (l : List S44) (hl : ∀ s ∈ l, 0 ≤ s.f1) (a b : Int) (hab : a ≤ b) : dot (slv l a) l ≤ dot (slv l b) l := by
  induction l with
  | nil => simp [dot]
  | cons s l ih =>
    have hs := hl s (by simp)
    cases l with
    | nil =>
      simp only [slv, dot]
      have := Int.mul_le_mul_of_nonneg_right (show max 0 (a - s.f0) ≤ max 0 (b - s.f0) by omega) hs
      omega
    | cons t l =>
      have := ih (fun z hz => hl z (by simp [hz]))
      have := Int.mul_le_mul_of_nonneg_right (show max 0 (min a t.f0 - s.f0) ≤ max 0 (min b t.f0 - s.f0) by omega) hs
      rw [slv, slv, dot, dot]
      omega
theorem u64w {x : Int} (h0 : 0 ≤ x) (h1 : x < 18446744073709551616) : IntKind.u64.wrap x = x := by change x % 18446744073709551616 = x; omega
theorem uand (x : Int) (h0 : 0 ≤ x) (h1 : x < 18446744073709551616) : Go.bits .and .u64 x 4294967295 = x % 4294967296 :=
  Go.bits_mask .u64 64 (by decide) (fun n h0 h1 => u64w h0 (by simpa using h1)) 32 (by decide) x h0 (by simpa using h1)
theorem mul64_of (a b : Int) (ha0 : 0 ≤ a) (ha : a ≤ 2199023255552) (hb0 : 0 ≤ b) (hb : b ≤ 1000000) : bits_Mul64.f a b = some (0, a * b) := by
  obtain ⟨ah, hah⟩ : ∃ x, x = a / 4294967296 := ⟨_, rfl⟩
  obtain ⟨al, hal⟩ : ∃ x, x = a % 4294967296 := ⟨_, rfl⟩
  obtain ⟨p, hp⟩ : ∃ x, x = ah * b := ⟨_, rfl⟩
  obtain ⟨q, hq⟩ : ∃ x, x = al * b := ⟨_, rfl⟩
  have e1 : a * b = p * 4294967296 + q := by
    rw [hp, hq, show a = ah * 4294967296 + al by omega, Int.add_mul, Int.mul_right_comm]
  have p0 : 0 ≤ p := by rw [hp]; exact Int.mul_nonneg (by omega) hb0
  have q0 : 0 ≤ q := by rw [hq]; exact Int.mul_nonneg (by omega) hb0
  have p1 : p ≤ 512 * 1000000 := by rw [hp]; exact Int.mul_le_mul (by omega) hb hb0 (by omega)
  have q1 : q ≤ 4294967295 * 1000000 := by rw [hq]; exact Int.mul_le_mul (by omega) hb hb0 (by omega)
  unfold bits_Mul64.f
  rw [uand a ha0 (by omega), uand b hb0 (by omega), ← hah, ← hal, show b / 4294967296 = 0 by omega, show b % 4294967296 = b by omega, ← hp, ← hq, Int.mul_zero, Int.mul_zero,
    u64w (x := 0) (by omega) (by omega), u64w p0 (by omega), u64w q0 (by omega), u64w (x := p + q / 4294967296) (by omega) (by omega), uand _ (by omega) (by omega), u64w (x := 0 + _) (by omega) (by omega), u64w (x := (p + q / 4294967296) % 4294967296 + 0) (by omega) (by omega), u64w (by omega) (by omega), u64w (x := a * b) (by omega) (by omega)]
  congr 2; omega
theorem add64_of (a b : Int) (ha : 0 ≤ a) (hb : 0 ≤ b) (h : a + b < 18446744073709551616) : bits_Add64.f a b 0 = some (a + b, 0) := by
  unfold bits_Add64.f
  rw [if_pos ⟨ha, hb, rfl⟩]
  congr 2 <;> omega
theorem div64_of (a : Int) (ha : 0 ≤ a) (h : a < 18446744073709551616) : bits_Div64.f 0 a 1000000 = some (a / 1000000, a % 1000000) := by
  unfold bits_Div64.f
  rw [if_pos ⟨rfl, ha, h, by omega, by omega⟩]
theorem drop_rdi (l : List Int) (i : Nat) (h : i < l.length) : l.drop i = rd l (i : Int) :: l.drop (i + 1) := by
  rw [List.drop_eq_getElem_cons h]
  unfold rd
  simp [List.getD, h]
theorem rdi_mem (l : List Int) (i : Nat) (h : i < l.length) : rd l (i : Int) ∈ l := by
  have := List.getElem_mem h
  unfold rd
  simp [List.getD, h]
theorem tsum_l1 (l : List S44) (h : TabOK l) (nm : ByteArray) (sl : Bool) (xs : List Int) (hx : ∀ x ∈ xs, 0 ≤ x ∧ x ≤ 2199023255552) (hlen : xs.length = l.length) (n : Nat) :
    ∀ (i : Nat) (acc : Int), i ≤ l.length → l.length - i = n → 0 ≤ acc → acc + dot (xs.drop i) (l.drop i) ≤ 1099511627776999999 →
    Ev (fun k => table_At.l1 k 0 acc xs (xs.length : Int) (i : Int) nm 2 2 sl l) ((acc + dot (xs.drop i) (l.drop i)) / 1000000) := by
  induction n with
  | zero =>
    intro i acc hi hn h0 h1
    obtain rfl : i = l.length := by omega
    rw [List.drop_length] at h1 ⊢
    rw [show dot (xs.drop l.length) [] = 0 from by cases xs.drop l.length <;> rfl] at h1 ⊢
    refine Ev.step (f := fun _ => some ((acc + 0) / 1000000)) (fun k => ?_) (Ev.now _)
    simp only [table_At.l1]
    rw [if_neg (by omega), div64_of acc h0 (by omega)]
    simp only [Option.bind_some]
    rw [w64 (by omega) (by omega), tfit2 _ (by omega) (by omega)]
    simp only [Option.bind_some]
    rw [Int.add_zero]
  | succ n ih =>
    intro i acc hi hn h0 h1
    have hlt : i < l.length := by omega
    have hlt' : i < xs.length := by omega
    have hl := h.len
    obtain ⟨_, _, o3, o4⟩ := h.at i hlt
    have hxi := hx _ (rdi_mem xs i hlt')
    have hr := (dot_range (xs.drop (i + 1)) (l.drop (i + 1)) (fun x hm => (hx x (List.mem_of_mem_drop hm)).1) (fun s hm => (h.mem s (List.mem_of_mem_drop hm)).2.2)).1
    rw [drop_step l i hlt, drop_rdi xs i hlt', dot] at h1 ⊢
    have hm := Int.mul_nonneg hxi.1 o3
    have ih' := ih (i + 1) (acc + rd xs (i : Int) * (rd_T44 l (i : Int)).f1) (by omega) (by omega) (by omega) (by omega)
    rw [← Int.add_assoc]
    refine Ev.step (fun k => ?_) ih'
    simp only [table_At.l1]
    rw [if_pos (by omega), if_pos (by omega), if_pos (by omega), if_pos (by omega), u64w (x := rd xs (i : Int)) (by omega) (by omega), u64w (x := (rd_T44 l (i : Int)).f1) (by omega) (by omega), mul64_of _ _ hxi.1 hxi.2 o3 o4]
    simp only [Option.bind_some]
    rw [add64_of _ _ h0 hm (by omega)]
    simp only [Option.bind_some]
    rw [w64_succ hlt (by omega)]
    rfl
/-- the value of a table without slices -/
def atn : List S44 → Int → Int → Int
  | [], _, v => v
  | s :: l, x, v => atn l x (if s.f0 ≤ x then s.f1 else v)
theorem tat_l0 (l : List S44) (hl : l.length ≤ 20) (x : Int) (n : Nat) : ∀ (i : Nat) (v : Int), i ≤ l.length → l.length - i = n → Ev (fun k => table_At.l0 k x v l (l.length : Int) (i : Int)) (atn (l.drop i) x v) := by
  induction n with
  | zero =>
    intro i v hi hn
    obtain rfl : i = l.length := by omega
    rw [List.drop_length, atn]
    refine Ev.step (f := fun _ => some v) (fun k => ?_) (Ev.now _)
    simp only [table_At.l0]
    rw [if_neg (by omega)]
  | succ n ih =>
    intro i v hi hn
    have hlt : i < l.length := by omega
    rw [drop_step l i hlt, atn]
    refine Ev.step (fun k => ?_) (ih (i + 1) _ (by omega) (by omega))
    simp only [table_At.l0]
    rw [if_pos (by omega), if_pos (by omega), if_pos (by omega), w64_succ hlt (by omega)]
    split <;> rfl
/-- the value of a table -/
def tv (sl : Bool) (l : List S44) (x : Int) : Int := if sl = true then (500000 + dot (slv l x) l) / 1000000 else atn l x 0
theorem slv_all {l : List S44} (h : TabOK l) (x : Int) (hx2 : x ≤ 1099511627776) : (slv l x).sum = max 0 (x - (rd_T44 l 0).f0) ∧ (∀ y ∈ slv l x, 0 ≤ y ∧ y ≤ 2199023255552) ∧ 0 ≤ dot (slv l x) l ∧ dot (slv l x) l ≤ 1000000 * max 0 (x - (rd_T44 l 0).f0) := by
  cases l with
  | nil => have := h.pos; simp at this
  | cons s l =>
    have e0 : rd_T44 (s :: l) 0 = s := rfl
    have hs := slv_sum l s h.inc x
    have hm := h.mem s (by simp)
    have hp := slv_pos (s :: l) x
    have hd := dot_range (slv (s :: l) x) (s :: l) hp (fun t ht => (h.mem t ht).2.2)
    rw [e0]
    refine ⟨hs, fun y hy => ⟨hp y hy, ?_⟩, hd.1, by rw [← hs]; exact hd.2⟩
    have : ∀ (xs : List Int), (∀ z ∈ xs, 0 ≤ z) → ∀ y ∈ xs, y ≤ xs.sum := by
      intro xs
      induction xs with
      | nil => intro _ y hy; simp at hy
      | cons z zs ih =>
        intro hz y hy
        have hz0 := hz z (by simp)
        have hzs : 0 ≤ zs.sum := by
          have hz' : ∀ w ∈ zs, 0 ≤ w := fun w hw => hz w (by simp [hw])
          clear ih hz hz0 hy
          induction zs with
          | nil => simp
          | cons w ws ih' =>
            rw [List.sum_cons]
            have := hz' w (by simp)
            have := ih' (fun v hv => hz' v (by simp [hv]))
            omega
        rw [List.sum_cons]
        rcases List.mem_cons.1 hy with rfl | hy
        · omega
        · have := ih (fun w hw => hz w (by simp [hw])) y hy
          omega
    have := this _ hp y hy
    omega
theorem tat_of {l : List S44} (h : TabOK l) (nm : ByteArray) (hn : nameOk nm = true) (b : Int) (sl : Bool) (hb : b = 2 ∨ b = 5 ∨ b = 6) (hs : sl = true → b = 2) (x : Int) (hx1 : -1099511627776 ≤ x) (hx2 : x ≤ 1099511627776) : Ev (fun k => table_At.f k nm 2 b sl l x) (tv sl l x) := by
  have hl := h.len
  simp only [table_At.f]
  refine Ev.bind (tcheck_of h nm hn b sl hb hs) (Ev.ifp rfl ?_)
  rw [tfit_of nm b sl l x hx1 hx2]
  simp only [Option.bind_some]
  cases sl
  · refine Ev.ifn (by decide) ?_
    exact tat_l0 l hl x _ 0 0 (by omega) rfl
  · obtain rfl := hs rfl
    refine Ev.ifp rfl (Ev.bind (slices_of h nm 2 2 true x hx1 hx2) ?_)
    have ha := slv_all h x hx2
    have hm := (h.at 0 h.pos).1
    have := tsum_l1 l h nm true (slv l x) ha.2.1 (slv_length l x) _ 0 500000 (by omega) rfl (by omega) (by
      simp only [List.drop_zero]
      have := ha.2.2.2
      simp only [Int.ofNat_zero] at hm
      omega)
    simpa only [List.drop_zero, Int.natCast_zero, tv, if_true] using this
theorem rated_of : Ev (fun k => mootkeep1_rated.f k) true := by
  have h : TabOK [(⟨5, 3⟩ : S44)] := ⟨by simp, by simp, fun s hs => by obtain rfl := List.mem_singleton.1 hs; simp, List.pairwise_singleton _ _⟩
  have hn : nameOk (⟨#[116]⟩ : ByteArray) = true := by decide +kernel
  simp only [mootkeep1_rated.f, Option.bind_some]
  refine Ev.bind (tcheck_of h _ hn 5 false (by omega) (by simp)) (Ev.ifp rfl ?_)
  refine Ev.bind (tat_of h _ hn 5 false (by omega) (by simp) 7 (by omega) (by omega)) ?_
  exact Ev.to (by decide)
def tabname : ByteArray := ⟨#[116, 97, 98, 108, 101, 45, 97]⟩
theorem tabname_ok : nameOk tabname = true := by decide +kernel
/-- what `table` has made so far: the next step is at `t` -/
structure TabSo (l : List S44) (t : Int) (i : Nat) : Prop where
  len : l.length = i
  t0 : 0 ≤ t
  t1 : t ≤ 2000 + 60000 * i
  mem : ∀ s ∈ l, 0 ≤ s.f0 ∧ s.f0 ≤ 400000 ∧ 0 ≤ s.f1 ∧ s.f1 ≤ 1000000 ∧ s.f0 < t
  inc : l.Pairwise fun a b => a.f0 < b.f0
theorem TabSo.next {l : List S44} {t : Int} {i : Nat} (h : TabSo l t i) (hi : i < 6) {v u : Int} (hv0 : 0 ≤ v) (hv : v ≤ 1000000) (hu0 : 0 ≤ u) (hu : u < 60000) : TabSo (l ++ [(⟨t, v⟩ : S44)]) (t + (1 + u)) (i + 1) := by
  obtain ⟨hl, h0, h1, hm, hp⟩ := h
  refine ⟨by simp [hl], by omega, by omega, ?_, ?_⟩
  · intro s hs
    rcases List.mem_append.1 hs with hs | hs
    · have := hm s hs
      exact ⟨this.1, this.2.1, this.2.2.1, this.2.2.2.1, by omega⟩
    · obtain rfl := List.mem_singleton.1 hs
      exact ⟨h0, by show t ≤ 400000; omega, hv0, hv, by show t < t + (1 + u); omega⟩
  · refine List.pairwise_append.2 ⟨hp, List.pairwise_singleton _ _, ?_⟩
    intro a ha c hc
    obtain rfl := List.mem_singleton.1 hc
    exact (hm a ha).2.2.2.2
theorem table_l0 (nm : ByteArray) (tk : Int) (sl : Bool) (m : Int) (hm : m ≤ 5) (n : Nat) : ∀ (i : Nat) (t : Int) (st : List Int) (l : List S44), (i : Int) ≤ m → (m - i).toNat = n → TabSo l t i →
    ∃ c st' t', Ev (fun k => mootmake_table.l0 k t m (i : Int) st nm 2 tk sl l) (nm, 2, tk, sl, c, st') ∧ TabSo c t' m.toNat := by
  induction n with
  | zero =>
    intro i t st l hi hn hM
    obtain rfl : m = (i : Int) := by omega
    refine ⟨l, st, t, Ev.step (f := fun _ => some (nm, 2, tk, sl, l, st)) (fun k => ?_) (Ev.now _), hM⟩
    simp only [mootmake_table.l0]
    rw [if_neg (by omega)]
  | succ n ih =>
    intro i t st l hi hn hM
    have hl := hM.len; have h0 := hM.t0; have h1 := hM.t1
    obtain ⟨v, s1, e1, v0, v1⟩ := next_of st 21 (by omega) (by omega)
    obtain ⟨w, s2, e2, w0, w1⟩ := next_of s1 100 (by omega) (by omega)
    obtain ⟨u, s3, e3, u0, u1⟩ := next_of s2 60000 (by omega) (by omega)
    obtain ⟨u', s3', e3', u0', u1'⟩ := next_of s1 60000 (by omega) (by omega)
    obtain ⟨ca, sa, ta, ea, ma⟩ := ih (i + 1) _ s3 _ (by omega) (by omega) (hM.next (by omega) (v := w * 500) (u := u) (by omega) (by omega) u0 u1)
    obtain ⟨cb, sb, tb, eb, mb⟩ := ih (i + 1) _ s3' _ (by omega) (by omega) (hM.next (by omega) (v := v * 50000) (u := u') (by omega) (by omega) u0' u1')
    have ja : Ev (fun k => mootmake_table.j2 k t (v * 50000) m (i : Int) true s1 nm 2 tk sl l) (nm, 2, tk, sl, ca, sa) := by
      refine Ev.step (fun k => ?_) ea
      simp only [mootmake_table.j2]
      rw [if_pos trivial, e2]
      simp only [Option.bind_some]
      rw [if_pos (by omega), e3]
      simp only [Option.bind_some]
      rw [w64 (x := 1 + u) (by omega) (by omega), w64 (x := t + (1 + u)) (by omega) (by omega), w64 (x := w * 500) (by omega) (by omega), w64 (x := (i : Int) + 1) (by omega) (by omega), show (i : Int) + 1 = ((i + 1 : Nat) : Int) from by omega]
    have jb : Ev (fun k => mootmake_table.j2 k t (v * 50000) m (i : Int) false s1 nm 2 tk sl l) (nm, 2, tk, sl, cb, sb) := by
      refine Ev.step (fun k => ?_) eb
      simp only [mootmake_table.j2]
      rw [if_neg (by decide), if_pos (by omega), e3']
      simp only [Option.bind_some]
      rw [w64 (x := 1 + u') (by omega) (by omega), w64 (x := t + (1 + u')) (by omega) (by omega), w64 (x := (i : Int) + 1) (by omega) (by omega), show (i : Int) + 1 = ((i + 1 : Nat) : Int) from by omega]
    have hl0 : ∀ (z : Bool), z = (if tk = 2 then !sl else false) → ∀ k, mootmake_table.l0 (k + 1) t m (i : Int) st nm 2 tk sl l = mootmake_table.j2 k t (v * 50000) m (i : Int) z s1 nm 2 tk sl l := by
      rintro z rfl k
      simp only [mootmake_table.l0]
      rw [if_pos (by omega), e1]
      simp only [Option.bind_some]
      rw [w64 (x := v * 50000) (by omega) (by omega)]
      split <;> rfl
    by_cases hz : (if tk = 2 then !sl else false) = true
    · exact ⟨ca, sa, ta, Ev.step (hl0 true hz.symm) ja, ma⟩
    · exact ⟨cb, sb, tb, Ev.step (hl0 false ((Bool.not_eq_true _).mp hz).symm) jb, mb⟩
theorem table_j0 (nm : ByteArray) (tk : Int) (sl : Bool) (st : List Int) : ∃ c st', Ev (fun k => mootmake_table.j0 k st nm 2 tk sl) (nm, 2, tk, sl, c, st') ∧ TabOK c := by
  obtain ⟨a, s1, e1, a0, a1⟩ := next_of st 3 (by omega) (by omega)
  obtain ⟨m, s2, e2, m0, m1⟩ := next_of s1 5 (by omega) (by omega)
  obtain ⟨c, s3, t', hc, hM⟩ := table_l0 nm tk sl (1 + m) (by omega) _ 0 (a * 1000) s2 [] (by omega) rfl ⟨rfl, by omega, by omega, fun s h => by simp at h, List.Pairwise.nil⟩
  refine ⟨c, s3, Ev.step (fun k => ?_) hc, ⟨?_, ?_, fun s hs => ?_, hM.inc⟩⟩
  · simp only [mootmake_table.j0]
    rw [e1]
    simp only [Option.bind_some]
    rw [e2]
    simp only [Option.bind_some]
    rw [w64 (x := a * 1000) (by omega) (by omega), w64 (x := 1 + m) (by omega) (by omega)]; rfl
  · rw [hM.len]; omega
  · rw [hM.len]; omega
  · have := hM.mem s hs
    exact ⟨this.1, this.2.1, this.2.2.1, this.2.2.2.1⟩
theorem table_of (l0 : List Int) : ∃ tk sl l, Ev (fun k => mootmake_Table.f k l0) (tabname, 2, tk, sl, l) ∧ TabOK l ∧ (tk = 2 ∨ tk = 5 ∨ tk = 6) ∧ (sl = true → tk = 2) := by
  obtain ⟨i, s1, e1, i0, i1⟩ := next_of l0 3 (by omega) (by omega)
  obtain ⟨z, s2, e2, z0, z1⟩ := next_of s1 2 (by omega) (by omega)
  obtain ⟨ca, sa, ea, ma⟩ := table_j0 tabname 2 (z == 1) s2
  obtain ⟨cb, sb, eb, mb⟩ := table_j0 tabname 6 false s1
  have hT : ∀ (tk : Int) (sl : Bool) (c : List S44) (st : List Int), Ev (fun k => mootmake_table.f k tabname l0) (tabname, 2, tk, sl, c, st) → Ev (fun k => mootmake_Table.f k l0) (tabname, 2, tk, sl, c) := by
    intro tk sl c st h
    simp only [mootmake_Table.f]
    exact Ev.bind h (Ev.now _)
  have hi : i = 0 ∨ i = 1 ∨ i = 2 := by omega
  rcases hi with rfl | rfl | rfl
  · refine ⟨2, z == 1, ca, hT _ _ _ sa ?_, ma, .inl rfl, fun _ => rfl⟩
    simp only [mootmake_table.f, Option.bind_some, e1]
    refine Ev.ifp (by omega) (Ev.ifp (by decide) (Ev.ifp rfl ?_))
    simp only [e2, Option.bind_some]
    exact ea
  · refine ⟨6, false, cb, hT _ _ _ sb ?_, mb, .inr (.inr rfl), fun h => absurd h (by decide)⟩
    simp only [mootmake_table.f, Option.bind_some, e1]
    exact Ev.ifp (by omega) (Ev.ifp (by decide) (Ev.ifn (by decide) eb))
  · refine ⟨2, z == 1, ca, hT _ _ _ sa ?_, ma, .inl rfl, fun _ => rfl⟩
    simp only [mootmake_table.f, Option.bind_some, e1]
    refine Ev.ifp (by omega) (Ev.ifp (by decide) (Ev.ifp rfl ?_))
    simp only [e2, Option.bind_some]
    exact ea
theorem sum_nonneg : ∀ (xs : List Int), (∀ x ∈ xs, 0 ≤ x) → 0 ≤ xs.sum
  | [], _ => by simp
  | x :: xs, h => by
    rw [List.sum_cons]
    have := h x (by simp)
    have := sum_nonneg xs (fun y hy => h y (by simp [hy]))
    omega
theorem tsl_l0 (c : List S44) (h : TabOK c) (xs : List Int) (hlen : xs.length = c.length) (hx : ∀ x ∈ xs, 0 ≤ x) (y : Int) (hn1 : -1099511627776 ≤ y) (hn2 : y ≤ 1099511627776) (v : Int)
    (hat : Ev (fun k => table_At.f k tabname 2 2 true c y) v) (hv0 : 0 ≤ v) (hv : v ≤ max 0 (y - (rd_T44 c 0).f0)) (m : Nat) :
    ∀ (i : Nat) (acc : Int), i ≤ xs.length → xs.length - i = m → 0 ≤ acc → acc + (xs.drop i).sum = max 0 (y - (rd_T44 c 0).f0) →
    Ev (fun k => mootkeep1_TableSlices.l0 k y xs 0 acc xs (xs.length : Int) (i : Int) tabname 2 2 true c) true := by
  have hl := h.len; have hp := h.pos; have h0 := h.at 0 hp
  simp only [Int.natCast_zero] at h0
  induction m with
  | zero =>
    intro i acc hi hn ha hs
    obtain rfl : i = xs.length := by omega
    rw [List.drop_length] at hs
    simp only [List.sum_nil, Int.add_zero] at hs
    have hw : mx 0 (wrap64 (y - (rd_T44 c 0).f0)) = max 0 (y - (rd_T44 c 0).f0) := by rw [tmx_max, w64 (by omega) (by omega)]
    refine Ev.step (f := fun k => (table_At.f k tabname 2 2 true c y).bind fun t215 => if t215 ≥ 0 then (some (decide (t215 ≤ max 0 (y - (rd_T44 c 0).f0)))) else (some false)) (fun k => ?_) ?_
    · simp only [mootkeep1_TableSlices.l0]
      rw [if_neg (by omega), if_pos (by omega), if_pos trivial, if_pos (by omega), hw, if_pos hs]
    · refine Ev.bind hat (Ev.ifp hv0 ?_)
      exact Ev.to (decide_eq_true hv)
  | succ m ih =>
    intro i acc hi hn ha hs
    have hlt : i < xs.length := by omega
    have hxi := hx _ (rdi_mem xs i hlt)
    have hr := sum_nonneg (xs.drop (i + 1)) (fun z hz => hx z (List.mem_of_mem_drop hz))
    rw [drop_rdi xs i hlt, List.sum_cons] at hs
    refine Ev.step (fun k => ?_) (ih (i + 1) (acc + rd xs (i : Int)) (by omega) (by omega) (by omega) (by omega))
    simp only [mootkeep1_TableSlices.l0]
    rw [if_pos (by omega), if_pos (by omega), if_pos (by omega), w64_succ hlt (by omega), w64 (x := acc + rd xs (i : Int)) (by omega) (by omega)]
theorem TableSlices : mootkeep1_TableSlices.Pure := by
  intro l a1 _ _ _ _
  have r1 := below_range a1 400000 (by omega)
  obtain ⟨tk, sl, c, htab, hc, hto, hsl⟩ := table_of l
  obtain ⟨a, ha⟩ : ∃ a, a = a1 % 400000 - 1000 := ⟨_, rfl⟩
  refine Ev.rounds (g := fun k => mootkeep1_TableSlices.f k l a1) ?_
  simp only [mootkeep1_TableSlices.f]
  refine Ev.bind htab ?_
  rw [below_of _ _ (by omega) (by omega)]
  simp only [Option.bind_some]
  rw [w64 (x := a1 % 400000 - 1000) (by omega) (by omega), ← ha]
  cases sl
  · have hs : Ev (fun k => table_Slices.f k tabname 2 tk false c a) ([], 7) := by
      simp only [table_Slices.f]
      refine Ev.bind (tcheck_of hc tabname tabname_ok tk false hto hsl) (Ev.ifp rfl (Ev.ifn (by decide) (Ev.now _)))
    refine Ev.bind hs (Ev.bind rated_of (Ev.ifp rfl ?_))
    refine Ev.step (f := fun k => (mootkeep1_rated.f k).bind fun t212 => if t212 = true then some ((7 : Int) == 7) else some false) (fun k => ?_) ?_
    · simp only [mootkeep1_TableSlices.j0]
      rw [if_pos (by decide)]
    · exact Ev.bind rated_of (Ev.ifp rfl (Ev.now _))
  · obtain rfl := hsl rfl
    have hs : Ev (fun k => table_Slices.f k tabname 2 2 true c a) (slv c a, 0) := by
      simp only [table_Slices.f]
      refine Ev.bind (tcheck_of hc tabname tabname_ok 2 true hto hsl) (Ev.ifp rfl (Ev.ifp trivial ?_))
      rw [tfit_of tabname 2 true c a (by omega) (by omega)]
      simp only [Option.bind_some]
      exact Ev.bind (slices_of hc tabname 2 2 true a (by omega) (by omega)) (Ev.now _)
    have hat := tat_of hc tabname tabname_ok 2 true hto hsl a (by omega) (by omega)
    have hall := slv_all hc a (by omega)
    refine Ev.bind hs (Ev.bind rated_of (Ev.ifp rfl ?_))
    have hv : tv true c a = (500000 + dot (slv c a) c) / 1000000 := by rw [tv, if_pos rfl]
    have h0 := hc.at 0 hc.pos
    simp only [Int.natCast_zero] at h0
    refine Ev.step (fun k => ?_) (tsl_l0 c hc (slv c a) (slv_length c a) (fun x hx => (hall.2.1 x hx).1) a (by omega) (by omega) _ hat (by rw [hv]; omega) (by rw [hv]; omega) _ 0 0 (by omega) rfl (by omega) (by rw [List.drop_zero, hall.1]; omega))
    simp only [mootkeep1_TableSlices.j0]
    rw [if_neg (by decide)]; rfl
end Go.Proofs.Ytdajcnhhfgnbmab.Pure
