/-
The part for one of two weights is the quotient that Part returns, rounded towards less or more, whatever numbers come in.
-/
import Derived.Test.YtaljkilnpfmlaaaPCashScaledx5
set_option linter.unusedVariables false
set_option linter.unusedSimpArgs false
namespace Go.Proofs.Ytaljkilnpfmlaaa.Pure
open Go.RowKit Go.Proofs.Ytaljkilnpfmlaaa.PCashScaled Go.Proofs.YtaljkilnpfmlaaaW.PrintWords Go.Proofs.YtaljkilnpfmlaaaW.PrintLast
/-- numbers that need no wrap -/
theorem w64 {x : Int} (h1 : -9223372036854775808 ≤ x) (h2 : x ≤ 9223372036854775807) : wrap64 x = x := by unfold wrap64; omega
theorem tdivnn {a b : Int} (h : 0 ≤ a) : Int.tdiv a b = a / b := Int.tdiv_eq_ediv_of_nonneg h
theorem tmodnn {a b : Int} (h : 0 ≤ a) : Int.tmod a b = a % b := Int.tmod_eq_emod_of_nonneg h
theorem Ev.ifp {α : Type} {c : Prop} [Decidable c] {a b : Nat → Option α} {r : α} (h : c) (k : Ev a r) : Ev (fun n => if c then a n else b n) r := Ev.congr (fun n => by rw [if_pos h]) k
theorem Ev.ifn {α : Type} {c : Prop} [Decidable c] {a b : Nat → Option α} {r : α} (h : ¬ c) (k : Ev b r) : Ev (fun n => if c then a n else b n) r := Ev.congr (fun n => by rw [if_neg h]) k
theorem Ev.to {α : Type} {a b : α} (h : a = b) : Ev (fun _ => some a) b := h ▸ Ev.now a
theorem below_of (x n : Int) (h0 : 0 < n) (h1 : n ≤ 4611686018427387904) : mootmake_Below.f x n = some (x % n) := by
  have hr := Int.emod_nonneg x (show n ≠ 0 by omega)
  have hl := Int.emod_lt_of_pos x h0
  unfold mootmake_Below.f
  rw [if_neg (by omega), Int.tmod_eq_emod]
  by_cases h : 0 ≤ x ∨ n ∣ x
  · rw [if_pos h, show x % n - ((0 : Nat) : Int) = x % n from by omega, if_neg (by omega)]
  · have h3 : x % n ≠ 0 := fun e => h (.inr (Int.dvd_of_emod_eq_zero e))
    rw [if_neg h, if_pos (by omega), w64 (by omega) (by omega)]
    congr 1; omega
theorem below_range (x n : Int) (h0 : 0 < n) : 0 ≤ x % n ∧ x % n < n := ⟨Int.emod_nonneg x (by omega), Int.emod_lt_of_pos x h0⟩
theorem rd_app (p : List Int) (x : Int) (l : List Int) : rd (p ++ x :: l) (p.length : Int) = x := by
  unfold rd
  simp
theorem set_app (p : List Int) (x v : Int) (l : List Int) : (p ++ x :: l).set ((p.length : Int)).toNat v = p ++ v :: l := by simp
theorem app1 (p : List Int) (x : Int) (l : List Int) : p ++ x :: l = (p ++ [x]) ++ l := by simp
/-- each weight is valid -/
def GoodW (ws : List Int) : Prop := ∀ w ∈ ws, 0 ≤ w ∧ w ≤ 1048576
theorem sum_range : ∀ ws : List Int, GoodW ws → 0 ≤ ws.sum ∧ ws.sum ≤ 1048576 * ws.length
  | [], _ => by simp
  | w :: l, h => by
    have h1 := h w (by simp)
    have h2 := sum_range l (fun x hx => h x (by simp [hx]))
    simp only [List.sum_cons, List.length_cons]
    omega
theorem split_l0 (n : Int) (hn : 0 ≤ n) (ws : List Int) (hw : GoodW ws) (hlen : ws.length ≤ 1000) (hS : ws.sum ≠ 0) (r : List Int × Int) (hr : Ev (fun k => cash_Split.j2 k 1 n ws ws.sum) r) : ∀ (l p : List Int), p ++ l = ws → Ev (fun k => cash_Split.l0 k ws (ws.length : Int) (p.length : Int) n ws p.sum) r
  | [], p, h => by
    have h' : p = ws := by simpa using h
    subst h'
    refine Ev.step (fun k => ?_) hr
    simp only [cash_Split.l0]
    rw [if_neg (by omega), if_neg hS, if_neg (by omega)]
  | x :: l, p, h => by
    have hx := hw x (by rw [← h]; simp)
    have hl : ws.length = p.length + (l.length + 1) := by rw [← h]; simp
    have hp := sum_range p (fun z hz => hw z (by rw [← h]; simp [hz]))
    have hrd : rd ws (p.length : Int) = x := by rw [← h]; exact rd_app p x l
    have := split_l0 n hn ws hw hlen hS r hr l (p ++ [x]) (by rw [← app1]; exact h)
    refine Ev.step (fun k => ?_) this
    simp only [cash_Split.l0]
    rw [if_pos (by omega), if_pos (by omega), if_pos (by omega), hrd, if_neg (by omega), if_neg (by omega), w64 (x := (p.length : Int) + 1) (by omega) (by omega), w64 (x := p.sum + x) (by omega) (by omega)]
    simp
def qs (n S : Int) (ws : List Int) : List Int := ws.map fun w => n * w / S
def idx : Nat → List Int
  | 0 => []
  | n + 1 => idx n ++ [(n : Int)]
theorem idx_len : ∀ n, (idx n).length = n
  | 0 => rfl
  | n + 1 => by simp [idx, idx_len n]
theorem idx_mem : ∀ n (z : Int), z ∈ idx n → 0 ≤ z ∧ z < n
  | 0, z, h => by simp [idx] at h
  | n + 1, z, h => by
    simp only [idx, List.mem_append, List.mem_singleton] at h
    rcases h with h | h
    · have := idx_mem n z h; omega
    · omega
theorem zeros_succ (n : Nat) : List.replicate (n + 1) (0 : Int) = 0 :: List.replicate n 0 := rfl
theorem q_range {n S w : Int} (hn : 0 ≤ n) (hS : 0 < S) (w0 : 0 ≤ w) (w1 : w ≤ S) : 0 ≤ n * w / S ∧ n * w / S ≤ n := by
  have h0 : 0 ≤ n * w := Int.mul_nonneg hn w0
  constructor
  · exact Int.ediv_nonneg h0 (by omega)
  · refine Int.ediv_le_of_le_mul hS ?_
    exact Int.mul_le_mul_of_nonneg_left w1 hn
theorem qs_sum {n S : Int} (hn : 0 ≤ n) (hS : 0 < S) : ∀ ws : List Int, GoodW ws → S * (qs n S ws).sum ≤ n * ws.sum ∧ n * ws.sum ≤ S * (qs n S ws).sum + ws.length * (S - 1)
  | [], _ => by simp [qs]
  | w :: l, h => by
    have ih := qs_sum hn hS l (fun x hx => h x (by simp [hx]))
    have e := Int.mul_ediv_add_emod (n * w) S
    have e1 := Int.emod_nonneg (n * w) (show S ≠ 0 by omega)
    have e2 := Int.emod_lt_of_pos (n * w) hS
    have hq : (qs n S (w :: l)).sum = n * w / S + (qs n S l).sum := by simp [qs]
    have hl : (((w :: l).length : Nat) : Int) * (S - 1) = l.length * (S - 1) + (S - 1) := by
      rw [List.length_cons, Int.natCast_add, Int.add_mul]; simp
    rw [hq, hl, List.sum_cons, Int.mul_add, Int.mul_add]
    omega
/-- one more for a place -/
def bump (c : List Int) (i : Int) : List Int := c.set i.toNat (rd c i + 1)
theorem set_rd (c : List Int) (i : Int) (h0 : 0 ≤ i) (h1 : i < c.length) : c.set i.toNat (rd c i) = c := by
  unfold rd
  have hlt : i.toNat < c.length := by omega
  rw [List.getD_eq_getElem?_getD, List.getElem?_eq_getElem hlt]
  simp
theorem split_l3 (c : List Int) (hc : ∀ x ∈ c, -9223372036854775808 ≤ x ∧ x ≤ 9223372036854775807) (hl : c.length ≤ 1000000) (n : Nat) : ∀ i : Int, 0 ≤ i → i + n = c.length → Ev (fun k => cash_Split.l3 k 1 c (c.length : Int) i) (c, 0) := by
  induction n with
  | zero =>
    intro i h0 h1
    refine Ev.step (f := fun _ => some (c, 0)) (fun k => ?_) (Ev.now _)
    simp only [cash_Split.l3]
    rw [if_neg (by omega)]
  | succ n ih =>
    intro i h0 h1
    have hm : rd c i ∈ c := by
      unfold rd
      have hlt : i.toNat < c.length := by omega
      rw [List.getD_eq_getElem?_getD, List.getElem?_eq_getElem hlt]
      simp
    have hb := hc _ hm
    have := ih (i + 1) (by omega) (by omega)
    refine Ev.step (fun k => ?_) this
    simp only [cash_Split.l3]
    rw [if_pos (by omega), if_pos h0, if_pos (by omega), Int.mul_one, w64 hb.1 hb.2, set_rd c i h0 (by omega), w64 (x := i + 1) (by omega) (by omega)]
theorem rd_mem (c : List Int) (i : Int) (h0 : 0 ≤ i) (h1 : i < c.length) : rd c i ∈ c := by
  unfold rd
  have hlt : i.toNat < c.length := by omega
  rw [List.getD_eq_getElem?_getD, List.getElem?_eq_getElem hlt]
  simp
theorem bump_mem {c : List Int} {i B : Int} (h0 : 0 ≤ i) (h1 : i < c.length) (hc : ∀ x ∈ c, 0 ≤ x ∧ x ≤ B) : ∀ x ∈ bump c i, 0 ≤ x ∧ x ≤ B + 1 := by
  intro x hx
  unfold bump at hx
  rcases List.mem_or_eq_of_mem_set hx with h | h
  · have := hc x h; omega
  · have := hc _ (rd_mem c i h0 h1); omega
theorem split_l2 (o y : List Int) (hy : y.length ≤ 1000) (B : Int) (hB : B ≤ 4000000000000) (L : Nat) (hL : L ≤ 1000) : ∀ (l p c : List Int), p ++ l = y → (∀ z ∈ l, 0 ≤ z ∧ z < L) → c.length = L → (∀ x ∈ c, 0 ≤ x ∧ x ≤ B + p.length) → Ev (fun k => cash_Split.l2 k 1 c o y (y.length : Int) (p.length : Int)) (l.foldl bump c, 0)
  | [], p, c, h, _, hc, hb => by
    have h' : p = y := by simpa using h
    subst h'
    have h3 := split_l3 c (fun x hx => by have := hb x hx; omega) (by omega) c.length 0 (by omega) (by omega)
    refine Ev.step (fun k => ?_) h3
    simp only [cash_Split.l2]
    rw [if_neg (by omega)]
  | z :: l, p, c, h, hz, hc, hb => by
    have hl : y.length = p.length + (l.length + 1) := by rw [← h]; simp
    have hrd : rd y (p.length : Int) = z := by rw [← h]; exact rd_app p z l
    have hz0 := hz z (by simp)
    have hm := hb _ (rd_mem c z hz0.1 (by omega))
    have := split_l2 o y hy B hB L hL l (p ++ [z]) (bump c z) (by rw [← app1]; exact h) (fun w hw => hz w (by simp [hw])) (by simp [bump, hc]) (fun x hx => by
      have := bump_mem hz0.1 (by omega) hb x hx
      simp only [List.length_append, List.length_cons, List.length_nil]
      omega)
    refine Ev.step (fun k => ?_) this
    simp only [cash_Split.l2]
    rw [if_pos (by omega), if_pos (by omega), if_pos (by omega), hrd, if_pos hz0.1, if_pos (by omega), w64 (x := rd c z + 1) (by omega) (by omega), w64 (x := (p.length : Int) + 1) (by omega) (by omega)]
    simp [bump]
theorem bump_sum (c : List Int) (i : Int) (h0 : 0 ≤ i) (h1 : i < c.length) : (bump c i).sum = c.sum + 1 := by
  obtain ⟨k, rfl⟩ : ∃ k : Nat, i = k := ⟨i.toNat, by omega⟩
  have hk : k < c.length := by omega
  obtain ⟨p, x, l, rfl, hp⟩ : ∃ p x l, c = p ++ x :: l ∧ p.length = k := ⟨c.take k, c[k], c.drop (k + 1), by rw [← List.drop_eq_getElem_cons hk]; exact (List.take_append_drop k c).symm, by simp; omega⟩
  subst hp
  unfold bump
  rw [rd_app, set_app]
  simp
  omega
theorem bumps_sum (L : Nat) : ∀ (l c : List Int), (∀ z ∈ l, 0 ≤ z ∧ z < L) → c.length = L → (l.foldl bump c).sum = c.sum + l.length ∧ (l.foldl bump c).length = L
  | [], c, _, h => by simp [h]
  | z :: l, c, hz, h => by
    have h0 := hz z (by simp)
    have := bumps_sum L l (bump c z) (fun w hw => hz w (by simp [hw])) (by simp [bump, h])
    rw [List.foldl_cons, List.length_cons]
    have h2 := bump_sum c z h0.1 (by omega)
    omega
/-- the order in which what is left is given -/
def ordr (n : Int) (ws : List Int) : List Int := slices_SortStableFunc_int_int.srt n ws ws.sum (idx ws.length)
theorem nm_mem (m : Nat) (hm : 1 ≤ m) (z : Int) : 0 ≤ slices_SortStableFunc_int_int.nm m z ∧ slices_SortStableFunc_int_int.nm m z < m := by
  unfold slices_SortStableFunc_int_int.nm
  split <;> omega
theorem ordr_mem (n : Int) (ws : List Int) (h : 1 ≤ ws.length) (z : Int) (hz : z ∈ ordr n ws) : 0 ≤ z ∧ z < ws.length := by
  unfold ordr slices_SortStableFunc_int_int.srt at hz
  obtain ⟨x, _, rfl⟩ := List.mem_map.1 hz
  exact nm_mem _ h x
def left (n : Int) (ws : List Int) : Int := n - (qs n ws.sum ws).sum
theorem left_range (n : Int) (hn : 0 ≤ n) (ws : List Int) (hw : GoodW ws) (hS : 0 < ws.sum) : 0 ≤ left n ws ∧ left n ws ≤ ws.length := by
  have h := qs_sum hn hS ws hw
  have e : ws.sum * left n ws = n * ws.sum - ws.sum * (qs n ws.sum ws).sum := by unfold left; rw [Int.mul_sub, Int.mul_comm ws.sum n]
  constructor
  · refine Int.not_lt.1 fun hl => ?_
    have : ws.sum * left n ws < 0 := Int.mul_neg_of_pos_of_neg hS hl
    omega
  · refine Int.not_lt.1 fun hl => ?_
    have h1 : ws.sum * ((ws.length : Int) + 1) ≤ ws.sum * left n ws := Int.mul_le_mul_of_nonneg_left (by omega) (by omega)
    rw [Int.mul_add, Int.mul_one, Int.mul_comm] at h1
    rw [Int.mul_sub, Int.mul_one] at h
    omega
theorem split_l1 (n : Int) (hn : 0 ≤ n) (hn2 : n ≤ 1099511627776) (ws : List Int) (hw : GoodW ws) (hlen : 1 ≤ ws.length) (hlen2 : ws.length ≤ 19) (hS : 0 < ws.sum) (hso : (ordr n ws).length = ws.length) : ∀ (l p : List Int), p ++ l = ws →
    Ev (fun k => cash_Split.l1 k 1 (qs n ws.sum p ++ List.replicate l.length 0) (idx p.length ++ List.replicate l.length 0) (n - (qs n ws.sum p).sum) ws (ws.length : Int) (p.length : Int) n ws ws.sum) (((ordr n ws).take (left n ws).toNat).foldl bump (qs n ws.sum ws), 0)
  | [], p, h => by
    have h' : p = ws := by simpa using h
    subst h'
    have hl := left_range n hn p hw hS
    have hq : ∀ x ∈ qs n p.sum p, 0 ≤ x ∧ x ≤ 1099511627776 := by
      intro x hx
      obtain ⟨w, hw2, rfl⟩ := List.mem_map.1 hx
      have := q_range hn hS (hw w hw2).1 (by
        have : ∀ (l : List Int), GoodW l → w ∈ l → w ≤ l.sum := by
          intro l
          induction l with
          | nil => intro _ h; simp at h
          | cons a l ih =>
            intro hg hm
            have h1 := hg a (by simp)
            have h2 := sum_range l (fun x hx => hg x (by simp [hx]))
            rcases List.mem_cons.1 hm with rfl | hm
            · simp only [List.sum_cons]; omega
            · have := ih (fun x hx => hg x (by simp [hx])) hm
              simp only [List.sum_cons]; omega
        exact this p hw hw2)
      omega
    have h2 := split_l2 (ordr n p) ((ordr n p).take (left n p).toNat) (by simp; omega) 1099511627776 (by omega) p.length (by omega) ((ordr n p).take (left n p).toNat) [] (qs n p.sum p) rfl (fun z hz => ordr_mem n p hlen z (List.mem_of_mem_take hz)) (by simp [qs]) (fun x hx => by have := hq x hx; simp; omega)
    have hs : slices_SortStableFunc_int_int.f (idx p.length) n p p.sum = some (ordr n p) := by
      unfold slices_SortStableFunc_int_int.f
      rw [if_pos ⟨hlen, by rw [idx_len]; exact hlen2, by rw [idx_len]; exact hlen, by omega, List.all_eq_true.2 fun z hz => decide_eq_true (idx_mem _ z hz)⟩]
      rfl
    simp only [List.length_nil, List.replicate_zero, List.append_nil]
    refine Ev.step (fun k => ?_) h2
    simp only [cash_Split.l1]
    rw [if_neg (by omega), hs]
    simp only [Option.bind_some]
    rw [if_pos (show 0 ≤ n - (qs n p.sum p).sum from hl.1), idx_len, if_pos (show n - (qs n p.sum p).sum ≤ _ from hl.2)]
    rfl
  | x :: l, p, h => by
    have hl : ws.length = p.length + (l.length + 1) := by rw [← h]; simp
    have hx := hw x (by rw [← h]; simp)
    have hgp : GoodW p := fun z hz => hw z (by rw [← h]; simp [hz])
    have hps := sum_range p hgp
    have hrd : rd ws (p.length : Int) = x := by rw [← h]; exact rd_app p x l
    have hlS : (ws.length : Int) ≤ 19 := by omega
    have hqp := qs_sum hn hS p hgp
    have ih := split_l1 n hn hn2 ws hw hlen hlen2 hS hso l (p ++ [x]) (by rw [← app1]; exact h)
    have hnx : 0 ≤ n * x := Int.mul_nonneg hn hx.1
    have hnx2 : n * x ≤ 1099511627776 * 1048576 := Int.mul_le_mul hn2 hx.2 hx.1 (by omega)
    have hq0 : 0 ≤ n * x / ws.sum := Int.ediv_nonneg hnx (by omega)
    have hq1 : n * x / ws.sum ≤ n * x := Int.ediv_le_self _ hnx
    have hlq : (qs n ws.sum p).length = p.length := by simp [qs]
    have hqs : 0 ≤ (qs n ws.sum p).sum ∧ (qs n ws.sum p).sum ≤ n := by
      have hpw : p.sum ≤ ws.sum := by
        rw [← h, List.sum_append]
        have := sum_range (x :: l) (fun z hz => hw z (by rw [← h]; exact List.mem_append_right _ hz))
        omega
      constructor
      · have : ∀ q : List Int, GoodW q → 0 ≤ (qs n ws.sum q).sum := by
          intro q
          induction q with
          | nil => intro _; simp [qs]
          | cons a q ih =>
            intro hg
            have h1 : 0 ≤ n * a / ws.sum := Int.ediv_nonneg (Int.mul_nonneg hn (hg a (by simp)).1) (by omega)
            have h2 := ih (fun z hz => hg z (by simp [hz]))
            have h3 : (qs n ws.sum (a :: q)).sum = n * a / ws.sum + (qs n ws.sum q).sum := by simp [qs]
            omega
        exact this p hgp
      · refine Int.not_lt.1 fun hlt => ?_
        have h1 : ws.sum * (n + 1) ≤ ws.sum * (qs n ws.sum p).sum := Int.mul_le_mul_of_nonneg_left (by omega) (by omega)
        have h2 : n * p.sum ≤ n * ws.sum := Int.mul_le_mul_of_nonneg_left hpw hn
        rw [Int.mul_add, Int.mul_one, Int.mul_comm] at h1
        omega
    refine Ev.step (fun k => ?_) ih
    simp only [cash_Split.l1]
    rw [if_pos (by omega), if_pos (by omega), if_pos (by omega), if_neg (by omega), hrd, w64 (x := n * x) (by omega) (by omega), tdivnn hnx, w64 (x := n * x / ws.sum) (by omega) (by omega)]
    rw [if_pos (by simp [hlq]; omega)]
    simp only [Option.bind_some]
    rw [if_pos (by simp [idx_len]; omega)]
    have e1 : (qs n ws.sum p ++ List.replicate (x :: l).length 0).set ((p.length : Int)).toNat (n * x / ws.sum) = qs n ws.sum (p ++ [x]) ++ List.replicate l.length 0 := by
      have := set_app (qs n ws.sum p) 0 (n * x / ws.sum) (List.replicate l.length 0)
      rw [hlq] at this
      rw [List.length_cons, zeros_succ, this]
      simp [qs]
    have e2 : (idx p.length ++ List.replicate (x :: l).length 0).set ((p.length : Int)).toNat (p.length : Int) = idx (p ++ [x]).length ++ List.replicate l.length 0 := by
      have := set_app (idx p.length) 0 (p.length : Int) (List.replicate l.length 0)
      rw [idx_len] at this
      rw [List.length_cons, zeros_succ, this]
      simp [idx]
    have e3 : rd (qs n ws.sum (p ++ [x]) ++ List.replicate l.length 0) (p.length : Int) = n * x / ws.sum := by
      have := rd_app (qs n ws.sum p) (n * x / ws.sum) (List.replicate l.length 0)
      rw [hlq] at this
      rw [← this]
      simp [qs]
    rw [e1, e2, e3]
    have e4 : (qs n ws.sum (p ++ [x])).sum = (qs n ws.sum p).sum + n * x / ws.sum := by simp [qs]
    rw [e4, w64 (x := n - (qs n ws.sum p).sum - n * x / ws.sum) (by omega) (by omega), w64 (x := (p.length : Int) + 1) (by omega) (by omega)]
    have e5 : n - ((qs n ws.sum p).sum + n * x / ws.sum) = n - (qs n ws.sum p).sum - n * x / ws.sum := by omega
    rw [e5]
    simp
theorem inner_size (lt : Int → Int → Bool) (a : Nat) : ∀ (j : Nat) (d : Array Int), (Sort.insInner lt a j d).size = d.size
  | 0, d => rfl
  | j + 1, d => by
    rw [Sort.insInner]
    split
    · rw [inner_size lt a j, Sort.size_swp]
    · rfl
theorem outer_size (lt : Int → Int → Bool) (a b : Nat) : ∀ (n i : Nat) (d : Array Int), b - i = n → (Sort.insOuter lt a b i d).size = d.size := by
  intro n
  induction n with
  | zero => intro i d h; rw [Sort.insOuter, if_neg (by omega)]
  | succ n ih => intro i d h; rw [Sort.insOuter, if_pos (by omega), ih _ _ (by omega), inner_size]
theorem ordr_len (n : Int) (ws : List Int) : (ordr n ws).length = ws.length := by
  unfold ordr slices_SortStableFunc_int_int.srt Sort.insertionSort
  rw [List.length_map, Array.length_toList, outer_size _ _ _ _ _ _ rfl]
  simp [idx_len]
/-- the parts of an amount that is not negative -/
def parts_ (n : Int) (ws : List Int) : List Int := ((ordr n ws).take (left n ws).toNat).foldl bump (qs n ws.sum ws)
theorem split_of (n : Int) (hn : 0 ≤ n) (hn2 : n ≤ 1099511627776) (ws : List Int) (hw : GoodW ws) (hlen : 1 ≤ ws.length) (hlen2 : ws.length ≤ 19) (hS : 0 < ws.sum) : Ev (fun k => cash_Split.f k n ws) (parts_ n ws, 0) := by
  have h1 := split_l1 n hn hn2 ws hw hlen hlen2 hS (ordr_len n ws) ws [] rfl
  have h2 : Ev (fun k => cash_Split.j2 k 1 n ws ws.sum) (parts_ n ws, 0) := by
    refine Ev.step (fun k => ?_) h1
    simp only [cash_Split.j2]
    rw [if_pos (by omega), if_pos (by omega)]
    simp [qs, idx]
  have h3 := split_l0 n hn ws hw (by omega) (by omega) _ h2 ws [] rfl
  have hL : cash_large.f n = some false := by
    unfold cash_large.f
    rw [if_neg (by omega), decide_eq_false (by omega)]
  simp only [cash_Split.f, hL, Option.bind_some]
  refine Ev.ifn (by decide) (Ev.step (fun k => ?_) h3)
  simp only [cash_Split.j0]
  rw [decide_eq_false (by omega), if_neg (by decide)]
  rfl
theorem parts_sum (n : Int) (hn : 0 ≤ n) (ws : List Int) (hw : GoodW ws) (hlen : 1 ≤ ws.length) (hS : 0 < ws.sum) : (parts_ n ws).sum = n ∧ (parts_ n ws).length = ws.length := by
  have hl := left_range n hn ws hw hS
  have hb := bumps_sum ws.length ((ordr n ws).take (left n ws).toNat) (qs n ws.sum ws) (fun z hz => ordr_mem n ws hlen z (List.mem_of_mem_take hz)) (by simp [qs])
  have ht : (((ordr n ws).take (left n ws).toNat).length : Int) = left n ws := by rw [List.length_take, ordr_len]; omega
  unfold parts_
  refine ⟨?_, hb.2⟩
  rw [hb.1, ht]
  unfold left
  omega
theorem down_of (n m : Int) (h0 : -1099511627776 ≤ n) (h1 : n ≤ 1099511627776) (m0 : 1 ≤ m) (m1 : m ≤ 1099511627776) : cash_down.f n m = some (n / m) := by
  have e := Int.mul_ediv_add_emod n m
  have r0 := Int.emod_nonneg n (show m ≠ 0 by omega)
  have r1 := Int.emod_lt_of_pos n (show 0 < m by omega)
  have q0 : -1099511627776 ≤ n / m ∧ n / m ≤ 1099511627776 := by
    constructor
    · refine Int.not_lt.1 fun hl => ?_
      have : m * (n / m) ≤ m * (-1099511627777) := Int.mul_le_mul_of_nonneg_left (by omega) (by omega)
      have : m * (-1099511627777) ≤ 1 * (-1099511627777) := Int.mul_le_mul_of_nonpos_right m0 (by omega)
      omega
    · refine Int.not_lt.1 fun hl => ?_
      have : m * 1099511627777 ≤ m * (n / m) := Int.mul_le_mul_of_nonneg_left (by omega) (by omega)
      have : 1 * 1099511627777 ≤ m * 1099511627777 := Int.mul_le_mul_of_nonneg_right m0 (by omega)
      omega
  unfold cash_down.f
  rw [if_neg (by omega), Int.tdiv_eq_ediv]
  by_cases hc : 0 ≤ n ∨ m ∣ n
  · rw [if_pos hc, Int.add_zero, w64 (x := n / m) (by omega) (by omega), Int.mul_comm, w64 (x := m * (n / m)) (by omega) (by omega), if_neg (by omega)]
  · have hs : m.sign = 1 := Int.sign_eq_one_of_pos (by omega)
    have hr : n % m ≠ 0 := fun e => hc (.inr (Int.dvd_of_emod_eq_zero e))
    rw [if_neg hc, hs, w64 (x := n / m + 1) (by omega) (by omega), Int.add_mul, Int.mul_comm, Int.one_mul, w64 (x := m * (n / m) + m) (by omega) (by omega), if_pos (by omega), w64 (by omega) (by omega)]
    congr 1
    omega
theorem round_of (n way m : Int) (h0 : -1099511627776 ≤ n) (h1 : n ≤ 1099511627776) (m0 : 1 ≤ m) (m1 : m ≤ 1099511627776) (y0 : 0 ≤ way) (y1 : way < 5) :
    ∃ u : Int, (u = 0 ∨ u = 1) ∧ Ev (fun k => cash_Round.f k n way m) ((n / m + u) * m, 0) ∧ (u = 1 → 0 < n % m) ∧ (way = 0 → u = 0) ∧ (way = 1 → u = 0 → n % m = 0) ∧ (way ≥ 2 → (u = 1 → 2 * (n % m) ≥ m) ∧ (u = 0 → 2 * (n % m) ≤ m)) := by
  have e := Int.mul_ediv_add_emod n m
  have r0 := Int.emod_nonneg n (show m ≠ 0 by omega)
  have r1 := Int.emod_lt_of_pos n (show 0 < m by omega)
  have q0 : -1099511627777 ≤ n / m ∧ n / m ≤ 1099511627777 := by
    have hd := down_of n m h0 h1 m0 m1
    constructor
    · refine Int.not_lt.1 fun hl => ?_
      have : m * (n / m) ≤ m * (-1099511627777) := Int.mul_le_mul_of_nonneg_left (by omega) (by omega)
      have : m * (-1099511627777) ≤ 1 * (-1099511627777) := Int.mul_le_mul_of_nonpos_right m0 (by omega)
      omega
    · refine Int.not_lt.1 fun hl => ?_
      have : m * 1099511627777 ≤ m * (n / m) := Int.mul_le_mul_of_nonneg_left (by omega) (by omega)
      have : 1 * 1099511627777 ≤ m * 1099511627777 := Int.mul_le_mul_of_nonneg_right m0 (by omega)
      omega
  have hL : cash_large.f n = some false := by
    unfold cash_large.f
    rw [if_neg (by omega), decide_eq_false (by omega)]
  have w0 : wrap64 (n / m * m) = n / m * m := by rw [Int.mul_comm]; exact w64 (by omega) (by omega)
  have w1 : wrap64 (wrap64 (n / m + 1) * m) = (n / m + 1) * m := by
    rw [w64 (x := n / m + 1) (by omega) (by omega), Int.add_mul, Int.mul_comm, Int.one_mul]
    exact w64 (by omega) (by omega)
  have w2 : wrap64 (n - n / m * m) = n % m := by rw [Int.mul_comm, w64 (by omega) (by omega)]; omega
  have w3 : wrap64 (2 * (n % m)) = 2 * (n % m) := w64 (by omega) (by omega)
  have main : ∀ (u : Int) (b : Int × Int), b = ((n / m + u) * m, 0) → (∀ k, cash_Round.j0 (k + 1) n way m (decide (m > 1099511627776)) = some b) → Ev (fun k => cash_Round.f k n way m) ((n / m + u) * m, 0) := by
    intro u b hb hj
    subst hb
    simp only [cash_Round.f]
    exact Ev.ifn (by omega) (Ev.ifn (by omega) (Ev.ifn (by omega) (Ev.step hj (Ev.now _))))
  have hz : ((n / m + 0) * m, (0 : Int)) = (n / m * m, 0) := by rw [Int.add_zero]
  have start : ∀ k, cash_Round.j0 (k + 1) n way m (decide (m > 1099511627776)) = (if way = 1 then (if n % m > 0 then some ((n / m + 1) * m, 0) else some (n / m * m, 0)) else (if way = 2 then (if 2 * (n % m) ≥ m then some ((n / m + 1) * m, 0) else some (n / m * m, 0)) else (if way = 3 then (if 2 * (n % m) > m then some ((n / m + 1) * m, 0) else (if 2 * (n % m) = m then (if n > 0 then some ((n / m + 1) * m, 0) else some (n / m * m, 0)) else some (n / m * m, 0))) else (if way = 4 then (if 2 * (n % m) > m then some ((n / m + 1) * m, 0) else (if 2 * (n % m) = m then (if Int.tmod (n / m) 2 = 0 then some (n / m * m, 0) else some ((n / m + 1) * m, 0)) else some (n / m * m, 0))) else some (n / m * m, 0))))) := by
    intro k
    simp only [cash_Round.j0]
    rw [decide_eq_false (by omega), if_neg (by decide), hL]
    simp only [Option.bind_some]
    rw [if_neg (by decide), down_of n m h0 h1 m0 m1]
    simp only [Option.bind_some]
    rw [w0, w1, w2, w3]
  have up : (∀ k, cash_Round.j0 (k + 1) n way m (decide (m > 1099511627776)) = some ((n / m + 1) * m, 0)) → Ev (fun k => cash_Round.f k n way m) ((n / m + 1) * m, 0) := fun h => main 1 _ rfl h
  have dn : (∀ k, cash_Round.j0 (k + 1) n way m (decide (m > 1099511627776)) = some (n / m * m, 0)) → Ev (fun k => cash_Round.f k n way m) ((n / m + 0) * m, 0) := fun h => main 0 _ hz.symm h
  by_cases c1 : way = 1
  · by_cases c : n % m > 0
    · exact ⟨1, .inr rfl, up (fun k => by rw [start, if_pos c1, if_pos c]), fun _ => c, fun h => by omega, fun _ h => by omega, fun h => by omega⟩
    · exact ⟨0, .inl rfl, dn (fun k => by rw [start, if_pos c1, if_neg c]), fun h => by omega, fun h => rfl, fun _ h => by omega, fun h => by omega⟩
  · by_cases c2 : way = 2
    · by_cases c : 2 * (n % m) ≥ m
      · exact ⟨1, .inr rfl, up (fun k => by rw [start, if_neg c1, if_pos c2, if_pos c]), fun _ => by omega, fun h => by omega, fun h => absurd h c1, fun _ => ⟨fun _ => c, fun h => by omega⟩⟩
      · exact ⟨0, .inl rfl, dn (fun k => by rw [start, if_neg c1, if_pos c2, if_neg c]), fun h => by omega, fun h => rfl, fun h => absurd h c1, fun _ => ⟨fun h => by omega, fun h => by omega⟩⟩
    · by_cases c3 : way = 3
      · by_cases c : 2 * (n % m) > m
        · exact ⟨1, .inr rfl, up (fun k => by rw [start, if_neg c1, if_neg c2, if_pos c3, if_pos c]), fun _ => by omega, fun h => by omega, fun h => absurd h c1, fun _ => ⟨fun _ => by omega, fun h => by omega⟩⟩
        · by_cases d : 2 * (n % m) = m
          · by_cases g : n > 0
            · exact ⟨1, .inr rfl, up (fun k => by rw [start, if_neg c1, if_neg c2, if_pos c3, if_neg c, if_pos d, if_pos g]), fun _ => by omega, fun h => by omega, fun h => absurd h c1, fun _ => ⟨fun _ => by omega, fun h => by omega⟩⟩
            · exact ⟨0, .inl rfl, dn (fun k => by rw [start, if_neg c1, if_neg c2, if_pos c3, if_neg c, if_pos d, if_neg g]), fun h => by omega, fun h => rfl, fun h => absurd h c1, fun _ => ⟨fun h => by omega, fun h => by omega⟩⟩
          · exact ⟨0, .inl rfl, dn (fun k => by rw [start, if_neg c1, if_neg c2, if_pos c3, if_neg c, if_neg d]), fun h => by omega, fun h => rfl, fun h => absurd h c1, fun _ => ⟨fun h => by omega, fun h => by omega⟩⟩
      · by_cases c4 : way = 4
        · by_cases c : 2 * (n % m) > m
          · exact ⟨1, .inr rfl, up (fun k => by rw [start, if_neg c1, if_neg c2, if_neg c3, if_pos c4, if_pos c]), fun _ => by omega, fun h => by omega, fun h => absurd h c1, fun _ => ⟨fun _ => by omega, fun h => by omega⟩⟩
          · by_cases d : 2 * (n % m) = m
            · by_cases g : Int.tmod (n / m) 2 = 0
              · exact ⟨0, .inl rfl, dn (fun k => by rw [start, if_neg c1, if_neg c2, if_neg c3, if_pos c4, if_neg c, if_pos d, if_pos g]), fun h => by omega, fun h => rfl, fun h => absurd h c1, fun _ => ⟨fun h => by omega, fun h => by omega⟩⟩
              · exact ⟨1, .inr rfl, up (fun k => by rw [start, if_neg c1, if_neg c2, if_neg c3, if_pos c4, if_neg c, if_pos d, if_neg g]), fun _ => by omega, fun h => by omega, fun h => absurd h c1, fun _ => ⟨fun _ => by omega, fun h => by omega⟩⟩
            · exact ⟨0, .inl rfl, dn (fun k => by rw [start, if_neg c1, if_neg c2, if_neg c3, if_pos c4, if_neg c, if_neg d]), fun h => by omega, fun h => rfl, fun h => absurd h c1, fun _ => ⟨fun h => by omega, fun h => by omega⟩⟩
        · exact ⟨0, .inl rfl, dn (fun k => by rw [start, if_neg c1, if_neg c2, if_neg c3, if_neg c4]), fun h => by omega, fun h => rfl, fun h => absurd h c1, fun h => by omega⟩
theorem cents_of : Ev (fun k => mootkeep1_cents.f k) true := by
  have hp : parts_ 3 [1, 1] = [2, 1] := by
    have ho : ordr 3 [1, 1] = [0, 1] := by
      unfold ordr slices_SortStableFunc_int_int.srt Sort.insertionSort
      rw [show (idx ([1, 1] : List Int).length).toArray = #[0, 1] from rfl, show (idx ([1, 1] : List Int).length).length = 2 from rfl, Sort.insOuter, if_pos (by decide), Sort.insOuter, if_neg (by decide)]
      decide +kernel
    unfold parts_
    rw [ho]
    decide
  have hs := split_of 3 (by omega) (by omega) [1, 1] (fun w hw => by simp at hw; omega) (by simp) (by simp) (by decide)
  rw [hp] at hs
  obtain ⟨u, hu, hr, h1, h2, h3, h4⟩ := round_of 7 2 5 (by omega) (by omega) (by omega) (by omega) (by omega) (by omega)
  have hu0 : u = 0 := by
    rcases hu with h | h
    · exact h
    · have := (h4 (by omega)).1 h; omega
  subst hu0
  simp only [mootkeep1_cents.f]
  refine Ev.bind hs (Ev.bind hr (Ev.ifp rfl ?_))
  have he : Ev (fun k => slices_Equal_int_int.f k [2, 1] [2, 1]) true := by
    simp only [slices_Equal_int_int.f]
    refine Ev.ifp (by simp) ?_
    refine Ev.step (f := fun k => slices_Equal_int_int.l0 k [2, 1] [2, 1] 2 1) (fun k => ?_) (Ev.step (f := fun k => slices_Equal_int_int.l0 k [2, 1] [2, 1] 2 2) (fun k => ?_) (Ev.step (f := fun _ => some true) (fun k => ?_) (Ev.now _)))
    · simp [slices_Equal_int_int.l0, wrap64]
    · simp [slices_Equal_int_int.l0, wrap64]
    · simp [slices_Equal_int_int.l0]
  exact Ev.bind he (Ev.ifp rfl (Ev.ifp rfl (Ev.to (by decide))))
theorem u64w {x : Int} (h0 : 0 ≤ x) (h1 : x < 18446744073709551616) : IntKind.u64.wrap x = x := by change x % 18446744073709551616 = x; omega
theorem uand (x : Int) (h0 : 0 ≤ x) (h1 : x < 18446744073709551616) : Go.bits .and .u64 x 4294967295 = x % 4294967296 :=
  Go.bits_mask .u64 64 (by decide) (fun n h0 h1 => u64w h0 (by simpa using h1)) 32 (by decide) x h0 (by simpa using h1)
theorem mul64_of (a b : Int) (ha0 : 0 ≤ a) (ha : a ≤ 2199023255552) (hb0 : 0 ≤ b) (hb : b ≤ 1000000) : bits_Mul64.f a b = some (0, a * b) := by
  obtain ⟨ah, hah⟩ : ∃ x, x = a / 4294967296 := ⟨_, rfl⟩
  obtain ⟨al, hal⟩ : ∃ x, x = a % 4294967296 := ⟨_, rfl⟩
  obtain ⟨p, hp⟩ : ∃ x, x = ah * b := ⟨_, rfl⟩
  obtain ⟨q, hq⟩ : ∃ x, x = al * b := ⟨_, rfl⟩
  have e1 : a * b = p * 4294967296 + q := by
    rw [hp, hq, show a = ah * 4294967296 + al by omega, Int.add_mul, Int.mul_right_comm]
  have p0 : 0 ≤ p := by rw [hp]; exact Int.mul_nonneg (by omega) hb0
  have q0 : 0 ≤ q := by rw [hq]; exact Int.mul_nonneg (by omega) hb0
  have p1 : p ≤ 512 * 1000000 := by rw [hp]; exact Int.mul_le_mul (by omega) hb hb0 (by omega)
  have q1 : q ≤ 4294967295 * 1000000 := by rw [hq]; exact Int.mul_le_mul (by omega) hb hb0 (by omega)
  unfold bits_Mul64.f
  rw [uand a ha0 (by omega), uand b hb0 (by omega), ← hah, ← hal, show b / 4294967296 = 0 by omega, show b % 4294967296 = b by omega, ← hp, ← hq, Int.mul_zero, Int.mul_zero,
    u64w (x := 0) (by omega) (by omega), u64w p0 (by omega), u64w q0 (by omega), u64w (x := p + q / 4294967296) (by omega) (by omega), uand _ (by omega) (by omega), u64w (x := 0 + _) (by omega) (by omega), u64w (x := (p + q / 4294967296) % 4294967296 + 0) (by omega) (by omega), u64w (by omega) (by omega), u64w (x := a * b) (by omega) (by omega)]
  congr 2; omega
theorem part_j4 (q : Int) (h0 : 0 ≤ q) (h1 : q ≤ 1099511627775) (b : Bool) : Ev (fun k => cash_Part.j4 k q b) (if b = true then q + 1 else q, 0) := by
  have hL : ∀ x : Int, 0 ≤ x → x ≤ 1099511627776 → cash_large.f x = some false := fun x x0 x1 => by
    unfold cash_large.f
    rw [if_neg (by omega), decide_eq_false (by omega)]
  refine Ev.step (f := fun _ => some (if b = true then q + 1 else q, 0)) (fun k => ?_) (Ev.now _)
  simp only [cash_Part.j4]
  rw [w64 (x := q + 1) (by omega) (by omega), hL (q + 1) (by omega) (by omega), hL q h0 (by omega)]
  cases b <;> simp
theorem part_j3 (n D q r way : Int) (hw : way = 0 ∨ way = 1) (h0 : 0 ≤ q) (h1 : q ≤ 1099511627775) (r0 : 0 ≤ r) (r1 : r ≤ 1000000) (b : Bool) (hb : b = true ∨ way = 0 ∨ 2 * r ≠ D) : Ev (fun k => cash_Part.j3 k n D way q r b) (if b = true then q + 1 else q, 0) := by
  have h4 := part_j4 q h0 h1 b
  refine Ev.step (f := fun k => cash_Part.j4 k q b) (fun k => ?_) h4
  simp only [cash_Part.j3]
  rw [w64 (x := 2 * r) (by omega) (by omega)]
  by_cases hd : 2 * r = D
  · rw [if_pos hd]
    cases b with
    | true => rw [if_pos rfl]
    | false =>
      have : way = 0 := by rcases hb with h | h | h; · exact absurd h (by decide)
                           · exact h
                           · exact absurd hd h
      subst this
      simp
  · rw [if_neg hd]
theorem part_of (n a D way : Int) (hw : way = 0 ∨ way = 1) (n0 : 0 ≤ n) (n1 : n ≤ 1073741824) (a0 : 0 ≤ a) (a1 : a ≤ 1000) (d0 : 1 ≤ D) (d1 : D ≤ 10000) :
    Ev (fun k => cash_Part.f k n a D way) (if way = 1 ∧ 0 < n * a % D then n * a / D + 1 else n * a / D, 0) := by
  have hp : 0 ≤ n * a := Int.mul_nonneg n0 a0
  have hp1 : n * a ≤ 1073741824 * 1000 := Int.mul_le_mul n1 a1 a0 (by omega)
  have q0 : 0 ≤ n * a / D := Int.ediv_nonneg hp (by omega)
  have q1 : n * a / D ≤ n * a := Int.ediv_le_self _ hp
  have r0 := Int.emod_nonneg (n * a) (show D ≠ 0 by omega)
  have r1 := Int.emod_lt_of_pos (n * a) (show 0 < D by omega)
  have hL : cash_large.f n = some false := by
    unfold cash_large.f
    rw [if_neg (by omega), decide_eq_false (by omega)]
  have hmx : mx n (wrap64 (-n)) = n := by rw [w64 (x := -n) (by omega) (by omega)]; unfold mx; split <;> omega
  have hd : bits_Div64.f 0 (n * a) D = some (n * a / D, n * a % D) := by
    unfold bits_Div64.f
    rw [if_pos ⟨rfl, hp, by omega, by omega, by omega⟩]
  have h2 : Ev (fun k => cash_Part.j2 k n D way (n * a / D) (n * a % D)) (if way = 1 ∧ 0 < n * a % D then n * a / D + 1 else n * a / D, 0) := by
    rcases hw with h | h
    · subst h
      rw [if_neg (by omega)]
      have h3 := part_j3 n D (n * a / D) (n * a % D) 0 (.inl rfl) q0 (by omega) r0 (by omega) false (.inr (.inl rfl))
      refine Ev.step (fun k => ?_) h3
      simp only [cash_Part.j2]
      by_cases c : n * a % D > 0
      · rw [if_pos c, if_neg (by decide)]
        split
        · rfl
        · rfl
      · rw [if_neg c]
        split
        · rfl
        · rfl
    · subst h
      by_cases c : n * a % D > 0
      · rw [if_pos ⟨rfl, c⟩]
        have h3 := part_j3 n D (n * a / D) (n * a % D) 1 (.inr rfl) q0 (by omega) r0 (by omega) true (.inl rfl)
        refine Ev.step (fun k => ?_) h3
        simp only [cash_Part.j2]
        rw [if_pos c, if_pos trivial]
      · rw [if_neg (fun h => c h.2)]
        have h3 := part_j3 n D (n * a / D) (n * a % D) 1 (.inr rfl) q0 (by omega) r0 (by omega) false (.inr (.inr (by omega)))
        refine Ev.step (fun k => ?_) h3
        simp only [cash_Part.j2]
        rw [if_neg c, w64 (x := 2 * (n * a % D)) (by omega) (by omega), if_neg (by omega)]
  have h1 : Ev (fun k => cash_Part.j1 k n D way (n * a / D) (n * a % D)) (if way = 1 ∧ 0 < n * a % D then n * a / D + 1 else n * a / D, 0) := by
    refine Ev.step (fun k => ?_) h2
    simp only [cash_Part.j1]
    rw [if_neg (by omega)]
  simp only [cash_Part.f]
  refine Ev.ifn (by omega) (Ev.ifn (by omega) (Ev.ifn (by omega) (Ev.ifn (by omega) (Ev.ifn (by omega) (Ev.step (fun k => ?_) h1)))))
  simp only [cash_Part.j0]
  rw [decide_eq_false (by omega), if_neg (by decide), hL]
  simp only [Option.bind_some]
  rw [if_neg (by decide), if_neg (by omega), hmx, u64w n0 (by omega), u64w a0 (by omega), u64w (x := D) (by omega) (by omega), mul64_of n a n0 (by omega) a0 (by omega)]
  simp only [Option.bind_some]
  rw [if_neg (by omega), hd]
  simp only [Option.bind_some]
  rw [if_neg (by omega), if_neg (by omega), w64 (x := n * a / D) (by omega) (by omega), w64 (x := n * a % D) (by omega) (by omega)]
theorem two_parts (n a b : Int) (n0 : 0 ≤ n) (ha : 0 ≤ a ∧ a ≤ 1048576) (hb : 1 ≤ b ∧ b ≤ 1048576) : rd (parts_ n [a, b]) 0 = n * a / (a + b) ∨ rd (parts_ n [a, b]) 0 = n * a / (a + b) + 1 ∧ 0 < n * a % (a + b) := by
  have hS : ([a, b] : List Int).sum = a + b := by simp
  have hg : GoodW [a, b] := fun w hw => by simp at hw; rcases hw with h | h <;> omega
  have hl := left_range n n0 [a, b] hg (by rw [hS]; omega)
  have hlen := ordr_len n [a, b]
  have hq : qs n (a + b) [a, b] = [n * a / (a + b), n * b / (a + b)] := rfl
  have e1 := Int.mul_ediv_add_emod (n * a) (a + b)
  have e2 := Int.mul_ediv_add_emod (n * b) (a + b)
  have s1 := Int.emod_nonneg (n * a) (show a + b ≠ 0 by omega)
  have s2 := Int.emod_lt_of_pos (n * a) (show 0 < a + b by omega)
  have s3 := Int.emod_nonneg (n * b) (show a + b ≠ 0 by omega)
  have s4 := Int.emod_lt_of_pos (n * b) (show 0 < a + b by omega)
  have hle : left n [a, b] = n - (n * a / (a + b) + n * b / (a + b)) := by unfold left; rw [hS, hq]; simp
  have hm : (a + b) * left n [a, b] = n * a % (a + b) + n * b % (a + b) := by
    rw [hle, Int.mul_sub, Int.mul_add (a + b), Int.mul_comm (a + b) n, Int.mul_add n]
    omega
  have hl1 : left n [a, b] ≤ 1 := by
    refine Int.not_lt.1 fun h => ?_
    have : (a + b) * 2 ≤ (a + b) * left n [a, b] := Int.mul_le_mul_of_nonneg_left (by omega) (by omega)
    omega
  unfold parts_
  rw [hS, hq]
  rcases (show left n [a, b] = 0 ∨ left n [a, b] = 1 by omega) with h | h
  · rw [h]
    left
    simp [rd]
  · rw [h] at hm ⊢
    obtain ⟨z, l, hz⟩ : ∃ z l, ordr n [a, b] = z :: l := by
      cases hc : ordr n [a, b] with
      | nil => rw [hc] at hlen; simp at hlen
      | cons z l => exact ⟨z, l, rfl⟩
    have hzm := ordr_mem n [a, b] (by simp) z (by rw [hz]; simp)
    rw [hz]
    simp only [Int.toNat_one, List.take_succ_cons, List.take_zero, List.foldl_cons, List.foldl_nil]
    rcases (show z = 0 ∨ z = 1 by simp at hzm; omega) with h0 | h0
    · subst h0
      right
      refine ⟨by simp [bump, rd], by omega⟩
    · subst h0
      left
      simp [bump, rd]
theorem CashScaled : mootkeep1_CashScaled.Pure := by
  intro a0 a1 a2
  intros
  have r0 := below_range a0 1073741824 (by omega)
  have r1 := below_range a1 1000 (by omega)
  have r2 := below_range a2 1000 (by omega)
  obtain ⟨n, hn⟩ : ∃ n, n = a0 % 1073741824 := ⟨_, rfl⟩
  obtain ⟨a, ha⟩ : ∃ a, a = a1 % 1000 := ⟨_, rfl⟩
  obtain ⟨b, hb⟩ : ∃ b, b = 1 + a2 % 1000 := ⟨_, rfl⟩
  have hg : GoodW [a, b] := fun w hw => by simp at hw; rcases hw with h | h <;> omega
  have hS : ([a, b] : List Int).sum = a + b := by simp
  have h1 := split_of n (by omega) (by omega) [a, b] hg (by simp) (by simp) (by rw [hS]; omega)
  have hl := (parts_sum n (by omega) [a, b] hg (by simp) (by rw [hS]; omega)).2
  have h2 := part_of n a (a + b) 0 (.inl rfl) (by omega) (by omega) (by omega) (by omega) (by omega) (by omega)
  have h3 := part_of n a (a + b) 1 (.inr rfl) (by omega) (by omega) (by omega) (by omega) (by omega) (by omega)
  have h4 := two_parts n a b (by omega) (by omega) (by omega)
  rw [if_neg (by omega)] at h2
  refine Ev.rounds (g := fun k => mootkeep1_CashScaled.f k a0 a1 a2) ?_
  simp only [mootkeep1_CashScaled.f]
  rw [below_of _ _ (by omega) (by omega), below_of _ _ (by omega) (by omega), below_of _ _ (by omega) (by omega)]
  simp only [Option.bind_some]
  rw [w64 (x := 1 + a2 % 1000) (by omega) (by omega), ← hn, ← ha, ← hb, w64 (x := a + b) (by omega) (by omega)]
  refine Ev.bind h1 (Ev.bind h2 (Ev.bind h3 (Ev.bind cents_of (Ev.ifp rfl (Ev.ifp rfl (Ev.ifp rfl (Ev.ifp rfl (Ev.ifp ?_ (Ev.ifp ?_ ?_)))))))))
  · show ((parts_ n [a, b]).length : Int) = 2
    rw [hl]; rfl
  · show (0 : Int) < ((parts_ n [a, b]).length : Int)
    rw [hl]; simp
  · simp only
    rcases h4 with h | ⟨h, hr⟩
    · exact Ev.ifp h (Ev.now _)
    · refine Ev.ifn (by omega) (Ev.to ?_)
      rw [h, if_pos ⟨trivial, hr⟩]
      simp
end Go.Proofs.Ytaljkilnpfmlaaa.Pure
