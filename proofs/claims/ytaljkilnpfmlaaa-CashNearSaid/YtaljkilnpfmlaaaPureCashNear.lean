/-
A rounded amount is a multiple, less than one multiple away, at most half of one when the nearest is taken, and lies between that towards less and that towards more, whatever numbers come in.
-/
import Derived.Test.YtaljkilnpfmlaaaPCashNearx3
set_option linter.unusedVariables false
set_option linter.unusedSimpArgs false
namespace Go.Proofs.Ytaljkilnpfmlaaa.Pure
open Go.RowKit Go.Proofs.Ytaljkilnpfmlaaa.PCashNear Go.Proofs.YtaljkilnpfmlaaaW.PrintWords Go.Proofs.YtaljkilnpfmlaaaW.PrintLast
/-- numbers that need no wrap -/
theorem w64 {x : Int} (h1 : -9223372036854775808 ≤ x) (h2 : x ≤ 9223372036854775807) : wrap64 x = x := by unfold wrap64; omega
theorem tdivnn {a b : Int} (h : 0 ≤ a) : Int.tdiv a b = a / b := Int.tdiv_eq_ediv_of_nonneg h
theorem tmodnn {a b : Int} (h : 0 ≤ a) : Int.tmod a b = a % b := Int.tmod_eq_emod_of_nonneg h
theorem Ev.ifp {α : Type} {c : Prop} [Decidable c] {a b : Nat → Option α} {r : α} (h : c) (k : Ev a r) : Ev (fun n => if c then a n else b n) r := Ev.congr (fun n => by rw [if_pos h]) k
theorem Ev.ifn {α : Type} {c : Prop} [Decidable c] {a b : Nat → Option α} {r : α} (h : ¬ c) (k : Ev b r) : Ev (fun n => if c then a n else b n) r := Ev.congr (fun n => by rw [if_neg h]) k
theorem Ev.to {α : Type} {a b : α} (h : a = b) : Ev (fun _ => some a) b := h ▸ Ev.now a
theorem below_of (x n : Int) (h0 : 0 < n) (h1 : n ≤ 4611686018427387904) : mootmake_Below.f x n = some (x % n) := by
  have hr := Int.emod_nonneg x (show n ≠ 0 by omega)
  have hl := Int.emod_lt_of_pos x h0
  unfold mootmake_Below.f
  rw [if_neg (by omega), Int.tmod_eq_emod]
  by_cases h : 0 ≤ x ∨ n ∣ x
  · rw [if_pos h, show x % n - ((0 : Nat) : Int) = x % n from by omega, if_neg (by omega)]
  · have h3 : x % n ≠ 0 := fun e => h (.inr (Int.dvd_of_emod_eq_zero e))
    rw [if_neg h, if_pos (by omega), w64 (by omega) (by omega)]
    congr 1; omega
theorem below_range (x n : Int) (h0 : 0 < n) : 0 ≤ x % n ∧ x % n < n := ⟨Int.emod_nonneg x (by omega), Int.emod_lt_of_pos x h0⟩
theorem rd_app (p : List Int) (x : Int) (l : List Int) : rd (p ++ x :: l) (p.length : Int) = x := by
  unfold rd
  simp
theorem set_app (p : List Int) (x v : Int) (l : List Int) : (p ++ x :: l).set ((p.length : Int)).toNat v = p ++ v :: l := by simp
theorem app1 (p : List Int) (x : Int) (l : List Int) : p ++ x :: l = (p ++ [x]) ++ l := by simp
/-- each weight is valid -/
def GoodW (ws : List Int) : Prop := ∀ w ∈ ws, 0 ≤ w ∧ w ≤ 1048576
theorem sum_range : ∀ ws : List Int, GoodW ws → 0 ≤ ws.sum ∧ ws.sum ≤ 1048576 * ws.length
  | [], _ => by simp
  | w :: l, h => by
    have h1 := h w (by simp)
    have h2 := sum_range l (fun x hx => h x (by simp [hx]))
    simp only [List.sum_cons, List.length_cons]
    omega
theorem split_l0 (n : Int) (hn : 0 ≤ n) (ws : List Int) (hw : GoodW ws) (hlen : ws.length ≤ 1000) (hS : ws.sum ≠ 0) (r : List Int × Int) (hr : Ev (fun k => cash_Split.j2 k 1 n ws ws.sum) r) : ∀ (l p : List Int), p ++ l = ws → Ev (fun k => cash_Split.l0 k ws (ws.length : Int) (p.length : Int) n ws p.sum) r
  | [], p, h => by
    have h' : p = ws := by simpa using h
    subst h'
    refine Ev.step (fun k => ?_) hr
    simp only [cash_Split.l0]
    rw [if_neg (by omega), if_neg hS, if_neg (by omega)]
  | x :: l, p, h => by
    have hx := hw x (by rw [← h]; simp)
    have hl : ws.length = p.length + (l.length + 1) := by rw [← h]; simp
    have hp := sum_range p (fun z hz => hw z (by rw [← h]; simp [hz]))
    have hrd : rd ws (p.length : Int) = x := by rw [← h]; exact rd_app p x l
    have := split_l0 n hn ws hw hlen hS r hr l (p ++ [x]) (by rw [← app1]; exact h)
    refine Ev.step (fun k => ?_) this
    simp only [cash_Split.l0]
    rw [if_pos (by omega), if_pos (by omega), if_pos (by omega), hrd, if_neg (by omega), if_neg (by omega), w64 (x := (p.length : Int) + 1) (by omega) (by omega), w64 (x := p.sum + x) (by omega) (by omega)]
    simp
def qs (n S : Int) (ws : List Int) : List Int := ws.map fun w => n * w / S
def idx : Nat → List Int
  | 0 => []
  | n + 1 => idx n ++ [(n : Int)]
theorem idx_len : ∀ n, (idx n).length = n
  | 0 => rfl
  | n + 1 => by simp [idx, idx_len n]
theorem idx_mem : ∀ n (z : Int), z ∈ idx n → 0 ≤ z ∧ z < n
  | 0, z, h => by simp [idx] at h
  | n + 1, z, h => by
    simp only [idx, List.mem_append, List.mem_singleton] at h
    rcases h with h | h
    · have := idx_mem n z h; omega
    · omega
theorem zeros_succ (n : Nat) : List.replicate (n + 1) (0 : Int) = 0 :: List.replicate n 0 := rfl
theorem q_range {n S w : Int} (hn : 0 ≤ n) (hS : 0 < S) (w0 : 0 ≤ w) (w1 : w ≤ S) : 0 ≤ n * w / S ∧ n * w / S ≤ n := by
  have h0 : 0 ≤ n * w := Int.mul_nonneg hn w0
  constructor
  · exact Int.ediv_nonneg h0 (by omega)
  · refine Int.ediv_le_of_le_mul hS ?_
    exact Int.mul_le_mul_of_nonneg_left w1 hn
theorem qs_sum {n S : Int} (hn : 0 ≤ n) (hS : 0 < S) : ∀ ws : List Int, GoodW ws → S * (qs n S ws).sum ≤ n * ws.sum ∧ n * ws.sum ≤ S * (qs n S ws).sum + ws.length * (S - 1)
  | [], _ => by simp [qs]
  | w :: l, h => by
    have ih := qs_sum hn hS l (fun x hx => h x (by simp [hx]))
    have e := Int.mul_ediv_add_emod (n * w) S
    have e1 := Int.emod_nonneg (n * w) (show S ≠ 0 by omega)
    have e2 := Int.emod_lt_of_pos (n * w) hS
    have hq : (qs n S (w :: l)).sum = n * w / S + (qs n S l).sum := by simp [qs]
    have hl : (((w :: l).length : Nat) : Int) * (S - 1) = l.length * (S - 1) + (S - 1) := by
      rw [List.length_cons, Int.natCast_add, Int.add_mul]; simp
    rw [hq, hl, List.sum_cons, Int.mul_add, Int.mul_add]
    omega
/-- one more for a place -/
def bump (c : List Int) (i : Int) : List Int := c.set i.toNat (rd c i + 1)
theorem set_rd (c : List Int) (i : Int) (h0 : 0 ≤ i) (h1 : i < c.length) : c.set i.toNat (rd c i) = c := by
  unfold rd
  have hlt : i.toNat < c.length := by omega
  rw [List.getD_eq_getElem?_getD, List.getElem?_eq_getElem hlt]
  simp
theorem split_l3 (c : List Int) (hc : ∀ x ∈ c, -9223372036854775808 ≤ x ∧ x ≤ 9223372036854775807) (hl : c.length ≤ 1000000) (n : Nat) : ∀ i : Int, 0 ≤ i → i + n = c.length → Ev (fun k => cash_Split.l3 k 1 c (c.length : Int) i) (c, 0) := by
  induction n with
  | zero =>
    intro i h0 h1
    refine Ev.step (f := fun _ => some (c, 0)) (fun k => ?_) (Ev.now _)
    simp only [cash_Split.l3]
    rw [if_neg (by omega)]
  | succ n ih =>
    intro i h0 h1
    have hm : rd c i ∈ c := by
      unfold rd
      have hlt : i.toNat < c.length := by omega
      rw [List.getD_eq_getElem?_getD, List.getElem?_eq_getElem hlt]
      simp
    have hb := hc _ hm
    have := ih (i + 1) (by omega) (by omega)
    refine Ev.step (fun k => ?_) this
    simp only [cash_Split.l3]
    rw [if_pos (by omega), if_pos h0, if_pos (by omega), Int.mul_one, w64 hb.1 hb.2, set_rd c i h0 (by omega), w64 (x := i + 1) (by omega) (by omega)]
theorem rd_mem (c : List Int) (i : Int) (h0 : 0 ≤ i) (h1 : i < c.length) : rd c i ∈ c := by
  unfold rd
  have hlt : i.toNat < c.length := by omega
  rw [List.getD_eq_getElem?_getD, List.getElem?_eq_getElem hlt]
  simp
theorem bump_mem {c : List Int} {i B : Int} (h0 : 0 ≤ i) (h1 : i < c.length) (hc : ∀ x ∈ c, 0 ≤ x ∧ x ≤ B) : ∀ x ∈ bump c i, 0 ≤ x ∧ x ≤ B + 1 := by
  intro x hx
  unfold bump at hx
  rcases List.mem_or_eq_of_mem_set hx with h | h
  · have := hc x h; omega
  · have := hc _ (rd_mem c i h0 h1); omega
theorem split_l2 (o y : List Int) (hy : y.length ≤ 1000) (B : Int) (hB : B ≤ 4000000000000) (L : Nat) (hL : L ≤ 1000) : ∀ (l p c : List Int), p ++ l = y → (∀ z ∈ l, 0 ≤ z ∧ z < L) → c.length = L → (∀ x ∈ c, 0 ≤ x ∧ x ≤ B + p.length) → Ev (fun k => cash_Split.l2 k 1 c o y (y.length : Int) (p.length : Int)) (l.foldl bump c, 0)
  | [], p, c, h, _, hc, hb => by
    have h' : p = y := by simpa using h
    subst h'
    have h3 := split_l3 c (fun x hx => by have := hb x hx; omega) (by omega) c.length 0 (by omega) (by omega)
    refine Ev.step (fun k => ?_) h3
    simp only [cash_Split.l2]
    rw [if_neg (by omega)]
  | z :: l, p, c, h, hz, hc, hb => by
    have hl : y.length = p.length + (l.length + 1) := by rw [← h]; simp
    have hrd : rd y (p.length : Int) = z := by rw [← h]; exact rd_app p z l
    have hz0 := hz z (by simp)
    have hm := hb _ (rd_mem c z hz0.1 (by omega))
    have := split_l2 o y hy B hB L hL l (p ++ [z]) (bump c z) (by rw [← app1]; exact h) (fun w hw => hz w (by simp [hw])) (by simp [bump, hc]) (fun x hx => by
      have := bump_mem hz0.1 (by omega) hb x hx
      simp only [List.length_append, List.length_cons, List.length_nil]
      omega)
    refine Ev.step (fun k => ?_) this
    simp only [cash_Split.l2]
    rw [if_pos (by omega), if_pos (by omega), if_pos (by omega), hrd, if_pos hz0.1, if_pos (by omega), w64 (x := rd c z + 1) (by omega) (by omega), w64 (x := (p.length : Int) + 1) (by omega) (by omega)]
    simp [bump]
theorem bump_sum (c : List Int) (i : Int) (h0 : 0 ≤ i) (h1 : i < c.length) : (bump c i).sum = c.sum + 1 := by
  obtain ⟨k, rfl⟩ : ∃ k : Nat, i = k := ⟨i.toNat, by omega⟩
  have hk : k < c.length := by omega
  obtain ⟨p, x, l, rfl, hp⟩ : ∃ p x l, c = p ++ x :: l ∧ p.length = k := ⟨c.take k, c[k], c.drop (k + 1), by rw [← List.drop_eq_getElem_cons hk]; exact (List.take_append_drop k c).symm, by simp; omega⟩
  subst hp
  unfold bump
  rw [rd_app, set_app]
  simp
  omega
theorem bumps_sum (L : Nat) : ∀ (l c : List Int), (∀ z ∈ l, 0 ≤ z ∧ z < L) → c.length = L → (l.foldl bump c).sum = c.sum + l.length ∧ (l.foldl bump c).length = L
  | [], c, _, h => by simp [h]
  | z :: l, c, hz, h => by
    have h0 := hz z (by simp)
    have := bumps_sum L l (bump c z) (fun w hw => hz w (by simp [hw])) (by simp [bump, h])
    rw [List.foldl_cons, List.length_cons]
    have h2 := bump_sum c z h0.1 (by omega)
    omega
/-- the order in which what is left is given -/
def ordr (n : Int) (ws : List Int) : List Int := slices_SortStableFunc_int_int.srt n ws ws.sum (idx ws.length)
theorem nm_mem (m : Nat) (hm : 1 ≤ m) (z : Int) : 0 ≤ slices_SortStableFunc_int_int.nm m z ∧ slices_SortStableFunc_int_int.nm m z < m := by
  unfold slices_SortStableFunc_int_int.nm
  split <;> omega
theorem ordr_mem (n : Int) (ws : List Int) (h : 1 ≤ ws.length) (z : Int) (hz : z ∈ ordr n ws) : 0 ≤ z ∧ z < ws.length := by
  unfold ordr slices_SortStableFunc_int_int.srt at hz
  obtain ⟨x, _, rfl⟩ := List.mem_map.1 hz
  exact nm_mem _ h x
def left (n : Int) (ws : List Int) : Int := n - (qs n ws.sum ws).sum
theorem left_range (n : Int) (hn : 0 ≤ n) (ws : List Int) (hw : GoodW ws) (hS : 0 < ws.sum) : 0 ≤ left n ws ∧ left n ws ≤ ws.length := by
  have h := qs_sum hn hS ws hw
  have e : ws.sum * left n ws = n * ws.sum - ws.sum * (qs n ws.sum ws).sum := by unfold left; rw [Int.mul_sub, Int.mul_comm ws.sum n]
  constructor
  · refine Int.not_lt.1 fun hl => ?_
    have : ws.sum * left n ws < 0 := Int.mul_neg_of_pos_of_neg hS hl
    omega
  · refine Int.not_lt.1 fun hl => ?_
    have h1 : ws.sum * ((ws.length : Int) + 1) ≤ ws.sum * left n ws := Int.mul_le_mul_of_nonneg_left (by omega) (by omega)
    rw [Int.mul_add, Int.mul_one, Int.mul_comm] at h1
    rw [Int.mul_sub, Int.mul_one] at h
    omega
theorem split_l1 (n : Int) (hn : 0 ≤ n) (hn2 : n ≤ 1099511627776) (ws : List Int) (hw : GoodW ws) (hlen : 1 ≤ ws.length) (hlen2 : ws.length ≤ 19) (hS : 0 < ws.sum) (hso : (ordr n ws).length = ws.length) : ∀ (l p : List Int), p ++ l = ws →
    Ev (fun k => cash_Split.l1 k 1 (qs n ws.sum p ++ List.replicate l.length 0) (idx p.length ++ List.replicate l.length 0) (n - (qs n ws.sum p).sum) ws (ws.length : Int) (p.length : Int) n ws ws.sum) (((ordr n ws).take (left n ws).toNat).foldl bump (qs n ws.sum ws), 0)
  | [], p, h => by
    have h' : p = ws := by simpa using h
    subst h'
    have hl := left_range n hn p hw hS
    have hq : ∀ x ∈ qs n p.sum p, 0 ≤ x ∧ x ≤ 1099511627776 := by
      intro x hx
      obtain ⟨w, hw2, rfl⟩ := List.mem_map.1 hx
      have := q_range hn hS (hw w hw2).1 (by
        have : ∀ (l : List Int), GoodW l → w ∈ l → w ≤ l.sum := by
          intro l
          induction l with
          | nil => intro _ h; simp at h
          | cons a l ih =>
            intro hg hm
            have h1 := hg a (by simp)
            have h2 := sum_range l (fun x hx => hg x (by simp [hx]))
            rcases List.mem_cons.1 hm with rfl | hm
            · simp only [List.sum_cons]; omega
            · have := ih (fun x hx => hg x (by simp [hx])) hm
              simp only [List.sum_cons]; omega
        exact this p hw hw2)
      omega
    have h2 := split_l2 (ordr n p) ((ordr n p).take (left n p).toNat) (by simp; omega) 1099511627776 (by omega) p.length (by omega) ((ordr n p).take (left n p).toNat) [] (qs n p.sum p) rfl (fun z hz => ordr_mem n p hlen z (List.mem_of_mem_take hz)) (by simp [qs]) (fun x hx => by have := hq x hx; simp; omega)
    have hs : slices_SortStableFunc_int_int.f (idx p.length) n p p.sum = some (ordr n p) := by
      unfold slices_SortStableFunc_int_int.f
      rw [if_pos ⟨hlen, by rw [idx_len]; exact hlen2, by rw [idx_len]; exact hlen, by omega, List.all_eq_true.2 fun z hz => decide_eq_true (idx_mem _ z hz)⟩]
      rfl
    simp only [List.length_nil, List.replicate_zero, List.append_nil]
    refine Ev.step (fun k => ?_) h2
    simp only [cash_Split.l1]
    rw [if_neg (by omega), hs]
    simp only [Option.bind_some]
    rw [if_pos (show 0 ≤ n - (qs n p.sum p).sum from hl.1), idx_len, if_pos (show n - (qs n p.sum p).sum ≤ _ from hl.2)]
    rfl
  | x :: l, p, h => by
    have hl : ws.length = p.length + (l.length + 1) := by rw [← h]; simp
    have hx := hw x (by rw [← h]; simp)
    have hgp : GoodW p := fun z hz => hw z (by rw [← h]; simp [hz])
    have hps := sum_range p hgp
    have hrd : rd ws (p.length : Int) = x := by rw [← h]; exact rd_app p x l
    have hlS : (ws.length : Int) ≤ 19 := by omega
    have hqp := qs_sum hn hS p hgp
    have ih := split_l1 n hn hn2 ws hw hlen hlen2 hS hso l (p ++ [x]) (by rw [← app1]; exact h)
    have hnx : 0 ≤ n * x := Int.mul_nonneg hn hx.1
    have hnx2 : n * x ≤ 1099511627776 * 1048576 := Int.mul_le_mul hn2 hx.2 hx.1 (by omega)
    have hq0 : 0 ≤ n * x / ws.sum := Int.ediv_nonneg hnx (by omega)
    have hq1 : n * x / ws.sum ≤ n * x := Int.ediv_le_self _ hnx
    have hlq : (qs n ws.sum p).length = p.length := by simp [qs]
    have hqs : 0 ≤ (qs n ws.sum p).sum ∧ (qs n ws.sum p).sum ≤ n := by
      have hpw : p.sum ≤ ws.sum := by
        rw [← h, List.sum_append]
        have := sum_range (x :: l) (fun z hz => hw z (by rw [← h]; exact List.mem_append_right _ hz))
        omega
      constructor
      · have : ∀ q : List Int, GoodW q → 0 ≤ (qs n ws.sum q).sum := by
          intro q
          induction q with
          | nil => intro _; simp [qs]
          | cons a q ih =>
            intro hg
            have h1 : 0 ≤ n * a / ws.sum := Int.ediv_nonneg (Int.mul_nonneg hn (hg a (by simp)).1) (by omega)
            have h2 := ih (fun z hz => hg z (by simp [hz]))
            have h3 : (qs n ws.sum (a :: q)).sum = n * a / ws.sum + (qs n ws.sum q).sum := by simp [qs]
            omega
        exact this p hgp
      · refine Int.not_lt.1 fun hlt => ?_
        have h1 : ws.sum * (n + 1) ≤ ws.sum * (qs n ws.sum p).sum := Int.mul_le_mul_of_nonneg_left (by omega) (by omega)
        have h2 : n * p.sum ≤ n * ws.sum := Int.mul_le_mul_of_nonneg_left hpw hn
        rw [Int.mul_add, Int.mul_one, Int.mul_comm] at h1
        omega
    refine Ev.step (fun k => ?_) ih
    simp only [cash_Split.l1]
    rw [if_pos (by omega), if_pos (by omega), if_pos (by omega), if_neg (by omega), hrd, w64 (x := n * x) (by omega) (by omega), tdivnn hnx, w64 (x := n * x / ws.sum) (by omega) (by omega)]
    rw [if_pos (by simp [hlq]; omega)]
    simp only [Option.bind_some]
    rw [if_pos (by simp [idx_len]; omega)]
    have e1 : (qs n ws.sum p ++ List.replicate (x :: l).length 0).set ((p.length : Int)).toNat (n * x / ws.sum) = qs n ws.sum (p ++ [x]) ++ List.replicate l.length 0 := by
      have := set_app (qs n ws.sum p) 0 (n * x / ws.sum) (List.replicate l.length 0)
      rw [hlq] at this
      rw [List.length_cons, zeros_succ, this]
      simp [qs]
    have e2 : (idx p.length ++ List.replicate (x :: l).length 0).set ((p.length : Int)).toNat (p.length : Int) = idx (p ++ [x]).length ++ List.replicate l.length 0 := by
      have := set_app (idx p.length) 0 (p.length : Int) (List.replicate l.length 0)
      rw [idx_len] at this
      rw [List.length_cons, zeros_succ, this]
      simp [idx]
    have e3 : rd (qs n ws.sum (p ++ [x]) ++ List.replicate l.length 0) (p.length : Int) = n * x / ws.sum := by
      have := rd_app (qs n ws.sum p) (n * x / ws.sum) (List.replicate l.length 0)
      rw [hlq] at this
      rw [← this]
      simp [qs]
    rw [e1, e2, e3]
    have e4 : (qs n ws.sum (p ++ [x])).sum = (qs n ws.sum p).sum + n * x / ws.sum := by simp [qs]
    rw [e4, w64 (x := n - (qs n ws.sum p).sum - n * x / ws.sum) (by omega) (by omega), w64 (x := (p.length : Int) + 1) (by omega) (by omega)]
    have e5 : n - ((qs n ws.sum p).sum + n * x / ws.sum) = n - (qs n ws.sum p).sum - n * x / ws.sum := by omega
    rw [e5]
    simp
theorem inner_size (lt : Int → Int → Bool) (a : Nat) : ∀ (j : Nat) (d : Array Int), (Sort.insInner lt a j d).size = d.size
  | 0, d => rfl
  | j + 1, d => by
    rw [Sort.insInner]
    split
    · rw [inner_size lt a j, Sort.size_swp]
    · rfl
theorem outer_size (lt : Int → Int → Bool) (a b : Nat) : ∀ (n i : Nat) (d : Array Int), b - i = n → (Sort.insOuter lt a b i d).size = d.size := by
  intro n
  induction n with
  | zero => intro i d h; rw [Sort.insOuter, if_neg (by omega)]
  | succ n ih => intro i d h; rw [Sort.insOuter, if_pos (by omega), ih _ _ (by omega), inner_size]
theorem ordr_len (n : Int) (ws : List Int) : (ordr n ws).length = ws.length := by
  unfold ordr slices_SortStableFunc_int_int.srt Sort.insertionSort
  rw [List.length_map, Array.length_toList, outer_size _ _ _ _ _ _ rfl]
  simp [idx_len]
/-- the parts of an amount that is not negative -/
def parts_ (n : Int) (ws : List Int) : List Int := ((ordr n ws).take (left n ws).toNat).foldl bump (qs n ws.sum ws)
theorem split_of (n : Int) (hn : 0 ≤ n) (hn2 : n ≤ 1099511627776) (ws : List Int) (hw : GoodW ws) (hlen : 1 ≤ ws.length) (hlen2 : ws.length ≤ 19) (hS : 0 < ws.sum) : Ev (fun k => cash_Split.f k n ws) (parts_ n ws, 0) := by
  have h1 := split_l1 n hn hn2 ws hw hlen hlen2 hS (ordr_len n ws) ws [] rfl
  have h2 : Ev (fun k => cash_Split.j2 k 1 n ws ws.sum) (parts_ n ws, 0) := by
    refine Ev.step (fun k => ?_) h1
    simp only [cash_Split.j2]
    rw [if_pos (by omega), if_pos (by omega)]
    simp [qs, idx]
  have h3 := split_l0 n hn ws hw (by omega) (by omega) _ h2 ws [] rfl
  have hL : cash_large.f n = some false := by
    unfold cash_large.f
    rw [if_neg (by omega), decide_eq_false (by omega)]
  simp only [cash_Split.f, hL, Option.bind_some]
  refine Ev.ifn (by decide) (Ev.step (fun k => ?_) h3)
  simp only [cash_Split.j0]
  rw [decide_eq_false (by omega), if_neg (by decide)]
  rfl
theorem parts_sum (n : Int) (hn : 0 ≤ n) (ws : List Int) (hw : GoodW ws) (hlen : 1 ≤ ws.length) (hS : 0 < ws.sum) : (parts_ n ws).sum = n ∧ (parts_ n ws).length = ws.length := by
  have hl := left_range n hn ws hw hS
  have hb := bumps_sum ws.length ((ordr n ws).take (left n ws).toNat) (qs n ws.sum ws) (fun z hz => ordr_mem n ws hlen z (List.mem_of_mem_take hz)) (by simp [qs])
  have ht : (((ordr n ws).take (left n ws).toNat).length : Int) = left n ws := by rw [List.length_take, ordr_len]; omega
  unfold parts_
  refine ⟨?_, hb.2⟩
  rw [hb.1, ht]
  unfold left
  omega
theorem down_of (n m : Int) (h0 : -1099511627776 ≤ n) (h1 : n ≤ 1099511627776) (m0 : 1 ≤ m) (m1 : m ≤ 1099511627776) : cash_down.f n m = some (n / m) := by
  have e := Int.mul_ediv_add_emod n m
  have r0 := Int.emod_nonneg n (show m ≠ 0 by omega)
  have r1 := Int.emod_lt_of_pos n (show 0 < m by omega)
  have q0 : -1099511627776 ≤ n / m ∧ n / m ≤ 1099511627776 := by
    constructor
    · refine Int.not_lt.1 fun hl => ?_
      have : m * (n / m) ≤ m * (-1099511627777) := Int.mul_le_mul_of_nonneg_left (by omega) (by omega)
      have : m * (-1099511627777) ≤ 1 * (-1099511627777) := Int.mul_le_mul_of_nonpos_right m0 (by omega)
      omega
    · refine Int.not_lt.1 fun hl => ?_
      have : m * 1099511627777 ≤ m * (n / m) := Int.mul_le_mul_of_nonneg_left (by omega) (by omega)
      have : 1 * 1099511627777 ≤ m * 1099511627777 := Int.mul_le_mul_of_nonneg_right m0 (by omega)
      omega
  unfold cash_down.f
  rw [if_neg (by omega), Int.tdiv_eq_ediv]
  by_cases hc : 0 ≤ n ∨ m ∣ n
  · rw [if_pos hc, Int.add_zero, w64 (x := n / m) (by omega) (by omega), Int.mul_comm, w64 (x := m * (n / m)) (by omega) (by omega), if_neg (by omega)]
  · have hs : m.sign = 1 := Int.sign_eq_one_of_pos (by omega)
    have hr : n % m ≠ 0 := fun e => hc (.inr (Int.dvd_of_emod_eq_zero e))
    rw [if_neg hc, hs, w64 (x := n / m + 1) (by omega) (by omega), Int.add_mul, Int.mul_comm, Int.one_mul, w64 (x := m * (n / m) + m) (by omega) (by omega), if_pos (by omega), w64 (by omega) (by omega)]
    congr 1
    omega
theorem round_of (n way m : Int) (h0 : -1099511627776 ≤ n) (h1 : n ≤ 1099511627776) (m0 : 1 ≤ m) (m1 : m ≤ 1099511627776) (y0 : 0 ≤ way) (y1 : way < 5) :
    ∃ u : Int, (u = 0 ∨ u = 1) ∧ Ev (fun k => cash_Round.f k n way m) ((n / m + u) * m, 0) ∧ (u = 1 → 0 < n % m) ∧ (way = 0 → u = 0) ∧ (way = 1 → u = 0 → n % m = 0) ∧ (way ≥ 2 → (u = 1 → 2 * (n % m) ≥ m) ∧ (u = 0 → 2 * (n % m) ≤ m)) := by
  have e := Int.mul_ediv_add_emod n m
  have r0 := Int.emod_nonneg n (show m ≠ 0 by omega)
  have r1 := Int.emod_lt_of_pos n (show 0 < m by omega)
  have q0 : -1099511627777 ≤ n / m ∧ n / m ≤ 1099511627777 := by
    have hd := down_of n m h0 h1 m0 m1
    constructor
    · refine Int.not_lt.1 fun hl => ?_
      have : m * (n / m) ≤ m * (-1099511627777) := Int.mul_le_mul_of_nonneg_left (by omega) (by omega)
      have : m * (-1099511627777) ≤ 1 * (-1099511627777) := Int.mul_le_mul_of_nonpos_right m0 (by omega)
      omega
    · refine Int.not_lt.1 fun hl => ?_
      have : m * 1099511627777 ≤ m * (n / m) := Int.mul_le_mul_of_nonneg_left (by omega) (by omega)
      have : 1 * 1099511627777 ≤ m * 1099511627777 := Int.mul_le_mul_of_nonneg_right m0 (by omega)
      omega
  have hL : cash_large.f n = some false := by
    unfold cash_large.f
    rw [if_neg (by omega), decide_eq_false (by omega)]
  have w0 : wrap64 (n / m * m) = n / m * m := by rw [Int.mul_comm]; exact w64 (by omega) (by omega)
  have w1 : wrap64 (wrap64 (n / m + 1) * m) = (n / m + 1) * m := by
    rw [w64 (x := n / m + 1) (by omega) (by omega), Int.add_mul, Int.mul_comm, Int.one_mul]
    exact w64 (by omega) (by omega)
  have w2 : wrap64 (n - n / m * m) = n % m := by rw [Int.mul_comm, w64 (by omega) (by omega)]; omega
  have w3 : wrap64 (2 * (n % m)) = 2 * (n % m) := w64 (by omega) (by omega)
  have main : ∀ (u : Int) (b : Int × Int), b = ((n / m + u) * m, 0) → (∀ k, cash_Round.j0 (k + 1) n way m (decide (m > 1099511627776)) = some b) → Ev (fun k => cash_Round.f k n way m) ((n / m + u) * m, 0) := by
    intro u b hb hj
    subst hb
    simp only [cash_Round.f]
    exact Ev.ifn (by omega) (Ev.ifn (by omega) (Ev.ifn (by omega) (Ev.step hj (Ev.now _))))
  have hz : ((n / m + 0) * m, (0 : Int)) = (n / m * m, 0) := by rw [Int.add_zero]
  have start : ∀ k, cash_Round.j0 (k + 1) n way m (decide (m > 1099511627776)) = (if way = 1 then (if n % m > 0 then some ((n / m + 1) * m, 0) else some (n / m * m, 0)) else (if way = 2 then (if 2 * (n % m) ≥ m then some ((n / m + 1) * m, 0) else some (n / m * m, 0)) else (if way = 3 then (if 2 * (n % m) > m then some ((n / m + 1) * m, 0) else (if 2 * (n % m) = m then (if n > 0 then some ((n / m + 1) * m, 0) else some (n / m * m, 0)) else some (n / m * m, 0))) else (if way = 4 then (if 2 * (n % m) > m then some ((n / m + 1) * m, 0) else (if 2 * (n % m) = m then (if Int.tmod (n / m) 2 = 0 then some (n / m * m, 0) else some ((n / m + 1) * m, 0)) else some (n / m * m, 0))) else some (n / m * m, 0))))) := by
    intro k
    simp only [cash_Round.j0]
    rw [decide_eq_false (by omega), if_neg (by decide), hL]
    simp only [Option.bind_some]
    rw [if_neg (by decide), down_of n m h0 h1 m0 m1]
    simp only [Option.bind_some]
    rw [w0, w1, w2, w3]
  have up : (∀ k, cash_Round.j0 (k + 1) n way m (decide (m > 1099511627776)) = some ((n / m + 1) * m, 0)) → Ev (fun k => cash_Round.f k n way m) ((n / m + 1) * m, 0) := fun h => main 1 _ rfl h
  have dn : (∀ k, cash_Round.j0 (k + 1) n way m (decide (m > 1099511627776)) = some (n / m * m, 0)) → Ev (fun k => cash_Round.f k n way m) ((n / m + 0) * m, 0) := fun h => main 0 _ hz.symm h
  by_cases c1 : way = 1
  · by_cases c : n % m > 0
    · exact ⟨1, .inr rfl, up (fun k => by rw [start, if_pos c1, if_pos c]), fun _ => c, fun h => by omega, fun _ h => by omega, fun h => by omega⟩
    · exact ⟨0, .inl rfl, dn (fun k => by rw [start, if_pos c1, if_neg c]), fun h => by omega, fun h => rfl, fun _ h => by omega, fun h => by omega⟩
  · by_cases c2 : way = 2
    · by_cases c : 2 * (n % m) ≥ m
      · exact ⟨1, .inr rfl, up (fun k => by rw [start, if_neg c1, if_pos c2, if_pos c]), fun _ => by omega, fun h => by omega, fun h => absurd h c1, fun _ => ⟨fun _ => c, fun h => by omega⟩⟩
      · exact ⟨0, .inl rfl, dn (fun k => by rw [start, if_neg c1, if_pos c2, if_neg c]), fun h => by omega, fun h => rfl, fun h => absurd h c1, fun _ => ⟨fun h => by omega, fun h => by omega⟩⟩
    · by_cases c3 : way = 3
      · by_cases c : 2 * (n % m) > m
        · exact ⟨1, .inr rfl, up (fun k => by rw [start, if_neg c1, if_neg c2, if_pos c3, if_pos c]), fun _ => by omega, fun h => by omega, fun h => absurd h c1, fun _ => ⟨fun _ => by omega, fun h => by omega⟩⟩
        · by_cases d : 2 * (n % m) = m
          · by_cases g : n > 0
            · exact ⟨1, .inr rfl, up (fun k => by rw [start, if_neg c1, if_neg c2, if_pos c3, if_neg c, if_pos d, if_pos g]), fun _ => by omega, fun h => by omega, fun h => absurd h c1, fun _ => ⟨fun _ => by omega, fun h => by omega⟩⟩
            · exact ⟨0, .inl rfl, dn (fun k => by rw [start, if_neg c1, if_neg c2, if_pos c3, if_neg c, if_pos d, if_neg g]), fun h => by omega, fun h => rfl, fun h => absurd h c1, fun _ => ⟨fun h => by omega, fun h => by omega⟩⟩
          · exact ⟨0, .inl rfl, dn (fun k => by rw [start, if_neg c1, if_neg c2, if_pos c3, if_neg c, if_neg d]), fun h => by omega, fun h => rfl, fun h => absurd h c1, fun _ => ⟨fun h => by omega, fun h => by omega⟩⟩
      · by_cases c4 : way = 4
        · by_cases c : 2 * (n % m) > m
          · exact ⟨1, .inr rfl, up (fun k => by rw [start, if_neg c1, if_neg c2, if_neg c3, if_pos c4, if_pos c]), fun _ => by omega, fun h => by omega, fun h => absurd h c1, fun _ => ⟨fun _ => by omega, fun h => by omega⟩⟩
          · by_cases d : 2 * (n % m) = m
            · by_cases g : Int.tmod (n / m) 2 = 0
              · exact ⟨0, .inl rfl, dn (fun k => by rw [start, if_neg c1, if_neg c2, if_neg c3, if_pos c4, if_neg c, if_pos d, if_pos g]), fun h => by omega, fun h => rfl, fun h => absurd h c1, fun _ => ⟨fun h => by omega, fun h => by omega⟩⟩
              · exact ⟨1, .inr rfl, up (fun k => by rw [start, if_neg c1, if_neg c2, if_neg c3, if_pos c4, if_neg c, if_pos d, if_neg g]), fun _ => by omega, fun h => by omega, fun h => absurd h c1, fun _ => ⟨fun _ => by omega, fun h => by omega⟩⟩
            · exact ⟨0, .inl rfl, dn (fun k => by rw [start, if_neg c1, if_neg c2, if_neg c3, if_pos c4, if_neg c, if_neg d]), fun h => by omega, fun h => rfl, fun h => absurd h c1, fun _ => ⟨fun h => by omega, fun h => by omega⟩⟩
        · exact ⟨0, .inl rfl, dn (fun k => by rw [start, if_neg c1, if_neg c2, if_neg c3, if_neg c4]), fun h => by omega, fun h => rfl, fun h => absurd h c1, fun h => by omega⟩
theorem cents_of : Ev (fun k => mootkeep1_cents.f k) true := by
  have hp : parts_ 3 [1, 1] = [2, 1] := by
    have ho : ordr 3 [1, 1] = [0, 1] := by
      unfold ordr slices_SortStableFunc_int_int.srt Sort.insertionSort
      rw [show (idx ([1, 1] : List Int).length).toArray = #[0, 1] from rfl, show (idx ([1, 1] : List Int).length).length = 2 from rfl, Sort.insOuter, if_pos (by decide), Sort.insOuter, if_neg (by decide)]
      decide +kernel
    unfold parts_
    rw [ho]
    decide
  have hs := split_of 3 (by omega) (by omega) [1, 1] (fun w hw => by simp at hw; omega) (by simp) (by simp) (by decide)
  rw [hp] at hs
  obtain ⟨u, hu, hr, h1, h2, h3, h4⟩ := round_of 7 2 5 (by omega) (by omega) (by omega) (by omega) (by omega) (by omega)
  have hu0 : u = 0 := by
    rcases hu with h | h
    · exact h
    · have := (h4 (by omega)).1 h; omega
  subst hu0
  simp only [mootkeep1_cents.f]
  refine Ev.bind hs (Ev.bind hr (Ev.ifp rfl ?_))
  have he : Ev (fun k => slices_Equal_int_int.f k [2, 1] [2, 1]) true := by
    simp only [slices_Equal_int_int.f]
    refine Ev.ifp (by simp) ?_
    refine Ev.step (f := fun k => slices_Equal_int_int.l0 k [2, 1] [2, 1] 2 1) (fun k => ?_) (Ev.step (f := fun k => slices_Equal_int_int.l0 k [2, 1] [2, 1] 2 2) (fun k => ?_) (Ev.step (f := fun _ => some true) (fun k => ?_) (Ev.now _)))
    · simp [slices_Equal_int_int.l0, wrap64]
    · simp [slices_Equal_int_int.l0, wrap64]
    · simp [slices_Equal_int_int.l0]
  exact Ev.bind he (Ev.ifp rfl (Ev.ifp rfl (Ev.to (by decide))))
theorem CashNear : mootkeep1_CashNear.Pure := by
  intro a0 a1 a2
  intros
  have r0 := below_range a0 1099511627776 (by omega)
  have r1 := below_range a1 5 (by omega)
  have r2 := below_range a2 1000 (by omega)
  obtain ⟨way, hway⟩ : ∃ y, y = a1 % 5 := ⟨_, rfl⟩
  obtain ⟨m, hm⟩ : ∃ m, m = 1 + a2 % 1000 := ⟨_, rfl⟩
  have key : ∀ n : Int, -1099511627776 ≤ n → n ≤ 1099511627776 → Ev (fun k => mootkeep1_CashNear.j0 k n way m) true := by
    intro n h0 h1
    have e := Int.mul_ediv_add_emod n m
    have s0 := Int.emod_nonneg n (show m ≠ 0 by omega)
    have s1 := Int.emod_lt_of_pos n (show 0 < m by omega)
    obtain ⟨u, hu, hr, g1, g2, g3, g4⟩ := round_of n way m h0 h1 (by omega) (by omega) (by omega) (by omega)
    obtain ⟨u', hu', hr', g1', g2', g3', g4'⟩ := round_of n 0 m h0 h1 (by omega) (by omega) (by omega) (by omega)
    obtain ⟨v, hv, hrv, k1, k2, k3, k4⟩ := round_of n 1 m h0 h1 (by omega) (by omega) (by omega) (by omega)
    have z0 := g2' rfl
    subst z0
    have z1 := k3 rfl
    have a1 : (n / m + u) * m = m * (n / m) + u * m := by rw [Int.add_mul, Int.mul_comm m]
    have a2 : (n / m + 0) * m = m * (n / m) := by rw [Int.add_zero, Int.mul_comm]
    have a3 : (n / m + v) * m = m * (n / m) + v * m := by rw [Int.add_mul, Int.mul_comm m]
    have mod0 : Int.tmod ((n / m + u) * m) m = 0 := Int.mul_tmod_left _ _
    rw [a1] at hr mod0
    rw [a2] at hr'
    rw [a3] at hrv
    have u0 : u * m = 0 ∨ u * m = m := by rcases hu with h | h <;> subst h <;> simp
    have v0 : v * m = 0 ∨ v * m = m := by rcases hv with h | h <;> subst h <;> simp
    have hu2 : u = 0 → u * m = 0 := fun h => by subst h; simp
    have hu3 : u = 1 → u * m = m := fun h => by subst h; simp
    have hv2 : v = 0 → v * m = 0 := fun h => by subst h; simp
    have hv3 : v = 1 → v * m = m := fun h => by subst h; simp
    have p1 := g4
    refine Ev.step (f := fun k => (cash_Round.f k n way m).bind fun bt146 => ((cash_Round.f k n 0 m).bind fun bt148 => ((cash_Round.f k n 1 m).bind fun bt150 => ((mootkeep1_cents.f k).bind fun t152 => (if t152 = true then (if bt146.2 = 0 then (if bt148.2 = 0 then (if bt150.2 = 0 then (if m = 0 then (none) else (if (Int.tmod bt146.1 m) = 0 then (if bt148.1 ≤ bt146.1 then (if bt146.1 ≤ bt150.1 then (if bt148.1 ≤ n then (if n ≤ bt150.1 then (if (mx (wrap64 (bt146.1 - n)) (wrap64 (n - bt146.1))) < m then (if way < 2 then (some true) else (some (decide ((wrap64 (2 * (mx (wrap64 (bt146.1 - n)) (wrap64 (n - bt146.1))))) ≤ m)))) else (some false)) else (some false)) else (some false)) else (some false)) else (some false)) else (some false))) else (some false)) else (some false)) else (some false)) else (some false)))))) (fun k => by simp only [mootkeep1_CashNear.j0]) ?_
    have ux : u = 0 ∨ u = 1 := hu
    have vx : v = 0 ∨ v = 1 := hv
    have hle : m * (n / m) + u * m ≤ m * (n / m) + v * m := by
      rcases ux with h | h
      · have := hu2 h; rcases v0 with h2 | h2 <;> omega
      · have h5 := g1 h
        rcases vx with h6 | h6
        · have := z1 h6; omega
        · have := hu3 h; have := hv3 h6; omega
    have hnv : n ≤ m * (n / m) + v * m := by
      rcases vx with h6 | h6
      · have := z1 h6; have := hv2 h6; omega
      · have := hv3 h6; omega
    have hd : mx (wrap64 (m * (n / m) + u * m - n)) (wrap64 (n - (m * (n / m) + u * m))) < m ∧ (¬ way < 2 → wrap64 (2 * mx (wrap64 (m * (n / m) + u * m - n)) (wrap64 (n - (m * (n / m) + u * m)))) ≤ m) := by
      rw [w64 (x := m * (n / m) + u * m - n) (by omega) (by omega), w64 (x := n - (m * (n / m) + u * m)) (by omega) (by omega)]
      unfold mx
      rcases ux with h | h
      · have h7 := hu2 h
        split
        · refine ⟨by omega, fun hw => ?_⟩
          have := (g4 (by omega)).2 h
          rw [w64 (by omega) (by omega)]; omega
        · refine ⟨by omega, fun hw => ?_⟩
          have := (g4 (by omega)).2 h
          rw [w64 (by omega) (by omega)]; omega
      · have h7 := hu3 h
        have h8 := g1 h
        split
        · refine ⟨by omega, fun hw => ?_⟩
          have := (g4 (by omega)).1 h
          rw [w64 (by omega) (by omega)]; omega
        · refine ⟨by omega, fun hw => ?_⟩
          have := (g4 (by omega)).1 h
          rw [w64 (by omega) (by omega)]; omega
    refine Ev.bind hr (Ev.bind hr' (Ev.bind hrv (Ev.bind cents_of (Ev.ifp rfl (Ev.ifp rfl (Ev.ifp rfl (Ev.ifp rfl (Ev.ifn (by omega) (Ev.ifp mod0 (Ev.ifp ?_ (Ev.ifp ?_ (Ev.ifp ?_ (Ev.ifp ?_ (Ev.ifp ?_ ?_))))))))))))))
    · show m * (n / m) ≤ m * (n / m) + u * m
      rcases u0 with h | h <;> omega
    · exact hle
    · show m * (n / m) ≤ n
      omega
    · exact hnv
    · exact hd.1
    · by_cases hw : way < 2
      · exact Ev.ifp hw (Ev.now _)
      · exact Ev.ifn hw (Ev.to (decide_eq_true (hd.2 hw)))
  refine Ev.rounds (g := fun k => mootkeep1_CashNear.f k a0 a1 a2) ?_
  simp only [mootkeep1_CashNear.f]
  rw [below_of _ _ (by omega) (by omega), below_of _ _ (by omega) (by omega), below_of _ _ (by omega) (by omega)]
  simp only [Option.bind_some]
  rw [w64 (x := -(a0 % 1099511627776)) (by omega) (by omega), w64 (x := 1 + a2 % 1000) (by omega) (by omega), ← hway, ← hm]
  by_cases c : Int.tmod (a0 % 1099511627776) 2 = 1
  · exact Ev.ifp c (key _ (by omega) (by omega))
  · exact Ev.ifn c (key _ (by omega) (by omega))
end Go.Proofs.Ytaljkilnpfmlaaa.Pure
