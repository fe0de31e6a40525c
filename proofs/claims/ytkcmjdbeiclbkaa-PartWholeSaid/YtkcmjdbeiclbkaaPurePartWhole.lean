/-
An estate that is divided by the parts of its heirs is divided whole, for every list and every number.
-/
import Derived.Test.YtkcmjdbeiclbkaaPPartWholex9
set_option linter.unusedVariables false
set_option linter.unusedSimpArgs false
namespace Go.Proofs.Ytkcmjdbeiclbkaa.Pure
open Go.RowKit Go.Proofs.Ytkcmjdbeiclbkaa.PPartWhole Go.Proofs.YtkcmjdbeiclbkaaW.PrintWords Go.Proofs.YtkcmjdbeiclbkaaW.PrintLast
/-- numbers that need no wrap -/
theorem w64 {x : Int} (h1 : -9223372036854775808 ≤ x) (h2 : x ≤ 9223372036854775807) : wrap64 x = x := by unfold wrap64; omega
theorem tdivnn {a b : Int} (h : 0 ≤ a) : Int.tdiv a b = a / b := Int.tdiv_eq_ediv_of_nonneg h
theorem tmodnn {a b : Int} (h : 0 ≤ a) : Int.tmod a b = a % b := Int.tmod_eq_emod_of_nonneg h
theorem Ev.ifp {α : Type} {c : Prop} [Decidable c] {a b : Nat → Option α} {r : α} (h : c) (k : Ev a r) : Ev (fun n => if c then a n else b n) r := Ev.congr (fun n => by rw [if_pos h]) k
theorem Ev.ifn {α : Type} {c : Prop} [Decidable c] {a b : Nat → Option α} {r : α} (h : ¬ c) (k : Ev b r) : Ev (fun n => if c then a n else b n) r := Ev.congr (fun n => by rw [if_neg h]) k
theorem Ev.to {α : Type} {a b : α} (h : a = b) : Ev (fun _ => some a) b := h ▸ Ev.now a
theorem below_of (x n : Int) (h0 : 0 < n) (h1 : n ≤ 4611686018427387904) : mootmake_Below.f x n = some (x % n) := by
  have hr := Int.emod_nonneg x (show n ≠ 0 by omega)
  have hl := Int.emod_lt_of_pos x h0
  unfold mootmake_Below.f
  rw [if_neg (by omega), Int.tmod_eq_emod]
  by_cases h : 0 ≤ x ∨ n ∣ x
  · rw [if_pos h, show x % n - ((0 : Nat) : Int) = x % n from by omega, if_neg (by omega)]
  · have h3 : x % n ≠ 0 := fun e => h (.inr (Int.dvd_of_emod_eq_zero e))
    rw [if_neg h, if_pos (by omega), w64 (by omega) (by omega)]
    congr 1; omega
theorem below_range (x n : Int) (h0 : 0 < n) : 0 ≤ x % n ∧ x % n < n := ⟨Int.emod_nonneg x (by omega), Int.emod_lt_of_pos x h0⟩
theorem drop_rd (l : List Int) (i : Nat) (h : i < l.length) : l.drop i = rd l (i : Int) :: l.drop (i + 1) := by
  rw [List.drop_eq_getElem_cons h]
  unfold rd
  simp [List.getD, h]
theorem w64_succ {i n : Nat} (h : i < n) (hn : n ≤ 9223372036854775807) : wrap64 ((i : Int) + 1) = ((i + 1 : Nat) : Int) := by
  rw [w64 (by omega) (by omega)]; omega
theorem next_of (l : List Int) (n : Int) (h0 : 0 < n) (h1 : n ≤ 4611686018427387904) : ∃ v l', mootmake_Stream_Next.f l n = some (v, l') ∧ 0 ≤ v ∧ v < n := by
  unfold mootmake_Stream_Next.f
  rw [if_neg (by omega)]
  by_cases h : l = []
  · rw [if_pos h]; exact ⟨0, l, rfl, by omega, h0⟩
  · rw [if_neg h, below_of _ _ h0 h1]
    have := below_range (rd l 0) n h0
    exact ⟨_, _, rfl, this.1, this.2⟩
theorem rd_app (p : List Int) (x : Int) (l : List Int) : rd (p ++ x :: l) (p.length : Int) = x := by
  unfold rd
  simp
theorem set_app (p : List Int) (x v : Int) (l : List Int) : (p ++ x :: l).set ((p.length : Int)).toNat v = p ++ v :: l := by simp
theorem app1 (p : List Int) (x : Int) (l : List Int) : p ++ x :: l = (p ++ [x]) ++ l := by simp
/-- each weight is valid -/
def GoodW (ws : List Int) : Prop := ∀ w ∈ ws, 0 ≤ w ∧ w ≤ 1048576
theorem sum_range : ∀ ws : List Int, GoodW ws → 0 ≤ ws.sum ∧ ws.sum ≤ 1048576 * ws.length
  | [], _ => by simp
  | w :: l, h => by
    have h1 := h w (by simp)
    have h2 := sum_range l (fun x hx => h x (by simp [hx]))
    simp only [List.sum_cons, List.length_cons]
    omega
theorem split_l0 (n : Int) (hn : 0 ≤ n) (ws : List Int) (hw : GoodW ws) (hlen : ws.length ≤ 1000) (hS : ws.sum ≠ 0) (r : List Int × Int) (hr : Ev (fun k => cash_Split.j2 k 1 n ws ws.sum) r) : ∀ (l p : List Int), p ++ l = ws → Ev (fun k => cash_Split.l0 k ws (ws.length : Int) (p.length : Int) n ws p.sum) r
  | [], p, h => by
    have h' : p = ws := by simpa using h
    subst h'
    refine Ev.step (fun k => ?_) hr
    simp only [cash_Split.l0]
    rw [if_neg (by omega), if_neg hS, if_neg (by omega)]
  | x :: l, p, h => by
    have hx := hw x (by rw [← h]; simp)
    have hl : ws.length = p.length + (l.length + 1) := by rw [← h]; simp
    have hp := sum_range p (fun z hz => hw z (by rw [← h]; simp [hz]))
    have hrd : rd ws (p.length : Int) = x := by rw [← h]; exact rd_app p x l
    have := split_l0 n hn ws hw hlen hS r hr l (p ++ [x]) (by rw [← app1]; exact h)
    refine Ev.step (fun k => ?_) this
    simp only [cash_Split.l0]
    rw [if_pos (by omega), if_pos (by omega), if_pos (by omega), hrd, if_neg (by omega), if_neg (by omega), w64 (x := (p.length : Int) + 1) (by omega) (by omega), w64 (x := p.sum + x) (by omega) (by omega)]
    simp
def qs (n S : Int) (ws : List Int) : List Int := ws.map fun w => n * w / S
def idx : Nat → List Int
  | 0 => []
  | n + 1 => idx n ++ [(n : Int)]
theorem idx_len : ∀ n, (idx n).length = n
  | 0 => rfl
  | n + 1 => by simp [idx, idx_len n]
theorem idx_mem : ∀ n (z : Int), z ∈ idx n → 0 ≤ z ∧ z < n
  | 0, z, h => by simp [idx] at h
  | n + 1, z, h => by
    simp only [idx, List.mem_append, List.mem_singleton] at h
    rcases h with h | h
    · have := idx_mem n z h; omega
    · omega
theorem zeros_succ (n : Nat) : List.replicate (n + 1) (0 : Int) = 0 :: List.replicate n 0 := rfl
theorem q_range {n S w : Int} (hn : 0 ≤ n) (hS : 0 < S) (w0 : 0 ≤ w) (w1 : w ≤ S) : 0 ≤ n * w / S ∧ n * w / S ≤ n := by
  have h0 : 0 ≤ n * w := Int.mul_nonneg hn w0
  constructor
  · exact Int.ediv_nonneg h0 (by omega)
  · refine Int.ediv_le_of_le_mul hS ?_
    exact Int.mul_le_mul_of_nonneg_left w1 hn
theorem qs_sum {n S : Int} (hn : 0 ≤ n) (hS : 0 < S) : ∀ ws : List Int, GoodW ws → S * (qs n S ws).sum ≤ n * ws.sum ∧ n * ws.sum ≤ S * (qs n S ws).sum + ws.length * (S - 1)
  | [], _ => by simp [qs]
  | w :: l, h => by
    have ih := qs_sum hn hS l (fun x hx => h x (by simp [hx]))
    have e := Int.mul_ediv_add_emod (n * w) S
    have e1 := Int.emod_nonneg (n * w) (show S ≠ 0 by omega)
    have e2 := Int.emod_lt_of_pos (n * w) hS
    have hq : (qs n S (w :: l)).sum = n * w / S + (qs n S l).sum := by simp [qs]
    have hl : (((w :: l).length : Nat) : Int) * (S - 1) = l.length * (S - 1) + (S - 1) := by
      rw [List.length_cons, Int.natCast_add, Int.add_mul]; simp
    rw [hq, hl, List.sum_cons, Int.mul_add, Int.mul_add]
    omega
/-- one more for a place -/
def bump (c : List Int) (i : Int) : List Int := c.set i.toNat (rd c i + 1)
theorem set_rd (c : List Int) (i : Int) (h0 : 0 ≤ i) (h1 : i < c.length) : c.set i.toNat (rd c i) = c := by
  unfold rd
  have hlt : i.toNat < c.length := by omega
  rw [List.getD_eq_getElem?_getD, List.getElem?_eq_getElem hlt]
  simp
theorem split_l3 (c : List Int) (hc : ∀ x ∈ c, -9223372036854775808 ≤ x ∧ x ≤ 9223372036854775807) (hl : c.length ≤ 1000000) (n : Nat) : ∀ i : Int, 0 ≤ i → i + n = c.length → Ev (fun k => cash_Split.l3 k 1 c (c.length : Int) i) (c, 0) := by
  induction n with
  | zero =>
    intro i h0 h1
    refine Ev.step (f := fun _ => some (c, 0)) (fun k => ?_) (Ev.now _)
    simp only [cash_Split.l3]
    rw [if_neg (by omega)]
  | succ n ih =>
    intro i h0 h1
    have hm : rd c i ∈ c := by
      unfold rd
      have hlt : i.toNat < c.length := by omega
      rw [List.getD_eq_getElem?_getD, List.getElem?_eq_getElem hlt]
      simp
    have hb := hc _ hm
    have := ih (i + 1) (by omega) (by omega)
    refine Ev.step (fun k => ?_) this
    simp only [cash_Split.l3]
    rw [if_pos (by omega), if_pos h0, if_pos (by omega), Int.mul_one, w64 hb.1 hb.2, set_rd c i h0 (by omega), w64 (x := i + 1) (by omega) (by omega)]
theorem rd_mem (c : List Int) (i : Int) (h0 : 0 ≤ i) (h1 : i < c.length) : rd c i ∈ c := by
  unfold rd
  have hlt : i.toNat < c.length := by omega
  rw [List.getD_eq_getElem?_getD, List.getElem?_eq_getElem hlt]
  simp
theorem bump_mem {c : List Int} {i B : Int} (h0 : 0 ≤ i) (h1 : i < c.length) (hc : ∀ x ∈ c, 0 ≤ x ∧ x ≤ B) : ∀ x ∈ bump c i, 0 ≤ x ∧ x ≤ B + 1 := by
  intro x hx
  unfold bump at hx
  rcases List.mem_or_eq_of_mem_set hx with h | h
  · have := hc x h; omega
  · have := hc _ (rd_mem c i h0 h1); omega
theorem split_l2 (o y : List Int) (hy : y.length ≤ 1000) (B : Int) (hB : B ≤ 4000000000000) (L : Nat) (hL : L ≤ 1000) : ∀ (l p c : List Int), p ++ l = y → (∀ z ∈ l, 0 ≤ z ∧ z < L) → c.length = L → (∀ x ∈ c, 0 ≤ x ∧ x ≤ B + p.length) → Ev (fun k => cash_Split.l2 k 1 c o y (y.length : Int) (p.length : Int)) (l.foldl bump c, 0)
  | [], p, c, h, _, hc, hb => by
    have h' : p = y := by simpa using h
    subst h'
    have h3 := split_l3 c (fun x hx => by have := hb x hx; omega) (by omega) c.length 0 (by omega) (by omega)
    refine Ev.step (fun k => ?_) h3
    simp only [cash_Split.l2]
    rw [if_neg (by omega)]
  | z :: l, p, c, h, hz, hc, hb => by
    have hl : y.length = p.length + (l.length + 1) := by rw [← h]; simp
    have hrd : rd y (p.length : Int) = z := by rw [← h]; exact rd_app p z l
    have hz0 := hz z (by simp)
    have hm := hb _ (rd_mem c z hz0.1 (by omega))
    have := split_l2 o y hy B hB L hL l (p ++ [z]) (bump c z) (by rw [← app1]; exact h) (fun w hw => hz w (by simp [hw])) (by simp [bump, hc]) (fun x hx => by
      have := bump_mem hz0.1 (by omega) hb x hx
      simp only [List.length_append, List.length_cons, List.length_nil]
      omega)
    refine Ev.step (fun k => ?_) this
    simp only [cash_Split.l2]
    rw [if_pos (by omega), if_pos (by omega), if_pos (by omega), hrd, if_pos hz0.1, if_pos (by omega), w64 (x := rd c z + 1) (by omega) (by omega), w64 (x := (p.length : Int) + 1) (by omega) (by omega)]
    simp [bump]
theorem bump_sum (c : List Int) (i : Int) (h0 : 0 ≤ i) (h1 : i < c.length) : (bump c i).sum = c.sum + 1 := by
  obtain ⟨k, rfl⟩ : ∃ k : Nat, i = k := ⟨i.toNat, by omega⟩
  have hk : k < c.length := by omega
  obtain ⟨p, x, l, rfl, hp⟩ : ∃ p x l, c = p ++ x :: l ∧ p.length = k := ⟨c.take k, c[k], c.drop (k + 1), by rw [← List.drop_eq_getElem_cons hk]; exact (List.take_append_drop k c).symm, by simp; omega⟩
  subst hp
  unfold bump
  rw [rd_app, set_app]
  simp
  omega
theorem bumps_sum (L : Nat) : ∀ (l c : List Int), (∀ z ∈ l, 0 ≤ z ∧ z < L) → c.length = L → (l.foldl bump c).sum = c.sum + l.length ∧ (l.foldl bump c).length = L
  | [], c, _, h => by simp [h]
  | z :: l, c, hz, h => by
    have h0 := hz z (by simp)
    have := bumps_sum L l (bump c z) (fun w hw => hz w (by simp [hw])) (by simp [bump, h])
    rw [List.foldl_cons, List.length_cons]
    have h2 := bump_sum c z h0.1 (by omega)
    omega
/-- the order in which what is left is given -/
def ordr (n : Int) (ws : List Int) : List Int := slices_SortStableFunc_int_int.srt n ws ws.sum (idx ws.length)
theorem nm_mem (m : Nat) (hm : 1 ≤ m) (z : Int) : 0 ≤ slices_SortStableFunc_int_int.nm m z ∧ slices_SortStableFunc_int_int.nm m z < m := by
  unfold slices_SortStableFunc_int_int.nm
  split <;> omega
theorem ordr_mem (n : Int) (ws : List Int) (h : 1 ≤ ws.length) (z : Int) (hz : z ∈ ordr n ws) : 0 ≤ z ∧ z < ws.length := by
  unfold ordr slices_SortStableFunc_int_int.srt at hz
  obtain ⟨x, _, rfl⟩ := List.mem_map.1 hz
  exact nm_mem _ h x
def left (n : Int) (ws : List Int) : Int := n - (qs n ws.sum ws).sum
theorem left_range (n : Int) (hn : 0 ≤ n) (ws : List Int) (hw : GoodW ws) (hS : 0 < ws.sum) : 0 ≤ left n ws ∧ left n ws ≤ ws.length := by
  have h := qs_sum hn hS ws hw
  have e : ws.sum * left n ws = n * ws.sum - ws.sum * (qs n ws.sum ws).sum := by unfold left; rw [Int.mul_sub, Int.mul_comm ws.sum n]
  constructor
  · refine Int.not_lt.1 fun hl => ?_
    have : ws.sum * left n ws < 0 := Int.mul_neg_of_pos_of_neg hS hl
    omega
  · refine Int.not_lt.1 fun hl => ?_
    have h1 : ws.sum * ((ws.length : Int) + 1) ≤ ws.sum * left n ws := Int.mul_le_mul_of_nonneg_left (by omega) (by omega)
    rw [Int.mul_add, Int.mul_one, Int.mul_comm] at h1
    rw [Int.mul_sub, Int.mul_one] at h
    omega
theorem split_l1 (n : Int) (hn : 0 ≤ n) (hn2 : n ≤ 1099511627776) (ws : List Int) (hw : GoodW ws) (hlen : 1 ≤ ws.length) (hlen2 : ws.length ≤ 19) (hS : 0 < ws.sum) (hso : (ordr n ws).length = ws.length) : ∀ (l p : List Int), p ++ l = ws →
    Ev (fun k => cash_Split.l1 k 1 (qs n ws.sum p ++ List.replicate l.length 0) (idx p.length ++ List.replicate l.length 0) (n - (qs n ws.sum p).sum) ws (ws.length : Int) (p.length : Int) n ws ws.sum) (((ordr n ws).take (left n ws).toNat).foldl bump (qs n ws.sum ws), 0)
  | [], p, h => by
    have h' : p = ws := by simpa using h
    subst h'
    have hl := left_range n hn p hw hS
    have hq : ∀ x ∈ qs n p.sum p, 0 ≤ x ∧ x ≤ 1099511627776 := by
      intro x hx
      obtain ⟨w, hw2, rfl⟩ := List.mem_map.1 hx
      have := q_range hn hS (hw w hw2).1 (by
        have : ∀ (l : List Int), GoodW l → w ∈ l → w ≤ l.sum := by
          intro l
          induction l with
          | nil => intro _ h; simp at h
          | cons a l ih =>
            intro hg hm
            have h1 := hg a (by simp)
            have h2 := sum_range l (fun x hx => hg x (by simp [hx]))
            rcases List.mem_cons.1 hm with rfl | hm
            · simp only [List.sum_cons]; omega
            · have := ih (fun x hx => hg x (by simp [hx])) hm
              simp only [List.sum_cons]; omega
        exact this p hw hw2)
      omega
    have h2 := split_l2 (ordr n p) ((ordr n p).take (left n p).toNat) (by simp; omega) 1099511627776 (by omega) p.length (by omega) ((ordr n p).take (left n p).toNat) [] (qs n p.sum p) rfl (fun z hz => ordr_mem n p hlen z (List.mem_of_mem_take hz)) (by simp [qs]) (fun x hx => by have := hq x hx; simp; omega)
    have hs : slices_SortStableFunc_int_int.f (idx p.length) n p p.sum = some (ordr n p) := by
      unfold slices_SortStableFunc_int_int.f
      rw [if_pos ⟨hlen, by rw [idx_len]; exact hlen2, by rw [idx_len]; exact hlen, by omega, List.all_eq_true.2 fun z hz => decide_eq_true (idx_mem _ z hz)⟩]
      rfl
    simp only [List.length_nil, List.replicate_zero, List.append_nil]
    refine Ev.step (fun k => ?_) h2
    simp only [cash_Split.l1]
    rw [if_neg (by omega), hs]
    simp only [Option.bind_some]
    rw [if_pos (show 0 ≤ n - (qs n p.sum p).sum from hl.1), idx_len, if_pos (show n - (qs n p.sum p).sum ≤ _ from hl.2)]
    rfl
  | x :: l, p, h => by
    have hl : ws.length = p.length + (l.length + 1) := by rw [← h]; simp
    have hx := hw x (by rw [← h]; simp)
    have hgp : GoodW p := fun z hz => hw z (by rw [← h]; simp [hz])
    have hps := sum_range p hgp
    have hrd : rd ws (p.length : Int) = x := by rw [← h]; exact rd_app p x l
    have hlS : (ws.length : Int) ≤ 19 := by omega
    have hqp := qs_sum hn hS p hgp
    have ih := split_l1 n hn hn2 ws hw hlen hlen2 hS hso l (p ++ [x]) (by rw [← app1]; exact h)
    have hnx : 0 ≤ n * x := Int.mul_nonneg hn hx.1
    have hnx2 : n * x ≤ 1099511627776 * 1048576 := Int.mul_le_mul hn2 hx.2 hx.1 (by omega)
    have hq0 : 0 ≤ n * x / ws.sum := Int.ediv_nonneg hnx (by omega)
    have hq1 : n * x / ws.sum ≤ n * x := Int.ediv_le_self _ hnx
    have hlq : (qs n ws.sum p).length = p.length := by simp [qs]
    have hqs : 0 ≤ (qs n ws.sum p).sum ∧ (qs n ws.sum p).sum ≤ n := by
      have hpw : p.sum ≤ ws.sum := by
        rw [← h, List.sum_append]
        have := sum_range (x :: l) (fun z hz => hw z (by rw [← h]; exact List.mem_append_right _ hz))
        omega
      constructor
      · have : ∀ q : List Int, GoodW q → 0 ≤ (qs n ws.sum q).sum := by
          intro q
          induction q with
          | nil => intro _; simp [qs]
          | cons a q ih =>
            intro hg
            have h1 : 0 ≤ n * a / ws.sum := Int.ediv_nonneg (Int.mul_nonneg hn (hg a (by simp)).1) (by omega)
            have h2 := ih (fun z hz => hg z (by simp [hz]))
            have h3 : (qs n ws.sum (a :: q)).sum = n * a / ws.sum + (qs n ws.sum q).sum := by simp [qs]
            omega
        exact this p hgp
      · refine Int.not_lt.1 fun hlt => ?_
        have h1 : ws.sum * (n + 1) ≤ ws.sum * (qs n ws.sum p).sum := Int.mul_le_mul_of_nonneg_left (by omega) (by omega)
        have h2 : n * p.sum ≤ n * ws.sum := Int.mul_le_mul_of_nonneg_left hpw hn
        rw [Int.mul_add, Int.mul_one, Int.mul_comm] at h1
        omega
    refine Ev.step (fun k => ?_) ih
    simp only [cash_Split.l1]
    rw [if_pos (by omega), if_pos (by omega), if_pos (by omega), if_neg (by omega), hrd, w64 (x := n * x) (by omega) (by omega), tdivnn hnx, w64 (x := n * x / ws.sum) (by omega) (by omega)]
    rw [if_pos (by simp [hlq]; omega)]
    simp only [Option.bind_some]
    rw [if_pos (by simp [idx_len]; omega)]
    have e1 : (qs n ws.sum p ++ List.replicate (x :: l).length 0).set ((p.length : Int)).toNat (n * x / ws.sum) = qs n ws.sum (p ++ [x]) ++ List.replicate l.length 0 := by
      have := set_app (qs n ws.sum p) 0 (n * x / ws.sum) (List.replicate l.length 0)
      rw [hlq] at this
      rw [List.length_cons, zeros_succ, this]
      simp [qs]
    have e2 : (idx p.length ++ List.replicate (x :: l).length 0).set ((p.length : Int)).toNat (p.length : Int) = idx (p ++ [x]).length ++ List.replicate l.length 0 := by
      have := set_app (idx p.length) 0 (p.length : Int) (List.replicate l.length 0)
      rw [idx_len] at this
      rw [List.length_cons, zeros_succ, this]
      simp [idx]
    have e3 : rd (qs n ws.sum (p ++ [x]) ++ List.replicate l.length 0) (p.length : Int) = n * x / ws.sum := by
      have := rd_app (qs n ws.sum p) (n * x / ws.sum) (List.replicate l.length 0)
      rw [hlq] at this
      rw [← this]
      simp [qs]
    rw [e1, e2, e3]
    have e4 : (qs n ws.sum (p ++ [x])).sum = (qs n ws.sum p).sum + n * x / ws.sum := by simp [qs]
    rw [e4, w64 (x := n - (qs n ws.sum p).sum - n * x / ws.sum) (by omega) (by omega), w64 (x := (p.length : Int) + 1) (by omega) (by omega)]
    have e5 : n - ((qs n ws.sum p).sum + n * x / ws.sum) = n - (qs n ws.sum p).sum - n * x / ws.sum := by omega
    rw [e5]
    simp
theorem inner_size (lt : Int → Int → Bool) (a : Nat) : ∀ (j : Nat) (d : Array Int), (Sort.insInner lt a j d).size = d.size
  | 0, d => rfl
  | j + 1, d => by
    rw [Sort.insInner]
    split
    · rw [inner_size lt a j, Sort.size_swp]
    · rfl
theorem outer_size (lt : Int → Int → Bool) (a b : Nat) : ∀ (n i : Nat) (d : Array Int), b - i = n → (Sort.insOuter lt a b i d).size = d.size := by
  intro n
  induction n with
  | zero => intro i d h; rw [Sort.insOuter, if_neg (by omega)]
  | succ n ih => intro i d h; rw [Sort.insOuter, if_pos (by omega), ih _ _ (by omega), inner_size]
theorem ordr_len (n : Int) (ws : List Int) : (ordr n ws).length = ws.length := by
  unfold ordr slices_SortStableFunc_int_int.srt Sort.insertionSort
  rw [List.length_map, Array.length_toList, outer_size _ _ _ _ _ _ rfl]
  simp [idx_len]
/-- the parts of an amount that is not negative -/
def parts_ (n : Int) (ws : List Int) : List Int := ((ordr n ws).take (left n ws).toNat).foldl bump (qs n ws.sum ws)
theorem split_of (n : Int) (hn : 0 ≤ n) (hn2 : n ≤ 1099511627776) (ws : List Int) (hw : GoodW ws) (hlen : 1 ≤ ws.length) (hlen2 : ws.length ≤ 19) (hS : 0 < ws.sum) : Ev (fun k => cash_Split.f k n ws) (parts_ n ws, 0) := by
  have h1 := split_l1 n hn hn2 ws hw hlen hlen2 hS (ordr_len n ws) ws [] rfl
  have h2 : Ev (fun k => cash_Split.j2 k 1 n ws ws.sum) (parts_ n ws, 0) := by
    refine Ev.step (fun k => ?_) h1
    simp only [cash_Split.j2]
    rw [if_pos (by omega), if_pos (by omega)]
    simp [qs, idx]
  have h3 := split_l0 n hn ws hw (by omega) (by omega) _ h2 ws [] rfl
  have hL : cash_large.f n = some false := by
    unfold cash_large.f
    rw [if_neg (by omega), decide_eq_false (by omega)]
  simp only [cash_Split.f, hL, Option.bind_some]
  refine Ev.ifn (by decide) (Ev.step (fun k => ?_) h3)
  simp only [cash_Split.j0]
  rw [decide_eq_false (by omega), if_neg (by decide)]
  rfl
theorem parts_sum (n : Int) (hn : 0 ≤ n) (ws : List Int) (hw : GoodW ws) (hlen : 1 ≤ ws.length) (hS : 0 < ws.sum) : (parts_ n ws).sum = n ∧ (parts_ n ws).length = ws.length := by
  have hl := left_range n hn ws hw hS
  have hb := bumps_sum ws.length ((ordr n ws).take (left n ws).toNat) (qs n ws.sum ws) (fun z hz => ordr_mem n ws hlen z (List.mem_of_mem_take hz)) (by simp [qs])
  have ht : (((ordr n ws).take (left n ws).toNat).length : Int) = left n ws := by rw [List.length_take, ordr_len]; omega
  unfold parts_
  refine ⟨?_, hb.2⟩
  rw [hb.1, ht]
  unfold left
  omega
/-! #### a part with no weight gets nothing -/
def remd (n : Int) (ws : List Int) (z : Int) : Int := n * rd ws z % ws.sum
theorem rd_mem' (ws : List Int) (z : Int) (h0 : 0 ≤ z) (h1 : z < ws.length) : rd ws z ∈ ws := rd_mem ws z h0 h1
theorem cf_of (n : Int) (hn : 0 ≤ n) (hn2 : n ≤ 1099511627776) (ws : List Int) (hw : GoodW ws) (hlen : 1 ≤ ws.length) (hlen2 : ws.length ≤ 1000) (hS : 0 < ws.sum) (x y : Int) : slices_SortStableFunc_int_int.cf n ws ws.sum x y = remd n ws (slices_SortStableFunc_int_int.nm ws.length y) - remd n ws (slices_SortStableFunc_int_int.nm ws.length x) := by
  have hS2 := (sum_range ws hw).2
  have one : ∀ v : Int, 0 ≤ v → v < ws.length → Int.tmod (wrap64 (n * rd ws v)) ws.sum = remd n ws v ∧ 0 ≤ remd n ws v ∧ remd n ws v < ws.sum := fun v v0 v1 => by
    have hr := hw _ (rd_mem ws v v0 v1)
    have h0 : 0 ≤ n * rd ws v := Int.mul_nonneg hn hr.1
    have h1 : n * rd ws v ≤ 1099511627776 * 1048576 := Int.mul_le_mul hn2 hr.2 hr.1 (by omega)
    rw [w64 (by omega) (by omega), tmodnn h0]
    exact ⟨rfl, Int.emod_nonneg _ (by omega), Int.emod_lt_of_pos _ hS⟩
  have hx := nm_mem ws.length hlen x
  have hy := nm_mem ws.length hlen y
  unfold slices_SortStableFunc_int_int.cf
  rw [(one _ hy.1 hy.2).1, (one _ hx.1 hx.2).1]
  have := (one _ hy.1 hy.2).2
  have := (one _ hx.1 hx.2).2
  rw [w64 (by omega) (by omega)]
theorem nm_id (m : Nat) (z : Int) (h0 : 0 ≤ z) (h1 : z < m) : slices_SortStableFunc_int_int.nm m z = z := by
  unfold slices_SortStableFunc_int_int.nm
  rw [if_pos ⟨h0, h1⟩]
/-- the order: every place once, by falling remainders -/
theorem ordr_sorted (n : Int) (hn : 0 ≤ n) (hn2 : n ≤ 1099511627776) (ws : List Int) (hw : GoodW ws) (hlen : 1 ≤ ws.length) (hlen2 : ws.length ≤ 1000) (hS : 0 < ws.sum) : (ordr n ws).Perm (idx ws.length) ∧ (ordr n ws).Pairwise (fun x y => remd n ws y ≤ remd n ws x) := by
  have hcf := cf_of n hn hn2 ws hw hlen hlen2 hS
  have swo : Sort.SWO (ltOf (slices_SortStableFunc_int_int.cf n ws ws.sum)) := ⟨fun x => by unfold ltOf; rw [hcf]; simp, fun x y z h1 h2 => by
      unfold ltOf at *; rw [hcf] at *
      have h1 := of_decide_eq_true h1
      have h2 := of_decide_eq_true h2
      exact decide_eq_true (by omega), fun x y z h1 h2 => by
      unfold ltOf at *; rw [hcf] at *
      have h1 := of_decide_eq_false h1
      have h2 := of_decide_eq_false h2
      exact decide_eq_false (by omega)⟩
  have hil : (idx ws.length).length = ws.length := idx_len _
  obtain ⟨⟨hsz, _, hp⟩, hs⟩ := Sort.insertionSort_holds swo (idx ws.length).toArray 0 ws.length (Nat.zero_le _) (by simp [hil])
  obtain ⟨d, hd⟩ : ∃ d, d = Sort.insertionSort (ltOf (slices_SortStableFunc_int_int.cf n ws ws.sum)) (idx ws.length).toArray 0 ws.length := ⟨_, rfl⟩
  rw [← hd] at hsz hp hs
  have hds : d.size = ws.length := by rw [hsz]; simp [hil]
  have e1 : d.extract 0 ws.length = d := by rw [← hds]; simp
  have e2 : (idx ws.length).toArray.extract 0 ws.length = (idx ws.length).toArray := by
    have hA : (idx ws.length).toArray.size = ws.length := by simp [hil]
    generalize (idx ws.length).toArray = A at hA ⊢
    rw [← hA]; simp
  rw [e1, e2] at hp
  have hp' : d.toList.Perm (idx ws.length) := hp
  have hmem : ∀ z ∈ d.toList, 0 ≤ z ∧ z < ws.length := fun z hz => idx_mem ws.length z (hp'.mem_iff.1 hz)
  have ho : ordr n ws = d.toList := by
    unfold ordr slices_SortStableFunc_int_int.srt
    rw [hil, ← hd]
    rw [List.map_congr_left (g := id) (fun z hz => by rw [nm_id _ _ (hmem z hz).1 (hmem z hz).2]; rfl), List.map_id]
  rw [ho]
  refine ⟨hp', ?_⟩
  rw [List.pairwise_iff_getElem]
  intro i j hi hj hij
  have hi' : i < d.size := by simpa using hi
  have hj' : j < d.size := by simpa using hj
  have q := hs i j (Nat.zero_le _) hij (by omega)
  rw [getElem!_pos d j hj', getElem!_pos d i hi'] at q
  unfold ltOf at q
  rw [hcf] at q
  have q := of_decide_eq_false q
  have m1 := hmem d[i] (Array.getElem_mem_toList ..)
  have m2 := hmem d[j] (Array.getElem_mem_toList ..)
  rw [nm_id _ _ m1.1 m1.2, nm_id _ _ m2.1 m2.2] at q
  simp only [Array.getElem_toList]
  omega
theorem idx_map (ws : List Int) (f : Int → Int) : (idx ws.length).map (fun z => f (rd ws z)) = ws.map f := by
  have gen : ∀ (m : Nat), m ≤ ws.length → (idx m).map (fun z => f (rd ws z)) = (ws.take m).map f := by
    intro m
    induction m with
    | zero => intro _; simp [idx]
    | succ m ih =>
      intro hm
      rw [idx, List.map_append, ih (by omega), List.take_succ_eq_append_getElem (by omega), List.map_append]
      congr 1
      simp [rd, List.getD, show m < ws.length by omega]
  rw [gen ws.length (Nat.le_refl _), List.take_length]
theorem sum_mod (n S : Int) : ∀ ws : List Int, (ws.map fun w => n * w % S).sum = n * ws.sum - S * (ws.map fun w => n * w / S).sum
  | [] => by simp
  | w :: ws => by
    have h := sum_mod n S ws
    have e := Int.emod_add_mul_ediv (n * w) S
    simp only [List.map_cons, List.sum_cons]
    rw [h, Int.mul_add, Int.mul_add]
    omega
theorem sum_perm {a b : List Int} (h : a.Perm b) : a.sum = b.sum := by
  induction h with
  | nil => rfl
  | cons x _ ih => simp [ih]
  | swap x y l => simp only [List.sum_cons]; omega
  | trans _ _ h1 h2 => exact h1.trans h2
theorem sum_le (B : Int) (f : Int → Int) : ∀ l : List Int, (∀ z ∈ l, f z ≤ B) → (l.map f).sum ≤ l.length * B
  | [], _ => by simp
  | z :: l, h => by
    have ih := sum_le B f l fun x hx => h x (by simp [hx])
    have := h z (by simp)
    simp only [List.map_cons, List.sum_cons, List.length_cons]
    have e : ((l.length + 1 : Nat) : Int) * B = l.length * B + B := by rw [Int.natCast_add, Int.add_mul]; simp
    rw [e]; omega
theorem take_pos (n : Int) (hn : 0 ≤ n) (hn2 : n ≤ 1099511627776) (ws : List Int) (hw : GoodW ws) (hlen : 1 ≤ ws.length) (hlen2 : ws.length ≤ 1000) (hS : 0 < ws.sum) : ∀ z ∈ (ordr n ws).take (left n ws).toNat, 0 < remd n ws z := by
  obtain ⟨hp, hs⟩ := ordr_sorted n hn hn2 ws hw hlen hlen2 hS
  have hl := left_range n hn ws hw hS
  intro z hz
  apply Classical.byContradiction
  intro hz0
  have hrn : ∀ v, 0 ≤ remd n ws v ∧ remd n ws v ≤ ws.sum - 1 := fun v => by
    unfold remd
    have := Int.emod_nonneg (n * rd ws v) (show ws.sum ≠ 0 by omega)
    have := Int.emod_lt_of_pos (n * rd ws v) hS
    omega
  obtain ⟨p, hp1, hp2⟩ := List.getElem_of_mem hz
  have hpl : p < (left n ws).toNat ∧ p < (ordr n ws).length := by
    rw [List.length_take] at hp1; omega
  have hpz : (ordr n ws)[p]'hpl.2 = z := by rw [← hp2, List.getElem_take]
  have hsplit : ordr n ws = (ordr n ws).take p ++ (ordr n ws).drop p := (List.take_append_drop p _).symm
  have hdrop : ∀ y ∈ (ordr n ws).drop p, remd n ws y ≤ 0 := by
    intro y hy
    obtain ⟨q, hq1, hq2⟩ := List.getElem_of_mem hy
    rw [List.getElem_drop] at hq2
    by_cases hq : q = 0
    · subst hq
      simp only [Nat.add_zero] at hq2
      rw [← hq2, hpz]; omega
    · rw [List.pairwise_iff_getElem] at hs
      have hlt : p + q < (ordr n ws).length := by rw [List.length_drop] at hq1; omega
      have := hs p (p + q) hpl.2 hlt (by omega)
      rw [hq2, hpz] at this
      omega
  have htot : ((ordr n ws).map (remd n ws)).sum = ws.sum * left n ws := by
    rw [sum_perm (hp.map (remd n ws))]
    have e1 := idx_map ws (fun w => n * w % ws.sum)
    rw [show (idx ws.length).map (remd n ws) = ws.map (fun w => n * w % ws.sum) from e1, sum_mod]
    unfold left qs
    rw [Int.mul_sub, Int.mul_comm ws.sum n]
  rw [hsplit, List.map_append, List.sum_append] at htot
  have s1 := sum_le (ws.sum - 1) (remd n ws) ((ordr n ws).take p) fun v _ => (hrn v).2
  have s2 := sum_le 0 (remd n ws) ((ordr n ws).drop p) hdrop
  rw [List.length_take, Nat.min_eq_left (by omega)] at s1
  rw [Int.mul_zero] at s2
  have h1 : (p : Int) * (ws.sum - 1) ≤ (left n ws - 1) * (ws.sum - 1) := Int.mul_le_mul_of_nonneg_right (by omega) (by omega)
  have h2 : (left n ws - 1) * (ws.sum - 1) = ws.sum * left n ws - left n ws - ws.sum + 1 := by
    rw [Int.sub_mul, Int.mul_sub, Int.mul_sub, Int.mul_comm (left n ws) ws.sum]; omega
  omega
theorem foldl_rd (z : Int) (h0 : 0 ≤ z) : ∀ (l c : List Int), (∀ y ∈ l, 0 ≤ y ∧ y ≠ z) → rd (l.foldl bump c) z = rd c z
  | [], c, _ => rfl
  | y :: l, c, h => by
    have hy := h y (by simp)
    rw [List.foldl_cons, foldl_rd z h0 l _ (fun x hx => h x (by simp [hx]))]
    unfold bump rd
    simp only [List.getD_eq_getElem?_getD, List.getElem?_set]
    rw [if_neg (by omega)]
theorem parts_zero (n : Int) (hn : 0 ≤ n) (hn2 : n ≤ 1099511627776) (ws : List Int) (hw : GoodW ws) (hlen : 1 ≤ ws.length) (hlen2 : ws.length ≤ 1000) (hS : 0 < ws.sum) (z : Int) (z0 : 0 ≤ z) (z1 : z < ws.length) (h : rd ws z = 0) : rd (parts_ n ws) z = 0 := by
  have ht := take_pos n hn hn2 ws hw hlen hlen2 hS
  have hr : remd n ws z = 0 := by unfold remd; rw [h]; simp
  unfold parts_
  rw [foldl_rd z z0 _ _ fun y hy => ⟨(ordr_mem n ws hlen y (List.mem_of_mem_take hy)).1, fun e => by
    have := ht y hy
    rw [e, hr] at this
    omega⟩]
  unfold qs rd
  have hz : z.toNat < ws.length := by omega
  have h' : ws[z.toNat] = 0 := by unfold rd at h; simpa [List.getD, hz] using h
  simp [List.getD, hz, h']
theorem bumps_mem (L : Nat) : ∀ (l c : List Int) (B : Int), (∀ z ∈ l, 0 ≤ z ∧ z < L) → c.length = L → (∀ x ∈ c, 0 ≤ x ∧ x ≤ B) → ∀ x ∈ l.foldl bump c, 0 ≤ x ∧ x ≤ B + l.length
  | [], c, B, _, _, h => by simpa using h
  | z :: l, c, B, hz, hc, h => by
    have h1 := hz z (by simp)
    have := bumps_mem L l (bump c z) (B + 1) (fun y hy => hz y (by simp [hy])) (by unfold bump; simp [hc]) (bump_mem h1.1 (by omega) h)
    intro x hx
    have := this x hx
    simp only [List.length_cons]
    omega
theorem parts_bound (n : Int) (hn : 0 ≤ n) (hn2 : n ≤ 1099511627776) (ws : List Int) (hw : GoodW ws) (hlen : 1 ≤ ws.length) (hlen2 : ws.length ≤ 1000) (hS : 0 < ws.sum) : ∀ v ∈ parts_ n ws, 0 ≤ v ∧ v ≤ 4000000000000 := by
  have hl := left_range n hn ws hw hS
  intro v hv
  unfold parts_ at hv
  have h := bumps_mem ws.length ((ordr n ws).take (left n ws).toNat) (qs n ws.sum ws) 1099511627776 (fun z hz => ordr_mem n ws hlen z (List.mem_of_mem_take hz)) (by simp [qs]) (fun x hx => by
    obtain ⟨w, hw2, rfl⟩ := List.mem_map.1 hx
    have hwr := hw w hw2
    have hle : w ≤ ws.sum := mem_le_sum ws hw w hw2
    have := q_range hn hS hwr.1 hle
    omega) v hv
  rw [List.length_take] at h
  omega
  where
  mem_le_sum : ∀ ws : List Int, GoodW ws → ∀ w ∈ ws, w ≤ ws.sum
  | [], _, w, h => by simp at h
  | x :: l, hw, w, h => by
    have h1 := hw x (by simp)
    have h2 := (sum_range l fun y hy => hw y (by simp [hy])).1
    rw [List.sum_cons]
    rcases List.mem_cons.1 h with rfl | h
    · omega
    · have := mem_le_sum l (fun y hy => hw y (by simp [hy])) w h; omega
/-! #### families -/
theorem rdK (l : List S32) (i : Nat) (h : i < l.length) : rd_T32 l (i : Int) = l[i] := by
  unfold rd_T32
  simp [List.getD, h]
/-- the first one left the estate; each other one has an earlier parent -/
structure FamOk (l : List S32) : Prop where
  two : 2 ≤ l.length
  top : l.length ≤ 13
  root : (rd_T32 l ((0 : Nat) : Int)).f0 = -1 ∧ (rd_T32 l ((0 : Nat) : Int)).f1 = false
  up : ∀ i : Nat, 1 ≤ i → i < l.length → 0 ≤ (rd_T32 l (i : Int)).f0 ∧ (rd_T32 l (i : Int)).f0 < i
theorem fam_loop (m : Int) (hm : m ≤ 12) : ∀ (n i : Nat) (l : List S32) (st : List Int), (i : Int) + n = m → l.length = i + 1 → ((rd_T32 l ((0 : Nat) : Int)).f0 = -1 ∧ (rd_T32 l ((0 : Nat) : Int)).f1 = false) → (∀ i : Nat, 1 ≤ i → i < l.length → 0 ≤ (rd_T32 l (i : Int)).f0 ∧ (rd_T32 l (i : Int)).f0 < i) → ∃ r, Ev (fun k => mootkeep1_family.l0 k l m (i : Int) st) r ∧ (r.length : Int) = m + 1 ∧ ((rd_T32 r ((0 : Nat) : Int)).f0 = -1 ∧ (rd_T32 r ((0 : Nat) : Int)).f1 = false) ∧ (∀ i : Nat, 1 ≤ i → i < r.length → 0 ≤ (rd_T32 r (i : Int)).f0 ∧ (rd_T32 r (i : Int)).f0 < i)
  | 0, i, l, st, h, hl, h0, hu => ⟨l, Ev.step (fun k => by rw [mootkeep1_family.l0]) (Ev.ifn (by omega) (Ev.to rfl)), by omega, h0, hu⟩
  | n + 1, i, l, st, h, hl, h0, hu => by
    obtain ⟨v, l1, e1, v0, v1⟩ := next_of st (l.length : Int) (by omega) (by omega)
    obtain ⟨u, l2, e2, u0, u1⟩ := next_of l1 3 (by omega) (by omega)
    have old : ∀ (x : S32) (j : Nat), j < l.length → rd_T32 (l ++ [x]) (j : Int) = rd_T32 l (j : Int) := fun x j hj => by
      rw [rdK _ _ (by simp; omega), rdK _ _ hj, List.getElem_append_left hj]
    have new : ∀ (x : S32), rd_T32 (l ++ [x]) (l.length : Int) = x := fun x => by
      rw [rdK _ _ (by simp)]; simp
    obtain ⟨r, r1, r2, r3, r4⟩ := fam_loop m hm n (i + 1) (l ++ [⟨v, decide (u > 0)⟩]) l2 (by omega) (by simp; omega) (by rw [old _ 0 (by omega)]; exact h0) (fun j j0 j1 => by
      by_cases hj : j < l.length
      · rw [old _ j hj]; exact hu j j0 hj
      · have : j = l.length := by simp at j1; omega
        subst this
        rw [new]
        exact ⟨v0, v1⟩)
    refine ⟨r, ?_, r2, r3, r4⟩
    refine Ev.step (fun k => by rw [mootkeep1_family.l0]) ?_
    refine Ev.ifp (by omega) ?_
    simp only [e1, e2, Option.bind_some]
    rw [w64 (x := (i : Int) + 1) (by omega) (by omega)]
    exact Ev.ifp (by omega) r1
theorem family_of (st : List Int) : ∃ L, Ev (fun k => mootkeep1_family.f k st) L ∧ FamOk L := by
  obtain ⟨v, l1, e1, v0, v1⟩ := next_of st 12 (by omega) (by omega)
  obtain ⟨r, r1, r2, r3, r4⟩ := fam_loop (1 + v) (by omega) (1 + v).toNat 0 [⟨-1, false⟩] l1 (by omega) rfl ⟨rfl, rfl⟩ (fun j j0 j1 => by simp at j1; omega)
  refine ⟨r, ?_, by omega, by omega, r3, r4⟩
  unfold mootkeep1_family.f
  simp only [e1, Option.bind_some]
  rw [w64 (x := 1 + v) (by omega) (by omega)]
  exact r1
theorem pfam_loop (L : List S32) (hL : FamOk L) : ∀ (n i : Nat), i + n + 1 = L.length → Ev (fun k => part_family.l0 k (L.drop 1) ((L.drop 1).length : Int) (i : Int)) 0
  | 0, i, h => Ev.step (fun k => by rw [part_family.l0]) (Ev.ifn (by simp; omega) (Ev.to rfl))
  | n + 1, i, h => by
    have ht := hL.top
    have hd : rd_T32 (L.drop 1) (i : Int) = rd_T32 L ((i + 1 : Nat) : Int) := by
      rw [rdK _ _ (by simp; omega), rdK _ _ (by omega)]; simp [Nat.add_comm]
    have hu := hL.up (i + 1) (by omega) (by omega)
    refine Ev.step (fun k => by rw [part_family.l0]) ?_
    rw [hd, w64 (x := (i : Int) + 1) (by omega) (by omega)]
    have hl : (L.drop 1).length = L.length - 1 := by simp
    exact Ev.ifp (by omega) (Ev.ifp (by omega) (Ev.ifp (by omega) (Ev.ifn (by omega) (Ev.ifn (by omega) (pfam_loop L hL n (i + 1) (by omega))))))
theorem pfam_of (L : List S32) (hL : FamOk L) : Ev (fun k => part_family.f k L) 0 := by
  have h2 := hL.two
  have ht := hL.top
  have hr := hL.root
  rw [show ((0 : Nat) : Int) = 0 from rfl] at hr
  unfold part_family.f
  refine Ev.ifn (by omega) (Ev.ifn (by omega) (Ev.ifp (by omega) (Ev.ifp hr.1 (Ev.ifn (by rw [hr.2]; decide) (Ev.ifp (by omega) ?_)))))
  simp only [Option.bind_some]
  exact pfam_loop L hL (L.length - 1) 0 (by omega)
/-! #### who has heirs -/
def rB (l : List Bool) (j : Nat) : Bool := rdOf false l (j : Int)
theorem rB_set (l : List Bool) (i j : Nat) (v : Bool) (h : i < l.length) : rB (l.set i v) j = if j = i then v else rB l j := by
  unfold rB rdOf
  simp only [Int.toNat_natCast, List.getD_eq_getElem?_getD, List.getElem?_set]
  by_cases hj : i = j
  · subst hj; simp [h]
  · rw [if_neg hj, if_neg (by omega)]
def kUp (L : List S32) (i : Nat) : Nat := (rd_T32 L (i : Int)).f0.toNat
def kAl (L : List S32) (i : Nat) : Bool := (rd_T32 L (i : Int)).f1
def hStep (L : List S32) (x : List Bool) (i : Nat) : List Bool :=
  if i = 0 then x.set i (rB x i || kAl L i) else (x.set i (rB x i || kAl L i)).set (kUp L i) (rB (x.set i (rB x i || kAl L i)) (kUp L i) || (rB x i || kAl L i))
def hRun (L : List S32) : Nat → List Bool → List Bool
  | 0, x => x
  | n + 1, x => hRun L n (hStep L x n)
theorem hStep_len (L : List S32) (x : List Bool) (i : Nat) : (hStep L x i).length = x.length := by
  unfold hStep; split <;> simp
theorem hRun_of (L : List S32) (hL : FamOk L) : ∀ (n : Nat) (x : List Bool), n ≤ L.length → x.length = L.length → Ev (fun k => part_heir.l0 k L x ((n : Int) - 1)) (hRun L n x)
  | 0, x, _, _ => Ev.step (f := fun _ => some x) (fun k => by rw [part_heir.l0, if_neg (by omega)]) (Ev.now x)
  | n + 1, x, hn, hx => by
    have ht := hL.top
    have ih := hRun_of L hL n (hStep L x n) (by omega) (by rw [hStep_len]; exact hx)
    have hi : ((n + 1 : Nat) : Int) - 1 = (n : Int) := by omega
    rw [hi, hRun]
    refine Ev.step (fun k => by rw [part_heir.l0]) ?_
    rw [w64 (x := (n : Int) - 1) (by omega) (by omega)]
    refine Ev.ifp (by omega) (Ev.ifp (by omega) (Ev.ifp (by omega) ?_))
    have hs : ∀ v : Bool, x.set ((n : Int)).toNat v = x.set n v := fun v => by simp
    by_cases h0 : n = 0
    · -- the first one
      subst h0
      have hr := hL.root
      have hneg : ¬ (rd_T32 L ((0 : Nat) : Int)).f0 ≥ 0 := by omega
      have hal : kAl L 0 = false := hr.2
      have hst : hStep L x 0 = x.set 0 (rB x 0 || kAl L 0) := by unfold hStep; rw [if_pos rfl]
      rw [hst] at ih
      by_cases hb : rB x 0 = true
      · refine Ev.ifp hb ?_
        simp only [Option.bind_some]
        refine Ev.ifp (by omega) (Ev.ifn hneg ?_)
        rw [hs]
        rw [hb, Bool.true_or] at ih
        rw [hst, hb, Bool.true_or]
        exact ih
      · have hb' : rB x 0 = false := by simpa using hb
        refine Ev.ifn hb (Ev.ifp (by omega) ?_)
        simp only [Option.bind_some]
        refine Ev.ifn hneg ?_
        rw [hs]
        rw [hb', Bool.false_or] at ih
        rw [hst, hb', Bool.false_or]
        exact ih
    · have hu := hL.up n (by omega) (by omega)
      have hk : (rd_T32 L (n : Int)).f0.toNat = kUp L n := rfl
      have hku : ((kUp L n : Nat) : Int) = (rd_T32 L (n : Int)).f0 := by unfold kUp; omega
      have hst : hStep L x n = (x.set n (rB x n || kAl L n)).set (kUp L n) (rB (x.set n (rB x n || kAl L n)) (kUp L n) || (rB x n || kAl L n)) := by unfold hStep; rw [if_neg h0]
      have both : ∀ v : Bool, v = (rB x n || kAl L n) → Ev (fun k => if (rd_T32 L (n : Int)).f0 ≥ 0 then (if 0 ≤ (rd_T32 L (n : Int)).f0 then (if (rd_T32 L (n : Int)).f0 < (x.length : Int) then (if rdOf false (x.set n v) (rd_T32 L (n : Int)).f0 = true then (part_heir.l0 k L ((x.set n v).set (rd_T32 L (n : Int)).f0.toNat true) ((n : Int) - 1)) else (part_heir.l0 k L ((x.set n v).set (rd_T32 L (n : Int)).f0.toNat (rdOf false (x.set n v) (n : Int))) ((n : Int) - 1))) else none) else none) else (part_heir.l0 k L (x.set n v) ((n : Int) - 1))) (hRun L n (hStep L x n)) := by
        intro v hv
        refine Ev.ifp (by omega) (Ev.ifp (by omega) (Ev.ifp (by omega) ?_))
        have hrv : rdOf false (x.set n v) (n : Int) = v := by have := rB_set x n n v (by omega); rw [if_pos rfl] at this; exact this
        have hrk : rdOf false (x.set n v) (rd_T32 L (n : Int)).f0 = rB (x.set n v) (kUp L n) := by unfold rB; rw [hku]
        rw [hk, hrv, hrk]
        rw [hst, ← hv] at ih ⊢
        by_cases hb : rB (x.set n v) (kUp L n) = true
        · rw [hb, Bool.true_or] at ih ⊢
          exact Ev.ifp rfl ih
        · have hb' : rB (x.set n v) (kUp L n) = false := by simpa using hb
          rw [hb', Bool.false_or] at ih ⊢
          exact Ev.ifn (by decide) ih
      by_cases hb : rB x n = true
      · refine Ev.ifp hb ?_
        simp only [Option.bind_some]
        rw [hs]
        exact Ev.ifp (by omega) (both true (by rw [hb]; rfl))
      · have hb' : rB x n = false := by simpa using hb
        refine Ev.ifn hb (Ev.ifp (by omega) ?_)
        simp only [Option.bind_some]
        rw [hs]
        exact both _ (by rw [hb']; rfl)
/-- what the loop leaves: a member has heirs if it is alive or has a child with heirs -/
def HasOk (L : List S32) (H : List Bool) : Prop := H.length = L.length ∧ ∀ j, j < L.length → (rB H j = true ↔ kAl L j = true ∨ ∃ k, 1 ≤ k ∧ k < L.length ∧ kUp L k = j ∧ rB H k = true)
theorem hRun_ok (L : List S32) (hL : FamOk L) : ∀ (n : Nat) (x : List Bool), n ≤ L.length → x.length = L.length →
    (∀ j, j < L.length → n ≤ j → (rB x j = true ↔ kAl L j = true ∨ ∃ k, n ≤ k ∧ 1 ≤ k ∧ k < L.length ∧ kUp L k = j ∧ rB x k = true)) →
    (∀ j, j < n → (rB x j = true ↔ ∃ k, n ≤ k ∧ 1 ≤ k ∧ k < L.length ∧ kUp L k = j ∧ rB x k = true)) →
    HasOk L (hRun L n x)
  | 0, x, _, hx, h1, _ => ⟨by rw [hRun]; exact hx, fun j hj => by
      rw [hRun, h1 j hj (by omega)]
      exact or_congr Iff.rfl ⟨fun ⟨k, _, a, b, c, d⟩ => ⟨k, a, b, c, d⟩, fun ⟨k, a, b, c, d⟩ => ⟨k, by omega, a, b, c, d⟩⟩⟩
  | n + 1, x, hn, hx, h1, h2 => by
    rw [hRun]
    obtain ⟨v, hv⟩ : ∃ v, v = (rB x n || kAl L n) := ⟨_, rfl⟩
    -- the new list, place by place
    have hget : ∀ j, rB (hStep L x n) j = if n ≠ 0 ∧ j = kUp L n then (rB (x.set n v) j || v) else if j = n then v else rB x j := by
      intro j
      unfold hStep
      rw [← hv]
      by_cases h0 : n = 0
      · rw [if_pos h0, if_neg (by omega), rB_set _ _ _ _ (by omega)]
      · rw [if_neg h0]
        have hu := hL.up n (by omega) (by omega)
        have hk : kUp L n < n := by unfold kUp; omega
        rw [rB_set _ _ _ _ (by simp; omega)]
        by_cases hj : j = kUp L n
        · rw [if_pos hj, if_pos ⟨h0, hj⟩, hj]
        · rw [if_neg hj, if_neg (by omega), rB_set _ _ _ _ (by omega)]
    have hup : n ≠ 0 → kUp L n < n := fun h0 => by have hu := hL.up n (by omega) (by omega); unfold kUp; omega
    have hbig : ∀ j, n < j → rB (hStep L x n) j = rB x j := fun j hj => by
      rw [hget, if_neg (by rintro ⟨a, b⟩; have := hup a; omega), if_neg (by omega)]
    have hat : rB (hStep L x n) n = v := by
      rw [hget, if_neg (by rintro ⟨a, b⟩; have := hup a; omega), if_pos rfl]
    have hvt : v = true ↔ kAl L n = true ∨ ∃ k, n + 1 ≤ k ∧ 1 ≤ k ∧ k < L.length ∧ kUp L k = n ∧ rB x k = true := by
      rw [hv, Bool.or_eq_true, h2 n (by omega)]
      exact or_comm
    refine hRun_ok L hL n _ (by omega) (by rw [hStep_len]; exact hx) (fun j hj hnj => ?_) (fun j hj => ?_)
    · by_cases hjn : j = n
      · subst hjn
        rw [hat, hvt]
        refine or_congr Iff.rfl ⟨fun ⟨k, a, b, c, d, e⟩ => ⟨k, by omega, b, c, d, by rw [hbig k (by omega)]; exact e⟩, fun ⟨k, a, b, c, d, e⟩ => ?_⟩
        have hkj : k ≠ j := by
          rintro rfl
          have := hup (by omega)
          omega
        exact ⟨k, by omega, b, c, d, by rw [← hbig k (by omega)]; exact e⟩
      · rw [hbig j (by omega), h1 j hj (by omega)]
        refine or_congr Iff.rfl ⟨fun ⟨k, a, b, c, d, e⟩ => ⟨k, by omega, b, c, d, by rw [hbig k (by omega)]; exact e⟩, fun ⟨k, a, b, c, d, e⟩ => ?_⟩
        have hkj : k ≠ n := by
          rintro rfl
          have := hup (by omega)
          omega
        exact ⟨k, by omega, b, c, d, by rw [← hbig k (by omega)]; exact e⟩
    · -- below n
      have hx2 := h2 j (by omega)
      have hkk : ∀ k, (n ≤ k ∧ 1 ≤ k ∧ k < L.length ∧ kUp L k = j ∧ rB (hStep L x n) k = true) ↔ (k = n ∧ n ≠ 0 ∧ kUp L n = j ∧ v = true) ∨ (n + 1 ≤ k ∧ 1 ≤ k ∧ k < L.length ∧ kUp L k = j ∧ rB x k = true) := by
        intro k
        by_cases hkn : k = n
        · subst hkn
          rw [hat]
          constructor
          · rintro ⟨_, b, c, d, e⟩; exact .inl ⟨rfl, by omega, d, e⟩
          · rintro (⟨_, b, d, e⟩ | ⟨a, _⟩)
            · exact ⟨by omega, by omega, by omega, d, e⟩
            · omega
        · constructor
          · rintro ⟨a, b, c, d, e⟩; exact .inr ⟨by omega, b, c, d, by rw [← hbig k (by omega)]; exact e⟩
          · rintro (⟨a, _⟩ | ⟨a, b, c, d, e⟩)
            · exact absurd a hkn
            · exact ⟨by omega, b, c, d, by rw [hbig k (by omega)]; exact e⟩
      rw [hget]
      by_cases hc : n ≠ 0 ∧ j = kUp L n
      · rw [if_pos hc, Bool.or_eq_true, rB_set _ _ _ _ (by omega), if_neg (by omega), hx2]
        constructor
        · rintro (⟨k, hk⟩ | hvv)
          · exact ⟨k, (hkk k).2 (.inr hk)⟩
          · exact ⟨n, (hkk n).2 (.inl ⟨rfl, hc.1, hc.2.symm, hvv⟩)⟩
        · rintro ⟨k, hk⟩
          rcases (hkk k).1 hk with ⟨_, _, _, hvv⟩ | hk
          · exact .inr hvv
          · exact .inl ⟨k, hk⟩
      · rw [if_neg hc, if_neg (by omega), hx2]
        constructor
        · rintro ⟨k, hk⟩; exact ⟨k, (hkk k).2 (.inr hk)⟩
        · rintro ⟨k, hk⟩
          rcases (hkk k).1 hk with ⟨_, a, b, _⟩ | hk
          · exact absurd ⟨a, b.symm⟩ hc
          · exact ⟨k, hk⟩
theorem heir_of (L : List S32) (hL : FamOk L) : ∃ H, Ev (fun k => part_heir.f k L) H ∧ HasOk L H := by
  have ht := hL.top
  have h2 := hL.two
  have hrep : ∀ j, rB (List.replicate L.length false) j = false := fun j => by
    unfold rB rdOf
    simp only [Int.toNat_natCast, List.getD_eq_getElem?_getD, List.getElem?_replicate]
    split <;> rfl
  refine ⟨hRun L L.length (List.replicate L.length false), ?_, hRun_ok L hL L.length _ (Nat.le_refl _) (by simp) (fun j hj hn => by omega) (fun j hj => ?_)⟩
  · unfold part_heir.f
    refine Ev.ifp (by omega) (Ev.ifp (by omega) ?_)
    rw [w64 (x := (L.length : Int) - 1) (by omega) (by omega), Int.toNat_natCast]
    exact hRun_of L hL L.length _ (Nat.le_refl _) (by simp)
  · rw [hrep]
    constructor
    · intro h; cases h
    · rintro ⟨k, a, _, b, _⟩; omega
/-! #### greatest common divisors -/
theorem gcd_loop : ∀ (n : Nat) (a b : Nat), b ≤ n → Ev (fun k => part_gcd.l0 k (a : Int) (b : Int)) ((Nat.gcd a b : Nat) : Int)
  | 0, a, b, h => by
    have : b = 0 := by omega
    subst this
    exact Ev.step (f := fun _ => some (a : Int)) (fun k => by rw [part_gcd.l0, if_neg (by omega)]) (by rw [Nat.gcd_zero_right]; exact Ev.now _)
  | n + 1, a, b, h => by
    by_cases hb : b = 0
    · subst hb
      exact Ev.step (f := fun _ => some (a : Int)) (fun k => by rw [part_gcd.l0, if_neg (by omega)]) (by rw [Nat.gcd_zero_right]; exact Ev.now _)
    · have hm : a % b < b := Nat.mod_lt _ (by omega)
      have ih := gcd_loop n b (a % b) (by omega)
      rw [Nat.gcd_comm b, ← Nat.gcd_rec, Nat.gcd_comm b a] at ih
      refine Ev.step (f := fun k => part_gcd.l0 k (b : Int) ((a % b : Nat) : Int)) (fun k => ?_) ih
      rw [part_gcd.l0, if_pos (by omega), if_neg (by omega), tmodnn (by omega)]
      rfl
theorem gcd_of (a b : Nat) : Ev (fun k => part_gcd.f k (a : Int) (b : Int)) ((Nat.gcd a b : Nat) : Int) := gcd_loop b a b (Nat.le_refl _)
/-- in lowest terms -/
theorem Of_of (a b : Nat) (hb : 1 ≤ b) (ha : a ≤ 1073741824) (hb2 : b ≤ 1073741824) : Ev (fun k => part_Of.f k (a : Int) (b : Int)) (((a / Nat.gcd a b : Nat) : Int), ((b / Nat.gcd a b : Nat) : Int), 0) := by
  have hg : 1 ≤ Nat.gcd a b := Nat.gcd_pos_of_pos_right _ (by omega)
  have hg0 : ¬ ((Nat.gcd a b : Nat) : Int) = 0 := by omega
  have h1 : a / Nat.gcd a b ≤ a := Nat.div_le_self _ _
  have h2 : b / Nat.gcd a b ≤ b := Nat.div_le_self _ _
  unfold part_Of.f
  refine Ev.ifn (by omega) ?_
  rw [decide_eq_false (by omega)]
  refine Ev.step (fun k => by rw [part_Of.j0]) (Ev.ifn (by decide) (Ev.ifn (by omega) (Ev.bind (gcd_of a b) (Ev.ifn hg0 ?_))))
  obtain ⟨x, hx⟩ : ∃ x, x = a / Nat.gcd a b := ⟨_, rfl⟩
  obtain ⟨y, hy⟩ : ∃ y, y = b / Nat.gcd a b := ⟨_, rfl⟩
  rw [← hx] at h1
  rw [← hy] at h2
  have ex : Int.tdiv (a : Int) ((Nat.gcd a b : Nat) : Int) = (x : Int) := by rw [tdivnn (by omega), hx]; rfl
  have ey : Int.tdiv (b : Int) ((Nat.gcd a b : Nat) : Int) = (y : Int) := by rw [tdivnn (by omega), hy]; rfl
  rw [ex, ey, ← hx, ← hy]
  clear hx hy ex ey
  rw [w64 (x := (x : Int)) (by omega) (by omega), w64 (x := (y : Int)) (by omega) (by omega)]
  exact Ev.ifn (by omega) (Ev.ifn (by omega) (Ev.to rfl))
theorem Of_one (D : Nat) (h1 : 1 ≤ D) (h2 : D ≤ 1073741824) : Ev (fun k => part_Of.f k 1 (D : Int)) (1, (D : Int), 0) := by
  have := Of_of 1 D h1 (by omega) h2
  rw [Nat.gcd_one_left, Nat.div_one, Nat.div_one] at this
  exact this
/-! #### how many children have heirs -/
def mc (L : List S32) (H : List Bool) : Nat → Nat → Nat
  | 0, _ => 0
  | n + 1, j => mc L H n j + (if 1 ≤ n ∧ kUp L n = j ∧ rB H n = true then 1 else 0)
theorem mc_mono (L : List S32) (H : List Bool) (j : Nat) : ∀ (m n : Nat), mc L H n j ≤ mc L H (n + m) j
  | 0, n => Nat.le_refl _
  | m + 1, n => by
    have := mc_mono L H j m n
    rw [show n + (m + 1) = n + m + 1 by omega, mc]; omega
theorem mc_zero (L : List S32) (hL : FamOk L) (H : List Bool) (j : Nat) : ∀ n, n ≤ j + 1 → n ≤ L.length → mc L H n j = 0
  | 0, _, _ => rfl
  | n + 1, h, hl => by
    rw [mc, mc_zero L hL H j n (by omega) (by omega), if_neg]
    rintro ⟨a, b, _⟩
    have hu := hL.up n a (by omega)
    unfold kUp at b; omega
theorem mc_pos (L : List S32) (H : List Bool) (j k : Nat) (h1 : 1 ≤ k) (h2 : kUp L k = j) (h3 : rB H k = true) : ∀ n, k < n → 1 ≤ mc L H n j
  | 0, h => by omega
  | n + 1, h => by
    rw [mc]
    by_cases hk : k = n
    · subst hk; rw [if_pos ⟨h1, h2, h3⟩]; omega
    · have := mc_pos L H j k h1 h2 h3 n (by omega); omega
def sumM (f : Nat → Nat) : Nat → Nat
  | 0 => 0
  | n + 1 => sumM f n + f n
theorem sumM_add (f g : Nat → Nat) : ∀ n, sumM (fun j => f j + g j) n = sumM f n + sumM g n
  | 0 => rfl
  | n + 1 => by rw [sumM, sumM, sumM, sumM_add f g n]; omega
theorem sumM_zero : ∀ n, sumM (fun _ => 0) n = 0
  | 0 => rfl
  | n + 1 => by rw [sumM, sumM_zero n]
theorem sumM_one (u : Nat) (p : Prop) [Decidable p] : ∀ n, sumM (fun j => if 1 ≤ 1 ∧ u = j ∧ p then 1 else 0) n ≤ (if u < n then 1 else 0)
  | 0 => by simp [sumM]
  | n + 1 => by
    have := sumM_one u p n
    rw [sumM]
    by_cases h : u = n
    · subst h
      rw [if_neg (Nat.lt_irrefl u)] at this
      rw [if_pos (Nat.lt_succ_self u)]
      split <;> omega
    · rw [if_neg (by rintro ⟨_, b, _⟩; exact h b)]
      split at this <;> split <;> omega
theorem sumM_mc (L : List S32) (H : List Bool) (N : Nat) : ∀ n, sumM (mc L H n) N ≤ n - 1
  | 0 => by rw [show mc L H 0 = fun _ => 0 from rfl, sumM_zero]; omega
  | n + 1 => by
    have ih := sumM_mc L H N n
    have e : mc L H (n + 1) = fun j => mc L H n j + (if 1 ≤ n ∧ kUp L n = j ∧ rB H n = true then 1 else 0) := rfl
    rw [e, sumM_add]
    by_cases hn : 1 ≤ n
    · have h1 := sumM_one (kUp L n) (rB H n = true) N
      have e2 : (fun j => if 1 ≤ n ∧ kUp L n = j ∧ rB H n = true then 1 else 0) = fun j => if 1 ≤ 1 ∧ kUp L n = j ∧ rB H n = true then 1 else 0 := by
        funext j; simp [hn]
      rw [e2]
      split at h1 <;> omega
    · have e2 : (fun j => if 1 ≤ n ∧ kUp L n = j ∧ rB H n = true then 1 else 0) = fun _ => 0 := by
        funext j; rw [if_neg (fun h => hn h.1)]
      rw [e2, sumM_zero]; omega
/-- a product of numbers is at most 2 to their sum -/
def prodM (f : Nat → Nat) : Nat → Nat
  | 0 => 1
  | n + 1 => prodM f n * max 1 (f n)
theorem prodM_pos (f : Nat → Nat) : ∀ n, 1 ≤ prodM f n
  | 0 => Nat.le_refl _
  | n + 1 => Nat.mul_pos (prodM_pos f n) (by omega)
theorem prodM_le (f : Nat → Nat) : ∀ n, prodM f n ≤ 2 ^ sumM f n
  | 0 => Nat.le_refl _
  | n + 1 => by
    rw [prodM, sumM, Nat.pow_add]
    have h2 : f n < 2 ^ f n := Nat.lt_two_pow_self
    exact Nat.mul_le_mul (prodM_le f n) (by omega)
theorem prodM_dvd (f : Nat → Nat) : ∀ m n, prodM f n ∣ prodM f (n + m)
  | 0, n => Nat.dvd_refl _
  | m + 1, n => Nat.dvd_trans (prodM_dvd f m n) (by rw [show n + (m + 1) = n + m + 1 by omega, prodM]; exact Nat.dvd_mul_right _ _)
def mlist (L : List S32) (H : List Bool) (n : Nat) : List Int := (List.range L.length).map fun j => ((mc L H n j : Nat) : Int)
theorem mlist_len (L : List S32) (H : List Bool) (n : Nat) : (mlist L H n).length = L.length := by unfold mlist; simp
theorem mlist_rd (L : List S32) (H : List Bool) (n j : Nat) (hj : j < L.length) : rd (mlist L H n) (j : Int) = ((mc L H n j : Nat) : Int) := by
  unfold mlist rd
  simp [List.getD, hj]
theorem mlist_get (L : List S32) (H : List Bool) (n j : Nat) (h : j < (mlist L H n).length) : (mlist L H n)[j] = ((mc L H n j : Nat) : Int) := by simp [mlist]
theorem mlist_zero (L : List S32) (hL : FamOk L) (H : List Bool) : List.replicate L.length (0 : Int) = mlist L H 1 := by
  have h2 := hL.two
  apply List.ext_getElem
  · rw [mlist_len]; simp
  · intro j h1 h3
    rw [mlist_len] at h3
    rw [List.getElem_replicate, mlist_get, mc_zero L hL H j 1 (by omega) (by omega)]; rfl
theorem mlist_step (L : List S32) (H : List Bool) (n : Nat) (h1 : 1 ≤ n) (hb : rB H n = true) (hu : kUp L n < L.length) : (mlist L H n).set (kUp L n) (((mc L H n (kUp L n) : Nat) : Int) + 1) = mlist L H (n + 1) := by
  apply List.ext_getElem
  · simp [mlist]
  · intro j h2 h3
    rw [mlist_len] at h3
    rw [List.getElem_set, mlist_get, mlist_get]
    by_cases hj : kUp L n = j
    · rw [if_pos hj, mc, if_pos ⟨h1, hj, hb⟩, hj]; omega
    · rw [if_neg hj, mc, if_neg (by rintro ⟨_, b, _⟩; exact hj b)]; omega
theorem mlist_skip (L : List S32) (H : List Bool) (n : Nat) (hb : ¬ rB H n = true) : mlist L H n = mlist L H (n + 1) := by
  unfold mlist
  refine List.map_congr_left fun j _ => ?_
  rw [mc, if_neg (by rintro ⟨_, _, c⟩; exact hb c)]; omega
theorem many_loop (L : List S32) (hL : FamOk L) (H : List Bool) (hH : H.length = L.length) (r : List S35 × Int)
    (hr : Ev (fun k => part_Heirs.l1 k L H (mlist L H L.length) ((List.replicate L.length z35).set 0 ⟨0, 1⟩) ((List.replicate L.length z35).set 0 ⟨1, 1⟩) 1) r) :
    ∀ (n i : Nat), i + n + 1 = L.length → Ev (fun k => part_Heirs.l0 k L H (mlist L H (i + 1)) (L.drop 1) ((L.drop 1).length : Int) (i : Int)) r
  | 0, i, h => by
    have ht := hL.top
    have h2 := hL.two
    refine Ev.step (fun k => by rw [part_Heirs.l0]) (Ev.ifn (by simp; omega) (Ev.ifp (by omega) (Ev.ifp (by omega) ?_)))
    rw [h]
    simp only [Option.bind_some, Int.toNat_natCast]
    refine Ev.ifp (by simp; omega) (Ev.ifp (by simp; omega) ?_)
    exact hr
  | n + 1, i, h => by
    have ht := hL.top
    have hu := hL.up (i + 1) (by omega) (by omega)
    have hd : rd_T32 (L.drop 1) (i : Int) = rd_T32 L ((i + 1 : Nat) : Int) := by
      rw [rdK _ _ (by simp; omega), rdK _ _ (by omega)]; simp [Nat.add_comm]
    have hl : (L.drop 1).length = L.length - 1 := by simp
    have hk : ((kUp L (i + 1) : Nat) : Int) = (rd_T32 L ((i + 1 : Nat) : Int)).f0 := by unfold kUp; omega
    have ih := many_loop L hL H hH r hr n (i + 1) (by omega)
    refine Ev.step (fun k => by rw [part_Heirs.l0]) ?_
    rw [hd, w64 (x := (i : Int) + 1) (by omega) (by omega), show (i : Int) + 1 = ((i + 1 : Nat) : Int) by omega]
    refine Ev.ifp (by omega) (Ev.ifp (by omega) (Ev.ifp (by omega) (Ev.ifp (by omega) (Ev.ifp (by omega) ?_))))
    by_cases hb : rB H (i + 1) = true
    · refine Ev.ifp hb (Ev.ifp (by omega) (Ev.ifp (by rw [mlist_len]; omega) ?_))
      rw [← hk, mlist_rd _ _ _ _ (by omega), Int.toNat_natCast, w64 (x := ((mc L H (i + 1) (kUp L (i + 1)) : Nat) : Int) + 1) (by omega) (by have := mc_le L H (kUp L (i + 1)) (i + 1); omega), mlist_step L H (i + 1) (by omega) hb (by omega)]
      exact ih
    · refine Ev.ifn hb ?_
      rw [mlist_skip L H (i + 1) hb]
      exact ih
  where
  mc_le (L : List S32) (H : List Bool) (j : Nat) : ∀ n, mc L H n j ≤ n
  | 0 => Nat.le_refl _
  | n + 1 => by have := mc_le L H j n; rw [mc]; split <;> omega
/-! #### the parts of an estate -/
def rR (l : List S35) (j : Nat) : S35 := rd_T35 l (j : Int)
theorem rR_get (l : List S35) (j : Nat) (h : j < l.length) : rR l j = l[j] := by
  unfold rR rd_T35
  simp [List.getD, h]
theorem rR_set (l : List S35) (i j : Nat) (v : S35) (h : i < l.length) : rR (l.set i v) j = if j = i then v else rR l j := by
  unfold rR rd_T35
  simp only [Int.toNat_natCast, List.getD_eq_getElem?_getD, List.getElem?_set]
  by_cases hj : i = j
  · subst hj; simp [h]
  · rw [if_neg hj, if_neg (by omega)]
def sumN (f : Nat → Int) : Nat → Int
  | 0 => 0
  | n + 1 => sumN f n + f n
theorem sumN_congr (f g : Nat → Int) : ∀ n, (∀ j, j < n → f j = g j) → sumN f n = sumN g n
  | 0, _ => rfl
  | n + 1, h => by rw [sumN, sumN, sumN_congr f g n (fun j hj => h j (by omega)), h n (by omega)]
theorem sumN_zero (f : Nat → Int) : ∀ n, (∀ j, j < n → f j = 0) → sumN f n = 0
  | 0, _ => rfl
  | n + 1, h => by rw [sumN, sumN_zero f n (fun j hj => h j (by omega)), h n (by omega)]; rfl
theorem sumN_one (f : Nat → Int) (c : Int) (u : Nat) : ∀ n, sumN (fun j => f j - if j = u then c else 0) n = sumN f n - (if u < n then c else 0)
  | 0 => by simp [sumN]
  | n + 1 => by
    rw [sumN, sumN, sumN_one f c u n]
    by_cases h : n = u
    · subst h; rw [if_neg (by omega), if_pos rfl, if_pos (by omega)]; omega
    · by_cases h2 : u < n
      · rw [if_pos h2, if_neg h, if_pos (by omega)]; omega
      · rw [if_neg h2, if_neg h, if_neg (by omega)]; omega
inductive Free (L : List S32) : Nat → Prop
  | root : Free L 0
  | step (j : Nat) (h1 : 1 ≤ j) (h2 : kAl L (kUp L j) = false) (h3 : Free L (kUp L j)) : Free L j
theorem Free.inv {L : List S32} {j : Nat} (h : Free L j) (h1 : 1 ≤ j) : kAl L (kUp L j) = false ∧ Free L (kUp L j) := by
  cases h with
  | root => omega
  | step _ _ h2 h3 => exact ⟨h2, h3⟩
def kM (L : List S32) (H : List Bool) (j : Nat) : Nat := mc L H L.length j
def kP (L : List S32) (H : List Bool) : Nat := prodM (kM L H) L.length
def sh (P : Nat) (r : S35) : Int := if r.f0 = 0 then 0 else ((P / r.f1.toNat : Nat) : Int)
def cs (P : Nat) (r : S35) (m : Nat) : Int := if r.f0 = 0 then 0 else ((P / (r.f1.toNat * m) : Nat) : Int)
structure Inv (L : List S32) (H : List Bool) (i : Nat) (out pas : List S35) : Prop where
  lo : out.length = L.length
  lp : pas.length = L.length
  pz : ∀ j, j < i → rR pas j = ⟨0, 1⟩ ∨ ∃ D : Nat, rR pas j = ⟨1, (D : Int)⟩ ∧ 1 ≤ D ∧ 1 ≤ kM L H j ∧ D * kM L H j ∣ prodM (kM L H) (j + 1)
  oz : ∀ j, j < i → rR out j = ⟨0, 1⟩ ∨ ∃ D : Nat, rR out j = ⟨1, (D : Int)⟩ ∧ 1 ≤ D ∧ D ∣ kP L H
  sm : sumN (fun j => sh (kP L H) (rR out j)) i + sumN (fun j => cs (kP L H) (rR pas j) (kM L H j) * ((kM L H j : Nat) - (mc L H i j : Nat) : Int)) i = (kP L H : Nat)
  e1 : ∀ j, j < i → ((rR out j).f0 ≠ 0 ↔ kAl L j = true ∧ Free L j)
  e2 : ∀ j, j < i → ((rR pas j).f0 ≠ 0 ↔ rB H j = true ∧ kAl L j = false ∧ Free L j)
theorem kP_small (L : List S32) (hL : FamOk L) (H : List Bool) : kP L H ≤ 4096 := by
  have ht := hL.top
  have h1 := prodM_le (kM L H) L.length
  have h2 : sumM (kM L H) L.length ≤ L.length - 1 := sumM_mc L H L.length L.length
  have h3 : 2 ^ sumM (kM L H) L.length ≤ 2 ^ 12 := Nat.pow_le_pow_right (by omega) (by omega)
  unfold kP
  exact Nat.le_trans h1 h3
theorem kM_pos (L : List S32) (H : List Bool) (hH : HasOk L H) (j : Nat) (hj : j < L.length) (h : rB H j = true) (ha : kAl L j = false) : 1 ≤ kM L H j := by
  rcases (hH.2 j hj).1 h with h1 | ⟨k, k1, k2, k3, k4⟩
  · rw [ha] at h1; cases h1
  · exact mc_pos L H j k k1 k3 k4 L.length k2
theorem inv_first (L : List S32) (hL : FamOk L) (H : List Bool) (hH : HasOk L H) (h0 : rB H 0 = true) : Inv L H 1 ((List.replicate L.length z35).set 0 ⟨0, 1⟩) ((List.replicate L.length z35).set 0 ⟨1, 1⟩) := by
  have h2 := hL.two
  have hal : kAl L 0 = false := hL.root.2
  have hM := kM_pos L H hH 0 (by omega) h0 hal
  have ro : rR ((List.replicate L.length z35).set 0 ⟨0, 1⟩) 0 = ⟨0, 1⟩ := by rw [rR_set _ _ _ _ (by simp; omega), if_pos rfl]
  have rp : rR ((List.replicate L.length z35).set 0 ⟨1, 1⟩) 0 = ⟨1, 1⟩ := by rw [rR_set _ _ _ _ (by simp; omega), if_pos rfl]
  have hQ : prodM (kM L H) 1 = kM L H 0 := by rw [prodM, prodM, Nat.one_mul]; omega
  have hd : kM L H 0 ∣ kP L H := by
    rw [← hQ]; have := prodM_dvd (kM L H) (L.length - 1) 1; rw [show 1 + (L.length - 1) = L.length by omega] at this; exact this
  refine ⟨by simp, by simp, fun j hj => ?_, fun j hj => ?_, ?_, fun j hj => ?_, fun j hj => ?_⟩
  · obtain rfl : j = 0 := by omega
    refine .inr ⟨1, rp, by omega, hM, ?_⟩
    rw [Nat.one_mul, hQ]; exact Nat.dvd_refl _
  · obtain rfl : j = 0 := by omega
    exact .inl ro
  · simp only [sumN]
    rw [ro, rp, mc_zero L hL H 0 1 (by omega) (by omega)]
    unfold sh cs
    rw [if_pos rfl, if_neg (by decide)]
    have := Nat.div_mul_cancel hd
    simp only [Int.toNat_one, Nat.one_mul, Int.natCast_zero, Int.sub_zero, Int.zero_add]
    rw [← Int.natCast_mul, this]
  · obtain rfl : j = 0 := by omega
    rw [ro, hal]
    exact ⟨fun h => absurd rfl h, fun h => by cases h.1⟩
  · obtain rfl : j = 0 := by omega
    rw [rp]
    exact ⟨fun _ => ⟨h0, hal, Free.root⟩, fun _ => by decide⟩
/-- one more member: what it hands on and what it gets -/
theorem inv_step (L : List S32) (hL : FamOk L) (H : List Bool) (hH : HasOk L H) (i : Nat) (i1 : 1 ≤ i) (i2 : i < L.length) (out pas out' pas' : List S35) (I : Inv L H i out pas) (ro rp : S35)
    (lo : out'.length = L.length) (lp : pas'.length = L.length) (go : ∀ j, rR out' j = if j = i then ro else rR out j) (gp : ∀ j, rR pas' j = if j = i then rp else rR pas j)
    (hpz : rp = ⟨0, 1⟩ ∨ ∃ D : Nat, rp = ⟨1, (D : Int)⟩ ∧ 1 ≤ D ∧ 1 ≤ kM L H i ∧ D * kM L H i ∣ prodM (kM L H) (i + 1))
    (hoz : ro = ⟨0, 1⟩ ∨ ∃ D : Nat, ro = ⟨1, (D : Int)⟩ ∧ 1 ≤ D ∧ D ∣ kP L H)
    (hsm : sh (kP L H) ro + cs (kP L H) rp (kM L H i) * (kM L H i : Nat) = if rB H i = true then cs (kP L H) (rR pas (kUp L i)) (kM L H (kUp L i)) else 0)
    (he1 : ro.f0 ≠ 0 ↔ kAl L i = true ∧ Free L i) (he2 : rp.f0 ≠ 0 ↔ rB H i = true ∧ kAl L i = false ∧ Free L i) : Inv L H (i + 1) out' pas' := by
  have hu : kUp L i < i := by have := hL.up i i1 i2; unfold kUp; omega
  refine ⟨lo, lp, fun j hj => ?_, fun j hj => ?_, ?_, fun j hj => ?_, fun j hj => ?_⟩
  · rw [gp]; by_cases h : j = i
    · rw [if_pos h, h]; exact hpz
    · rw [if_neg h]; exact I.pz j (by omega)
  · rw [go]; by_cases h : j = i
    · rw [if_pos h]; exact hoz
    · rw [if_neg h]; exact I.oz j (by omega)
  · rw [sumN, sumN, sumN_congr (fun j => sh (kP L H) (rR out' j)) (fun j => sh (kP L H) (rR out j)) i (fun j hj => by rw [go, if_neg (by omega)])]
    rw [sumN_congr (fun j => cs (kP L H) (rR pas' j) (kM L H j) * ((kM L H j : Nat) - (mc L H (i + 1) j : Nat) : Int)) (fun j => (cs (kP L H) (rR pas j) (kM L H j) * ((kM L H j : Nat) - (mc L H i j : Nat) : Int)) - if j = kUp L i then (if rB H i = true then cs (kP L H) (rR pas (kUp L i)) (kM L H (kUp L i)) else 0) else 0) i (fun j hj => by
      rw [gp, if_neg (by omega), mc]
      by_cases hju : j = kUp L i
      · rw [if_pos hju]
        by_cases hb : rB H i = true
        · rw [if_pos ⟨i1, hju.symm, hb⟩, if_pos hb, ← hju]
          rw [show (((kM L H j : Nat) : Int) - ((mc L H i j + 1 : Nat) : Int)) = ((kM L H j : Nat) : Int) - (mc L H i j : Nat) - 1 by omega, Int.mul_sub _ _ 1, Int.mul_one]
        · rw [if_neg (by rintro ⟨_, _, c⟩; exact hb c), if_neg hb]; simp
      · rw [if_neg hju, if_neg (by rintro ⟨_, b, _⟩; exact hju b.symm)]; simp)]
    rw [sumN_one, if_pos hu]
    simp only [go, gp, if_pos]
    rw [mc_zero L hL H i (i + 1) (by omega) (by omega)]
    have := I.sm
    simp only [Int.natCast_zero, Int.sub_zero] at hsm ⊢
    omega
  · rw [go]; by_cases h : j = i
    · rw [if_pos h, h]; exact he1
    · rw [if_neg h]; exact I.e1 j (by omega)
  · rw [gp]; by_cases h : j = i
    · rw [if_pos h, h]; exact he2
    · rw [if_neg h]; exact I.e2 j (by omega)
theorem heirs_loop (L : List S32) (hL : FamOk L) (H : List Bool) (hH : HasOk L H) : ∀ (n i : Nat) (out pas : List S35), i + n = L.length → 1 ≤ i → Inv L H i out pas →
    ∃ out' pas', Ev (fun k => part_Heirs.l1 k L H (mlist L H L.length) out pas (i : Int)) (out', 0) ∧ Inv L H L.length out' pas'
  | 0, i, out, pas, h, i1, I => by
    obtain rfl : i = L.length := by omega
    exact ⟨out, pas, Ev.step (f := fun _ => some (out, 0)) (fun k => by rw [part_Heirs.l1, if_neg (by omega)]) (Ev.now _), I⟩
  | n + 1, i, out, pas, h, i1, I => by
    have ht := hL.top
    have hup := hL.up i i1 (by omega)
    have hu : kUp L i < i := by unfold kUp; omega
    have hku : ((kUp L i : Nat) : Int) = (rd_T32 L (i : Int)).f0 := by unfold kUp; omega
    have hHl := hH.1
    have hlo := I.lo
    have hlp := I.lp
    have hw : wrap64 ((i : Int) + 1) = ((i + 1 : Nat) : Int) := by rw [w64 (by omega) (by omega)]; omega
    -- the way on with nothing handed on
    have skip : Inv L H (i + 1) (out.set i ⟨0, 1⟩) (pas.set i ⟨0, 1⟩) → ∃ out' pas', Ev (fun k => part_Heirs.j2 k L H (mlist L H L.length) (out.set i ⟨0, 1⟩) pas (i : Int) (rd_T32 L (i : Int)).f0 true) (out', 0) ∧ Inv L H L.length out' pas' := by
      intro J
      obtain ⟨o, q, e, J'⟩ := heirs_loop L hL H hH n (i + 1) _ _ (by omega) (by omega) J
      refine ⟨o, q, ?_, J'⟩
      refine Ev.step (fun k => by rw [part_Heirs.j2]) (Ev.ifp rfl (Ev.ifp (by omega) (Ev.ifp (by omega) ?_)))
      rw [hw, Int.toNat_natCast]
      exact e
    have nothing : (rB H i = true → (rR pas (kUp L i)).f0 = 0) → Inv L H (i + 1) (out.set i ⟨0, 1⟩) (pas.set i ⟨0, 1⟩) := by
      intro hz
      have notFree : rB H i = true → ¬ Free L i := fun hb hf => by
        have hfi := hf.inv i1
        have hHu : rB H (kUp L i) = true := (hH.2 (kUp L i) (by omega)).2 (.inr ⟨i, i1, by omega, rfl, hb⟩)
        exact (I.e2 (kUp L i) hu).2 ⟨hHu, hfi.1, hfi.2⟩ (hz hb)
      refine inv_step L hL H hH i i1 (by omega) out pas _ _ I ⟨0, 1⟩ ⟨0, 1⟩ (by simp [hlo]) (by simp [hlp]) (fun j => rR_set _ _ _ _ (by omega)) (fun j => rR_set _ _ _ _ (by omega)) (.inl rfl) (.inl rfl) ?_ ?_ ?_
      · by_cases hb : rB H i = true
        · rw [if_pos hb]; unfold sh cs; rw [if_pos rfl, if_pos rfl, if_pos (hz hb)]; omega
        · rw [if_neg hb]; unfold sh cs; rw [if_pos rfl, if_pos rfl]; omega
      · refine ⟨fun h => absurd rfl h, fun ⟨ha, hf⟩ => ?_⟩
        exact absurd hf (notFree ((hH.2 i (by omega)).2 (.inl ha)))
      · exact ⟨fun h => absurd rfl h, fun ⟨hb, _, hf⟩ => absurd hf (notFree hb)⟩
    have head : ∀ {r : List S35 × Int}, (Ev (fun k => if rdOf false H (i : Int) = true then (if 0 ≤ (rd_T32 L (i : Int)).f0 then (if (rd_T32 L (i : Int)).f0 < (pas.length : Int) then (part_Heirs.j2 k L H (mlist L H L.length) (out.set i ⟨0, 1⟩) pas (i : Int) (rd_T32 L (i : Int)).f0 ((rd_T35 pas (rd_T32 L (i : Int)).f0).f0 == 0)) else none) else none) else (part_Heirs.j2 k L H (mlist L H L.length) (out.set i ⟨0, 1⟩) pas (i : Int) (rd_T32 L (i : Int)).f0 true)) r) → Ev (fun k => part_Heirs.l1 k L H (mlist L H L.length) out pas (i : Int)) r := by
      intro r hr
      refine Ev.step (fun k => by rw [part_Heirs.l1]) (Ev.ifp (by omega) (Ev.ifp (by omega) (Ev.ifp (by omega) ?_)))
      simp only [Option.bind_some, Int.toNat_natCast]
      exact Ev.ifp (by omega) hr
    have hru : rd_T35 pas (rd_T32 L (i : Int)).f0 = rR pas (kUp L i) := by unfold rR; rw [hku]
    by_cases hb : rB H i = true
    · by_cases hz : (rR pas (kUp L i)).f0 = 0
      · obtain ⟨o, q, e, J⟩ := skip (nothing fun _ => hz)
        refine ⟨o, q, head (Ev.ifp hb (Ev.ifp (by omega) (Ev.ifp (by omega) ?_))), J⟩
        rw [hru, hz]
        exact e
      · -- a share is handed on
        obtain ⟨D, hD, D1, M1, Dd⟩ : ∃ D : Nat, rR pas (kUp L i) = ⟨1, (D : Int)⟩ ∧ 1 ≤ D ∧ 1 ≤ kM L H (kUp L i) ∧ D * kM L H (kUp L i) ∣ prodM (kM L H) (kUp L i + 1) := by
          rcases I.pz (kUp L i) hu with h | h
          · rw [h] at hz; exact absurd rfl hz
          · exact h
        obtain ⟨E, hE⟩ : ∃ E, E = D * kM L H (kUp L i) := ⟨_, rfl⟩
        rw [← hE] at Dd
        have E1 : 1 ≤ E := by rw [hE]; exact Nat.mul_pos D1 M1
        have dQi : E ∣ prodM (kM L H) i := by
          have := prodM_dvd (kM L H) (i - (kUp L i + 1)) (kUp L i + 1)
          rw [show kUp L i + 1 + (i - (kUp L i + 1)) = i by omega] at this
          exact Nat.dvd_trans Dd this
        have dP : ∀ j, j ≤ L.length → prodM (kM L H) j ∣ kP L H := fun j hj => by
          have := prodM_dvd (kM L H) (L.length - j) j
          rw [show j + (L.length - j) = L.length by omega] at this
          exact this
        have EP : E ∣ kP L H := Nat.dvd_trans dQi (dP i (by omega))
        have Psm := kP_small L hL H
        have Ppos : 1 ≤ kP L H := prodM_pos _ _
        have Ele : E ≤ 4096 := Nat.le_trans (Nat.le_of_dvd (by omega) EP) Psm
        have hfree : Free L i := by
          have := (I.e2 (kUp L i) hu).1 (by rw [hD]; exact (by decide : (1 : Int) ≠ 0))
          exact Free.step i i1 this.2.1 this.2.2
        have hcs : cs (kP L H) (rR pas (kUp L i)) (kM L H (kUp L i)) = ((kP L H / E : Nat) : Int) := by
          rw [hD]; unfold cs; rw [if_neg (by decide : ¬ (1 : Int) = 0), hE]; simp
        have hOf := Of_one E E1 (by omega)
        have hmr : rd (mlist L H L.length) (rd_T32 L (i : Int)).f0 = ((kM L H (kUp L i) : Nat) : Int) := by
          rw [← hku, mlist_rd _ _ _ _ (by omega)]; rfl
        have hmul : wrap64 ((rR pas (kUp L i)).f1 * rd (mlist L H L.length) (rd_T32 L (i : Int)).f0) = (E : Int) := by
          rw [hmr, hD]
          show wrap64 ((D : Int) * ((kM L H (kUp L i) : Nat) : Int)) = (E : Int)
          rw [← Int.natCast_mul, ← hE, w64 (by omega) (by omega)]
        have hf1 : (rR pas (kUp L i)).f0 = 1 := by rw [hD]
        have go2 : ∀ (o q : List S35), (if (rd_T32 L (i : Int)).f1 = true then Ev (fun k => part_Heirs.l1 k L H (mlist L H L.length) ((out.set i ⟨0, 1⟩).set i ⟨1, (E : Int)⟩) ((pas.set i ⟨1, (E : Int)⟩).set i ⟨0, 1⟩) ((i + 1 : Nat) : Int)) (o, 0) else Ev (fun k => part_Heirs.l1 k L H (mlist L H L.length) (out.set i ⟨0, 1⟩) (pas.set i ⟨1, (E : Int)⟩) ((i + 1 : Nat) : Int)) (o, 0)) → Ev (fun k => part_Heirs.l1 k L H (mlist L H L.length) out pas (i : Int)) (o, 0) := by
          intro o q hev
          refine head (Ev.ifp hb (Ev.ifp (by omega) (Ev.ifp (by omega) ?_)))
          rw [hru, hf1]
          refine Ev.step (fun k => by rw [part_Heirs.j2]) (Ev.ifn (by decide) (Ev.ifp (by omega) (Ev.ifp (by omega) (Ev.ifp (by rw [mlist_len]; omega) ?_))))
          rw [hru, hmul, hf1]
          refine Ev.bind hOf (Ev.ifp rfl (Ev.ifp (by omega) (Ev.ifp (by omega) ?_)))
          simp only [Option.bind_some, Int.toNat_natCast]
          rw [hw]
          refine Ev.ifp (by omega) ?_
          by_cases hal : (rd_T32 L (i : Int)).f1 = true
          · rw [if_pos hal] at hev
            exact Ev.ifp hal (Ev.ifp (by simp; omega) hev)
          · rw [if_neg hal] at hev
            exact Ev.ifn hal hev
        by_cases hal : kAl L i = true
        · have J : Inv L H (i + 1) ((out.set i ⟨0, 1⟩).set i ⟨1, (E : Int)⟩) ((pas.set i ⟨1, (E : Int)⟩).set i ⟨0, 1⟩) := by
            refine inv_step L hL H hH i i1 (by omega) out pas _ _ I ⟨1, (E : Int)⟩ ⟨0, 1⟩ (by simp [hlo]) (by simp [hlp]) (fun j => ?_) (fun j => ?_) (.inl rfl) (.inr ⟨E, rfl, E1, EP⟩) ?_ ⟨fun _ => ⟨hal, hfree⟩, fun _ => (by decide : (1 : Int) ≠ 0)⟩ ⟨fun h => absurd rfl h, fun h => by rw [hal] at h; cases h.2.1⟩
            · rw [rR_set _ _ _ _ (by simp; omega)]; by_cases hj : j = i
              · rw [if_pos hj, if_pos hj]
              · rw [if_neg hj, if_neg hj, rR_set _ _ _ _ (by omega), if_neg hj]
            · rw [rR_set _ _ _ _ (by simp; omega)]; by_cases hj : j = i
              · rw [if_pos hj, if_pos hj]
              · rw [if_neg hj, if_neg hj, rR_set _ _ _ _ (by omega), if_neg hj]
            · rw [if_pos hb, hcs]; unfold sh cs; rw [if_neg (by decide : ¬ (1 : Int) = 0), if_pos rfl]; simp
          obtain ⟨o, q, e, J'⟩ := heirs_loop L hL H hH n (i + 1) _ _ (by omega) (by omega) J
          refine ⟨o, q, go2 o q ?_, J'⟩
          rw [if_pos (show (rd_T32 L (i : Int)).f1 = true from hal)]
          exact e
        · have hal' : kAl L i = false := by simpa using hal
          have M2 := kM_pos L H hH i (by omega) hb hal'
          have dE : E * kM L H i ∣ prodM (kM L H) (i + 1) := by
            rw [prodM, show max 1 (kM L H i) = kM L H i by omega]; exact Nat.mul_dvd_mul_right dQi _
          have dEP : E * kM L H i ∣ kP L H := Nat.dvd_trans dE (dP (i + 1) (by omega))
          have J : Inv L H (i + 1) (out.set i ⟨0, 1⟩) (pas.set i ⟨1, (E : Int)⟩) := by
            refine inv_step L hL H hH i i1 (by omega) out pas _ _ I ⟨0, 1⟩ ⟨1, (E : Int)⟩ (by simp [hlo]) (by simp [hlp]) (fun j => rR_set _ _ _ _ (by omega)) (fun j => rR_set _ _ _ _ (by omega)) (.inr ⟨E, rfl, E1, M2, dE⟩) (.inl rfl) ?_ ⟨fun h => absurd rfl h, fun h => by rw [hal'] at h; cases h.1⟩ ⟨fun _ => ⟨hb, hal', hfree⟩, fun _ => (by decide : (1 : Int) ≠ 0)⟩
            rw [if_pos hb, hcs]; unfold sh cs; rw [if_pos rfl, if_neg (by decide : ¬ (1 : Int) = 0), Int.zero_add, ← Int.natCast_mul]
            congr 1
            show kP L H / (((E : Int)).toNat * kM L H i) * kM L H i = kP L H / E
            rw [Int.toNat_natCast]
            obtain ⟨t, ht2⟩ := dEP
            rw [ht2, Nat.mul_div_cancel_left _ (Nat.mul_pos E1 M2), Nat.mul_assoc, Nat.mul_div_cancel_left _ E1]
            exact Nat.mul_comm _ _
          obtain ⟨o, q, e, J'⟩ := heirs_loop L hL H hH n (i + 1) _ _ (by omega) (by omega) J
          refine ⟨o, q, go2 o q ?_, J'⟩
          rw [if_neg (show ¬ (rd_T32 L (i : Int)).f1 = true from hal)]
          exact e
    · obtain ⟨o, q, e, J⟩ := skip (nothing fun h => absurd h hb)
      exact ⟨o, q, head (Ev.ifn hb e), J⟩
/-- the parts of an estate: unit fractions or nothing, together the whole -/
theorem heirs_of (L : List S32) (hL : FamOk L) (H : List Bool) (hEv : Ev (fun k => part_heir.f k L) H) (hH : HasOk L H) (h0 : rB H 0 = true) :
    ∃ out, Ev (fun k => part_Heirs.f k L) (out, 0) ∧ out.length = L.length ∧ (∀ j, j < L.length → rR out j = ⟨0, 1⟩ ∨ ∃ D : Nat, rR out j = ⟨1, (D : Int)⟩ ∧ 1 ≤ D ∧ D ∣ kP L H) ∧ sumN (fun j => sh (kP L H) (rR out j)) L.length = (kP L H : Nat) ∧ (∀ j, j < L.length → ((rR out j).f0 ≠ 0 ↔ kAl L j = true ∧ Free L j)) := by
  have h2 := hL.two
  have ht := hL.top
  have hHl := hH.1
  obtain ⟨out, pas, e, I⟩ := heirs_loop L hL H hH (L.length - 1) 1 _ _ (by omega) (Nat.le_refl _) (inv_first L hL H hH h0)
  refine ⟨out, ?_, I.lo, I.oz, ?_, I.e1⟩
  · have hm := many_loop L hL H hHl (out, 0) e (L.length - 1) 0 (by omega)
    unfold part_Heirs.f
    refine Ev.bind (pfam_of L hL) (Ev.ifp rfl (Ev.bind hEv (Ev.ifp (by omega) (Ev.ifp h0 (Ev.ifp (by omega) (Ev.ifp (by omega) (Ev.ifp (by omega) ?_)))))))
    simp only [Option.bind_some, Int.toNat_natCast]
    rw [mlist_zero L hL H]
    exact hm
  · have := I.sm
    rw [sumN_zero (fun j => cs (kP L H) (rR pas j) (kM L H j) * ((kM L H j : Nat) - (mc L H L.length j : Nat) : Int)) L.length (fun j hj => by unfold kM; rw [Int.sub_self, Int.mul_zero])] at this
    omega
/-- nobody is alive -/
theorem heirs_none (L : List S32) (hL : FamOk L) (H : List Bool) (hEv : Ev (fun k => part_heir.f k L) H) (hH : HasOk L H) (h0 : ¬ rB H 0 = true) : Ev (fun k => part_Heirs.f k L) ([], 4) := by
  have h2 := hL.two
  have hHl := hH.1
  unfold part_Heirs.f
  exact Ev.bind (pfam_of L hL) (Ev.ifp rfl (Ev.bind hEv (Ev.ifp (by omega) (Ev.ifn h0 (Ev.to rfl)))))
/-! #### sums of parts -/
/-- unit fractions of which each denominator divides P, or nothing -/
def GoodR (P : Nat) (l : List S35) (a b : Nat → Nat) : Prop := ∀ j, j < l.length → rR l j = ⟨((a j : Nat) : Int), ((b j : Nat) : Int)⟩ ∧ a j ≤ 1 ∧ 1 ≤ b j ∧ b j ∣ P ∧ Nat.gcd (a j) (b j) = 1
theorem rcheck_loop (P : Nat) (hP : 1 ≤ P) (hP2 : P ≤ 4096) (l : List S35) (hl : l.length ≤ 13) (a b : Nat → Nat) (hg : GoodR P l a b) : ∀ (n i : Nat), i + n = l.length → Ev (fun k => part_Check.l0 k l (l.length : Int) (i : Int)) 0
  | 0, i, h => Ev.step (fun k => by rw [part_Check.l0]) (Ev.ifn (by omega) (Ev.to rfl))
  | n + 1, i, h => by
    obtain ⟨g1, g2, g3, g4, g5⟩ := hg i (by omega)
    have hb : b i ≤ 4096 := Nat.le_trans (Nat.le_of_dvd (by omega) g4) hP2
    have hO := Of_of (a i) (b i) g3 (by omega) (by omega)
    rw [g5, Nat.div_one, Nat.div_one] at hO
    have hr : rd_T35 l (i : Int) = ⟨((a i : Nat) : Int), ((b i : Nat) : Int)⟩ := g1
    refine Ev.step (fun k => by rw [part_Check.l0]) ?_
    rw [hr, w64 (x := (i : Int) + 1) (by omega) (by omega), show (i : Int) + 1 = ((i + 1 : Nat) : Int) by omega]
    refine Ev.ifp (by omega) (Ev.ifp (by omega) (Ev.ifp (by omega) (Ev.bind hO (Ev.ifp rfl (Ev.ifn (by simp) ?_)))))
    exact rcheck_loop P hP hP2 l hl a b hg n (i + 1) (by omega)
def lcmN (b : Nat → Nat) : Nat → Nat
  | 0 => 1
  | n + 1 => Nat.lcm (lcmN b n) (b n)
theorem lcmN_dvd (P : Nat) (b : Nat → Nat) : ∀ n, (∀ j, j < n → b j ∣ P) → lcmN b n ∣ P
  | 0, _ => Nat.one_dvd _
  | n + 1, h => Nat.lcm_dvd (lcmN_dvd P b n fun j hj => h j (by omega)) (h n (by omega))
theorem lcmN_of (b : Nat → Nat) : ∀ n j, j < n → b j ∣ lcmN b n
  | 0, j, h => by omega
  | n + 1, j, h => by
    rw [lcmN]
    by_cases hj : j = n
    · subst hj; exact Nat.dvd_lcm_right _ _
    · exact Nat.dvd_trans (lcmN_of b n j (by omega)) (Nat.dvd_lcm_left _ _)
def numL (L : Nat) (a b : Nat → Nat) (n : Nat) : List Int := (List.range n).map fun j => ((a j * (L / b j) : Nat) : Int)
theorem common_l1 (L : Nat) (hL : 1 ≤ L) (hL2 : L ≤ 4096) (P : Nat) (l : List S35) (hl : l.length ≤ 13) (a b : Nat → Nat) (hg : GoodR P l a b) : ∀ (n i : Nat), i + n = l.length → Ev (fun k => part_Common.l1 k (L : Int) (numL L a b i) l (l.length : Int) (i : Int)) ((L : Int), numL L a b l.length, 0)
  | 0, i, h => by
    obtain rfl : i = l.length := by omega
    exact Ev.step (fun k => by rw [part_Common.l1]) (Ev.ifn (by omega) (Ev.to rfl))
  | n + 1, i, h => by
    obtain ⟨g1, g2, g3, g4, g5⟩ := hg i (by omega)
    have hr : rd_T35 l (i : Int) = ⟨((a i : Nat) : Int), ((b i : Nat) : Int)⟩ := g1
    have ih := common_l1 L hL hL2 P l hl a b hg n (i + 1) (by omega)
    have hdl : L / b i ≤ L := Nat.div_le_self _ _
    have hml : a i * (L / b i) ≤ 1 * L := Nat.mul_le_mul g2 hdl
    obtain ⟨q, hq⟩ : ∃ q, q = L / b i := ⟨_, rfl⟩
    rw [← hq] at hdl hml
    have eq : Int.tdiv (L : Int) ((b i : Nat) : Int) = (q : Int) := by rw [tdivnn (by omega), hq]; rfl
    obtain ⟨v, hv⟩ : ∃ v, v = a i * q := ⟨_, rfl⟩
    rw [← hv] at hml
    have ev : (((a i : Nat) : Int) * (q : Int)) = (v : Int) := by rw [hv]; simp
    have hs : numL L a b i ++ [(v : Int)] = numL L a b (i + 1) := by
      unfold numL
      rw [List.range_succ, List.map_append]
      simp only [List.map_cons, List.map_nil]
      rw [hv, hq]
    clear hq
    refine Ev.step (fun k => by rw [part_Common.l1]) ?_
    rw [hr]
    simp only
    rw [eq, w64 (x := (q : Int)) (by omega) (by omega), ev]
    clear ev eq hv
    rw [w64 (x := (v : Int)) (by omega) (by omega), hs, w64 (x := (i : Int) + 1) (by omega) (by omega), show (i : Int) + 1 = ((i + 1 : Nat) : Int) by omega]
    refine Ev.ifp (by omega) (Ev.ifp (by omega) (Ev.ifp (by omega) (Ev.ifn (by omega) (Ev.ifp ?_ ih))))
    unfold numL; simp; omega
theorem common_l0 (P : Nat) (hP : 1 ≤ P) (hP2 : P ≤ 4096) (l : List S35) (hl : l.length ≤ 13) (a b : Nat → Nat) (hg : GoodR P l a b) : ∀ (n i : Nat), i + n = l.length → Ev (fun k => part_Common.l0 k l ((lcmN b i : Nat) : Int) l (l.length : Int) (i : Int)) (((lcmN b l.length : Nat) : Int), numL (lcmN b l.length) a b l.length, 0)
  | 0, i, h => by
    obtain rfl : i = l.length := by omega
    have hd := lcmN_dvd P b l.length fun j hj => (hg j hj).2.2.2.1
    have h1 : 1 ≤ lcmN b l.length := Nat.pos_of_dvd_of_pos hd hP
    have h2 : lcmN b l.length ≤ 4096 := Nat.le_trans (Nat.le_of_dvd hP hd) hP2
    have := common_l1 (lcmN b l.length) h1 h2 P l hl a b hg l.length 0 (by omega)
    exact Ev.step (f := fun k => part_Common.l1 k ((lcmN b l.length : Nat) : Int) [] l (l.length : Int) 0) (fun k => by rw [part_Common.l0, if_neg (by omega)]) this
  | n + 1, i, h => by
    obtain ⟨g1, g2, g3, g4, g5⟩ := hg i (by omega)
    have hr : rd_T35 l (i : Int) = ⟨((a i : Nat) : Int), ((b i : Nat) : Int)⟩ := g1
    have ih := common_l0 P hP hP2 l hl a b hg n (i + 1) (by omega)
    have hd := lcmN_dvd P b (i + 1) fun j hj => (hg j (by omega)).2.2.2.1
    have h2 : lcmN b (i + 1) ≤ 4096 := Nat.le_trans (Nat.le_of_dvd hP hd) hP2
    have hgp : 1 ≤ Nat.gcd (lcmN b i) (b i) := Nat.gcd_pos_of_pos_right _ (by omega)
    have hg0 : ¬ ((Nat.gcd (lcmN b i) (b i) : Nat) : Int) = 0 := by omega
    have hbl : b i / Nat.gcd (lcmN b i) (b i) ≤ b i := Nat.div_le_self _ _
    have hb2 : b i ≤ 4096 := Nat.le_trans (Nat.le_of_dvd hP g4) hP2
    have hlc : lcmN b i * (b i / Nat.gcd (lcmN b i) (b i)) = lcmN b (i + 1) := by
      rw [lcmN, Nat.lcm, Nat.mul_div_assoc _ (Nat.gcd_dvd_right _ _)]
    obtain ⟨q, hq⟩ : ∃ q, q = b i / Nat.gcd (lcmN b i) (b i) := ⟨_, rfl⟩
    rw [← hq] at hbl hlc
    have eq : Int.tdiv ((b i : Nat) : Int) ((Nat.gcd (lcmN b i) (b i) : Nat) : Int) = (q : Int) := by rw [tdivnn (by omega), hq]; rfl
    have em : ((lcmN b i : Nat) : Int) * (q : Int) = ((lcmN b (i + 1) : Nat) : Int) := by rw [← hlc]; simp
    clear hq
    refine Ev.step (fun k => by rw [part_Common.l0]) ?_
    rw [hr]
    refine Ev.ifp (by omega) (Ev.ifp (by omega) (Ev.ifp (by omega) (Ev.bind (gcd_of _ _) (Ev.ifn hg0 ?_))))
    rw [eq, w64 (x := (q : Int)) (by omega) (by omega), em, w64 (x := ((lcmN b (i + 1) : Nat) : Int)) (by omega) (by omega), w64 (x := (i : Int) + 1) (by omega) (by omega), show (i : Int) + 1 = ((i + 1 : Nat) : Int) by omega]
    exact Ev.ifn (by omega) ih
theorem common_of (P : Nat) (hP : 1 ≤ P) (hP2 : P ≤ 4096) (l : List S35) (hl : l.length ≤ 13) (a b : Nat → Nat) (hg : GoodR P l a b) : Ev (fun k => part_Common.f k l) (((lcmN b l.length : Nat) : Int), numL (lcmN b l.length) a b l.length, 0) := by
  unfold part_Common.f
  have h1 := rcheck_loop P hP hP2 l hl a b hg l.length 0 (by omega)
  have h2 : Ev (fun k => part_Check.f k l) 0 := by
    unfold part_Check.f
    exact Ev.ifn (by omega) h1
  exact Ev.bind h2 (Ev.ifp rfl (common_l0 P hP hP2 l hl a b hg l.length 0 (by omega)))
theorem num_rd (L : Nat) (a b : Nat → Nat) (n j : Nat) (hj : j < n) : rd (numL L a b n) (j : Int) = ((a j * (L / b j) : Nat) : Int) := by
  unfold numL rd
  simp [List.getD, hj]
theorem numL_len (L : Nat) (a b : Nat → Nat) (n : Nat) : (numL L a b n).length = n := by unfold numL; simp
theorem sumN_range (f : Nat → Int) (B : Int) (hB : 0 ≤ B) : ∀ n, (∀ j, j < n → 0 ≤ f j ∧ f j ≤ B) → 0 ≤ sumN f n ∧ sumN f n ≤ n * B
  | 0, _ => by simp [sumN]
  | n + 1, h => by
    have ih := sumN_range f B hB n fun j hj => h j (by omega)
    have := h n (by omega)
    have e : ((n + 1 : Nat) : Int) * B = n * B + B := by rw [Int.natCast_add, Int.add_mul]; simp
    rw [sumN, e]; omega
theorem sum_l0 (L : Nat) (hL : 1 ≤ L) (hL2 : L ≤ 4096) (a b : Nat → Nat) (n : Nat) (hn : n ≤ 13) (ha : ∀ j, j < n → a j ≤ 1) (hS : sumN (fun j => ((a j * (L / b j) : Nat) : Int)) n = (L : Int)) : ∀ (m i : Nat), i + m = n → Ev (fun k => part_Sum.l0 k (L : Int) (sumN (fun j => ((a j * (L / b j) : Nat) : Int)) i) (numL L a b n) (n : Int) (i : Int)) (1, 1, 0)
  | 0, i, h => by
    obtain rfl : i = n := by omega
    have hO := Of_of L L hL (by omega) (by omega)
    rw [Nat.gcd_self, Nat.div_self hL] at hO
    refine Ev.step (fun k => by rw [part_Sum.l0]) (Ev.ifn (by omega) ?_)
    rw [hS]
    exact Ev.bind hO (Ev.to rfl)
  | m + 1, i, h => by
    have ih := sum_l0 L hL hL2 a b n hn ha hS m (i + 1) (by omega)
    have hv : ∀ j, j < n → 0 ≤ ((a j * (L / b j) : Nat) : Int) ∧ ((a j * (L / b j) : Nat) : Int) ≤ 4096 := fun j hj => by
      have h1 : a j * (L / b j) ≤ 1 * L := Nat.mul_le_mul (ha j hj) (Nat.div_le_self _ _)
      generalize a j * (L / b j) = v at h1 ⊢
      omega
    have hr := sumN_range (fun j => ((a j * (L / b j) : Nat) : Int)) 4096 (by omega) (i + 1) fun j hj => hv j (by omega)
    refine Ev.step (fun k => by rw [part_Sum.l0]) ?_
    rw [num_rd L a b n i (by omega), numL_len]
    have e : sumN (fun j => ((a j * (L / b j) : Nat) : Int)) i + ((a i * (L / b i) : Nat) : Int) = sumN (fun j => ((a j * (L / b j) : Nat) : Int)) (i + 1) := rfl
    rw [e]
    generalize sumN (fun j => ((a j * (L / b j) : Nat) : Int)) (i + 1) = v at hr ih ⊢
    rw [w64 (x := v) (by omega) (by omega), w64 (x := 1073741824 * (L : Int)) (by omega) (by omega), w64 (x := (i : Int) + 1) (by omega) (by omega), show (i : Int) + 1 = ((i + 1 : Nat) : Int) by omega]
    exact Ev.ifp (by omega) (Ev.ifp (by omega) (Ev.ifp (by omega) (Ev.ifn (by omega) ih)))
theorem sum_of (P : Nat) (hP : 1 ≤ P) (hP2 : P ≤ 4096) (l : List S35) (hl : l.length ≤ 13) (a b : Nat → Nat) (hg : GoodR P l a b) (hS : sumN (fun j => ((a j * (lcmN b l.length / b j) : Nat) : Int)) l.length = ((lcmN b l.length : Nat) : Int)) : Ev (fun k => part_Sum.f k l) (1, 1, 0) := by
  have hd := lcmN_dvd P b l.length fun j hj => (hg j hj).2.2.2.1
  have h1 : 1 ≤ lcmN b l.length := Nat.pos_of_dvd_of_pos hd hP
  have h2 : lcmN b l.length ≤ 4096 := Nat.le_trans (Nat.le_of_dvd hP hd) hP2
  have hs := sum_l0 (lcmN b l.length) h1 h2 a b l.length hl (fun j hj => (hg j hj).2.1) hS l.length 0 (by omega)
  unfold part_Sum.f
  refine Ev.bind (common_of P hP hP2 l hl a b hg) (Ev.ifp rfl ?_)
  simp only
  rw [numL_len]
  exact hs
/-- together the whole -/
theorem nums_whole (P : Nat) (hP : 1 ≤ P) (l : List S35) (a b : Nat → Nat) (hg : GoodR P l a b) (hs : sumN (fun j => sh P (rR l j)) l.length = (P : Int)) : sumN (fun j => ((a j * (lcmN b l.length / b j) : Nat) : Int)) l.length = ((lcmN b l.length : Nat) : Int) := by
  have hd := lcmN_dvd P b l.length fun j hj => (hg j hj).2.2.2.1
  obtain ⟨t, ht⟩ := hd
  have h1 : 1 ≤ lcmN b l.length := Nat.pos_of_dvd_of_pos ⟨t, ht⟩ hP
  have t1 : 1 ≤ t := by
    rcases Nat.eq_zero_or_pos t with h | h
    · rw [h] at ht; omega
    · exact h
  have e : ∀ n, n ≤ l.length → sumN (fun j => sh P (rR l j)) n = (t : Int) * sumN (fun j => ((a j * (lcmN b l.length / b j) : Nat) : Int)) n := by
    intro n
    induction n with
    | zero => intro _; simp [sumN]
    | succ n ih =>
      intro hn
      obtain ⟨g1, g2, g3, g4, g5⟩ := hg n (by omega)
      rw [sumN, sumN, ih (by omega), Int.mul_add]
      congr 1
      rw [g1]
      unfold sh
      obtain ⟨c, hc⟩ := lcmN_of b l.length n (by omega)
      have e1 : lcmN b l.length / b n = c := by rw [hc, Nat.mul_div_cancel_left _ g3]
      have e2 : P / b n = c * t := by rw [ht, hc, Nat.mul_assoc, Nat.mul_div_cancel_left _ g3]
      rw [e1]
      by_cases ha : a n = 0
      · rw [ha]; simp
      · have ha1 : a n = 1 := by omega
        rw [ha1]
        simp only [Int.toNat_natCast]
        rw [if_neg (by decide), e2, Nat.one_mul, Int.natCast_mul, Int.mul_comm]
  have h := e l.length (Nat.le_refl _)
  rw [hs, ht, Int.natCast_mul, Int.mul_comm] at h
  exact (Int.eq_of_mul_eq_mul_left (by omega) h).symm
theorem ratios_of : Ev (fun k => mootkeep1_ratios.f k) true := by
  have hO := Of_of 2 4 (by omega) (by omega) (by omega)
  unfold mootkeep1_ratios.f
  exact Ev.bind hO (Ev.ifp rfl (Ev.to rfl))
theorem goodr (L : List S32) (H : List Bool) (out : List S35) (hlen : out.length = L.length) (h : ∀ j, j < L.length → rR out j = ⟨0, 1⟩ ∨ ∃ D : Nat, rR out j = ⟨1, (D : Int)⟩ ∧ 1 ≤ D ∧ D ∣ kP L H) : GoodR (kP L H) out (fun j => (rR out j).f0.toNat) (fun j => (rR out j).f1.toNat) := by
  intro j hj
  show rR out j = ⟨(((rR out j).f0.toNat : Nat) : Int), (((rR out j).f1.toNat : Nat) : Int)⟩ ∧ (rR out j).f0.toNat ≤ 1 ∧ 1 ≤ (rR out j).f1.toNat ∧ (rR out j).f1.toNat ∣ kP L H ∧ Nat.gcd (rR out j).f0.toNat (rR out j).f1.toNat = 1
  rcases h j (by omega) with e | ⟨D, e, h1, h2⟩
  · rw [e]; exact ⟨rfl, by decide, by decide, Nat.one_dvd _, rfl⟩
  · rw [e]
    refine ⟨rfl, Nat.le_refl 1, h1, h2, ?_⟩
    exact Nat.gcd_one_left _
theorem sumN_list (f : Nat → Int) : ∀ n, ((List.range n).map f).sum = sumN f n
  | 0 => rfl
  | n + 1 => by rw [List.range_succ, List.map_append, List.sum_append, sumN_list f n, sumN]; simp
theorem pw_loop (n : Int) (x5 : List S35) (x7 : List Int) (hl : x7.length = x5.length) (hl2 : x5.length ≤ 13) (hz : ∀ j : Nat, j < x5.length → (rR x5 j).f0 = 0 → rd x7 (j : Int) = 0) (hb : ∀ v ∈ x7, 0 ≤ v ∧ v ≤ 4000000000000) (hS : x7.sum = n) :
    ∀ (m i : Nat), i + m = x7.length → Ev (fun k => mootkeep1_PartWhole.l0 k n x5 0 x7 (x7.take i).sum x7 (x7.length : Int) (i : Int)) true
  | 0, i, h => by
    obtain rfl : i = x7.length := by omega
    refine Ev.step (fun k => by rw [mootkeep1_PartWhole.l0]) (Ev.ifn (by omega) (Ev.ifp rfl (Ev.ifp (by omega) (Ev.to ?_))))
    rw [List.take_length, hS]; exact beq_self_eq_true _
  | m + 1, i, h => by
    have ih := pw_loop n x5 x7 hl hl2 hz hb hS m (i + 1) (by omega)
    have hi : i < x7.length := by omega
    have hrd : rd x7 (i : Int) = x7[i] := by unfold rd; simp [List.getD, hi]
    have hbi := hb x7[i] (List.getElem_mem hi)
    have ht : (x7.take (i + 1)).sum = (x7.take i).sum + rd x7 (i : Int) := by
      rw [List.take_succ_eq_append_getElem hi, List.sum_append, hrd]; simp
    have hsum : ∀ l : List Int, (∀ v ∈ l, 0 ≤ v ∧ v ≤ 4000000000000) → 0 ≤ l.sum ∧ l.sum ≤ 4000000000000 * l.length := by
      intro l
      induction l with
      | nil => intro _; simp
      | cons a l ih =>
        intro h
        have h1 := h a (by simp)
        have h2 := ih fun v hv => h v (by simp [hv])
        simp only [List.sum_cons, List.length_cons]
        omega
    have hs := hsum (x7.take i) fun v hv => hb v (List.mem_of_mem_take hv)
    have htl : (x7.take i).length ≤ 13 := by rw [List.length_take]; omega
    rw [ht] at ih
    refine Ev.step (fun k => by rw [mootkeep1_PartWhole.l0]) ?_
    rw [hrd] at ih ⊢
    rw [w64 (x := (x7.take i).sum + x7[i]) (by omega) (by omega), w64 (x := (i : Int) + 1) (by omega) (by omega), show (i : Int) + 1 = ((i + 1 : Nat) : Int) by omega]
    refine Ev.ifp (by omega) (Ev.ifp (by omega) (Ev.ifp (by omega) (Ev.ifp (by omega) ?_)))
    by_cases h0 : (rR x5 i).f0 = 0
    · have := hz i (by omega) h0
      rw [hrd] at this
      exact Ev.ifp h0 (Ev.ifp this ih)
    · exact Ev.ifn h0 ih
theorem PartWhole : mootkeep1_PartWhole.Pure := by
  intro st a1
  intros
  have hb1 := below_range a1 1073741824 (by omega)
  obtain ⟨n, hn⟩ : ∃ n, n = a1 % 1073741824 := ⟨_, rfl⟩
  obtain ⟨L, hLe, hL⟩ := family_of st
  obtain ⟨H, hHe, hH⟩ := heir_of L hL
  have h2 := hL.two
  have ht := hL.top
  refine Ev.rounds (g := fun k => mootkeep1_PartWhole.f k st a1) ?_
  unfold mootkeep1_PartWhole.f
  refine Ev.bind hLe ?_
  by_cases h0 : rB H 0 = true
  · obtain ⟨out, hout, hol, hor, hos, _⟩ := heirs_of L hL H hHe hH h0
    have hP1 : 1 ≤ kP L H := prodM_pos _ _
    have hP2 := kP_small L hL H
    have hg := goodr L H out hol hor
    obtain ⟨a, ha⟩ : ∃ a : Nat → Nat, a = fun j => (rR out j).f0.toNat := ⟨_, rfl⟩
    obtain ⟨b, hb⟩ : ∃ b : Nat → Nat, b = fun j => (rR out j).f1.toNat := ⟨_, rfl⟩
    rw [← ha, ← hb] at hg
    have hw := nums_whole (kP L H) hP1 out a b hg (by rw [hol]; exact hos)
    have hc := common_of (kP L H) hP1 hP2 out (by omega) a b hg
    have hs := sum_of (kP L H) hP1 hP2 out (by omega) a b hg hw
    have hd := lcmN_dvd (kP L H) b out.length fun j hj => (hg j hj).2.2.2.1
    obtain ⟨C, hC⟩ : ∃ C, C = lcmN b out.length := ⟨_, rfl⟩
    rw [← hC] at hw hc hd
    have C1 : 1 ≤ C := Nat.pos_of_dvd_of_pos hd hP1
    have C2 : C ≤ 4096 := Nat.le_trans (Nat.le_of_dvd hP1 hd) hP2
    obtain ⟨ws, hws⟩ : ∃ ws, ws = numL C a b out.length := ⟨_, rfl⟩
    rw [← hws] at hc
    have hwl : ws.length = out.length := by rw [hws, numL_len]
    have hwS : ws.sum = (C : Int) := by rw [hws, ← hw]; unfold numL; rw [sumN_list (fun j => ((a j * (C / b j) : Nat) : Int))]
    have hwG : GoodW ws := by
      intro w hw'
      rw [hws] at hw'
      unfold numL at hw'
      obtain ⟨j, hj, rfl⟩ := List.mem_map.1 hw'
      have hj := List.mem_range.1 hj
      have h1 : a j * (C / b j) ≤ 1 * C := Nat.mul_le_mul (hg j hj).2.1 (Nat.div_le_self _ _)
      generalize a j * (C / b j) = v at h1 ⊢
      omega
    have hsp := split_of n (by omega) (by omega) ws hwG (by omega) (by omega) (by omega)
    have hps := parts_sum n (by omega) ws hwG (by omega) (by omega)
    have hpb : ∀ v ∈ parts_ n ws, 0 ≤ v ∧ v ≤ 4000000000000 := parts_bound n (by omega) (by omega) ws hwG (by omega) (by omega) (by omega)
    have hDv : Ev (fun k => part_Divide.f k n out) (parts_ n ws, 0) := by
      unfold part_Divide.f
      refine Ev.bind hs (Ev.ifp rfl (Ev.ifn (by decide) (Ev.bind hc (Ev.ifn (by simp only; omega) ?_))))
      exact Ev.bind hsp (Ev.to rfl)
    have hloop := pw_loop n out (parts_ n ws) (by omega) (by omega) (fun j hj hz => by
      refine parts_zero n (by omega) (by omega) ws hwG (by omega) (by omega) (by omega) (j : Int) (by omega) (by omega) ?_
      rw [hws, num_rd C a b out.length j hj]
      have : a j = 0 := by rw [ha]; simp only; rw [hz]; rfl
      rw [this]; simp) hpb hps.1 (parts_ n ws).length 0 (by omega)
    refine Ev.bind hout (Ev.bind ratios_of (Ev.ifp rfl (Ev.step (fun k => by rw [mootkeep1_PartWhole.j0]) (Ev.ifn (by simp) ?_))))
    rw [below_of _ _ (by omega) (by omega)]
    simp only [Option.bind_some]
    rw [← hn]
    exact Ev.bind hDv (Ev.ifn (by simp) hloop)
  · have hno := heirs_none L hL H hHe hH h0
    refine Ev.bind hno (Ev.bind ratios_of (Ev.ifp rfl (Ev.step (fun k => by rw [mootkeep1_PartWhole.j0]) (Ev.ifp (by decide) ?_))))
    exact Ev.bind ratios_of (Ev.ifp rfl (Ev.to rfl))
end Go.Proofs.Ytkcmjdbeiclbkaa.Pure
