/- The machine side of a law, written by a program of this session (wip/mp). -/
import Derived.Test.YtkcmjdbeiclbkaaPPartLimitsx0
namespace Go.Proofs.Ytkcmjdbeiclbkaa.PPartLimits
open Go.RowKit Go.Proofs.YtkcmjdbeiclbkaaW.PrintWords Go.Proofs.YtkcmjdbeiclbkaaW.PrintLast Go.Proofs.YtkcmjdbeiclbkaaW.PrintMore
attribute [local go_sem] max2_int min2_int max_two min_two max_three min_three max_four min_four   -- for this text's walks alone
set_option linter.unusedVariables false
set_option linter.unusedSimpArgs false

/-! ### slices_SortStableFunc_int_int: function 54 (by hand) -/

/-- a place within the weights -/
def slices_SortStableFunc_int_int.nm (m : Nat) (z : Int) : Int := if 0 ≤ z ∧ z < m then z else 0
/-- what the closure answers -/
def slices_SortStableFunc_int_int.cf (n : Int) (ws : List Int) (s : Int) (x y : Int) : Int := wrap64 (Int.tmod (wrap64 (n * rd ws (slices_SortStableFunc_int_int.nm ws.length y))) s - Int.tmod (wrap64 (n * rd ws (slices_SortStableFunc_int_int.nm ws.length x))) s)
namespace slices_SortStableFunc_int_int
open Go Go.Sort Go.Shelf Go.Lib Go.Proofs
def swr (d : Array Int) (a b i : Nat) : Nat → Array Int
  | 0 => d
  | r + 1 => swr (swp d (a + i) (b + i)) a b (i + 1) r
theorem swr_size (a b : Nat) : ∀ (r i : Nat) (d : Array Int), (swr d a b i r).size = d.size
  | 0, _, _ => rfl
  | r + 1, i, d => by rw [swr, swr_size a b r, size_swp]
set_option maxHeartbeats 4000000 in
set_option maxRecDepth 1000000 in
theorem swr_calls (enc : Int → Value) (hO : OneCell enc) (g cap : Nat) (d0 : Array Int) (w : World) (hH : Holds enc w g 0 d0) (hsz : d0.size ≤ 1000) (fv : Value) (d : Array Int) (hd : d.size = d0.size) (m a b n : Nat) (ha : a + n ≤ d0.size) (hb : b + n ≤ d0.size) :
    Calls Try.prog 132 #[.slice (some ⟨g, 0, none⟩) d0.size cap, .int .i64 a, .int .i64 b, .int .i64 n, fv] ((putRow enc w g 0 d).drewN m) fun e w' => e = .returned (.tuple #[]) ∧ ∃ q, w' = (putRow enc w g 0 (swr d a b 0 n)).drewN q := by
  have mixed : Try.prog.follows .mixedOrders = true := by kernel_rfl
  have hst := hO.store Try.prog
  have hcl0 := hO.cells
  simp only [Value.cells] at hcl0
  have HH : Hid (Holds enc w g 0 d0) := hH
  clear hH
  go_enter Try.func132, Try.ntmps132
  go_wp2
  go_loopg [10] n (fun gk vi wr => ∃ (i q : Nat) (dk : Array Int), vi = .int .i64 i ∧ i ≤ n ∧ n - i ≤ gk ∧ dk.size = d0.size ∧ wr = (putRow enc w g 0 dk).drewN q ∧ Hid (swr dk a b i (n - i) = swr d a b 0 n))
  case atStart => exact ⟨0, m, d, by go_num, by omega, by omega, hd, rfl, rfl⟩
  case round =>
    obtain ⟨i, q, dk, rfl, hi, hg, hs, rfl, HS⟩ := hrel
    by_cases hlt : i < n
    · have hltz : (i : Int) < (n : Int) := by omega
      have hHk := holds_putRow enc w g 0 d0 dk HH.out hs
      obtain ⟨x, hx⟩ : ∃ x, dk[a + i]! = x := ⟨_, rfl⟩
      obtain ⟨y, hy⟩ : ∃ y, dk[b + i]! = y := ⟨_, rfl⟩
      obtain ⟨cx, fx⟩ := hHk (a + i) (by omega)
      obtain ⟨cy, fy⟩ := hHk (b + i) (by omega)
      rw [hx] at cx
      rw [hy] at cy
      obtain ⟨ja, hja⟩ : ∃ ja, ja = a + i := ⟨_, rfl⟩
      obtain ⟨jb, hjb⟩ : ∃ jb, jb = b + i := ⟨_, rfl⟩
      have wa : IntKind.i64.wrap ((a : Int) + (i : Int)) = (ja : Int) := by rw [IntKind.wrap_i64]; omega
      have wb : IntKind.i64.wrap ((b : Int) + (i : Int)) = (jb : Int) := by rw [IntKind.wrap_i64]; omega
      have za : (ja : Int) < (d0.size : Int) := by omega
      have zb : (jb : Int) < (d0.size : Int) := by omega
      rw [← hja] at cx fx
      rw [← hjb] at cy fy
      have cx' : ((putRow enc w g 0 dk).drewN q).cell? ⟨g, 0 + ja, none⟩ = some (enc x) := cx
      have cy' : ((putRow enc w g 0 dk).drewN q).cell? ⟨g, 0 + jb, none⟩ = some (enc y) := cy
      have fx' : ((putRow enc w g 0 dk).drewN q).frozen? ⟨g, 0 + ja, none⟩ = false := fx
      have fy' : ((putRow enc w g 0 dk).drewN q).frozen? ⟨g, 0 + jb, none⟩ = false := fy
      rw [Nat.zero_add] at cx' cy' fx' fy'
      clear cx cy fx fy hHk
      have JA : Hid (ja = a + i) := hja
      have JB : Hid (jb = b + i) := hjb
      have hwq : Hid ((putRow enc w g 0 dk).drewN q = (putRow enc w g 0 dk).drewN q) := rfl
      clear hja hjb
      obtain ⟨wq, HW⟩ : ∃ wq, Hid (wq = (putRow enc w g 0 dk).drewN q) := ⟨_, rfl⟩
      rw [← HW.out] at cx' cy' fx' fy' ⊢
      have c2 : (wq.setCell ⟨g, ja, none⟩ (enc y)).cell? ⟨g, jb, none⟩ = some (enc y) := by
        by_cases h : ja = jb
        · rw [← h]; exact World.cell?_setCell_same _ _ _ cx'
        · rw [World.cell?_setCell_other _ _ _ _ (fun e => h (Addr.mk.inj e).2.1)]; exact cy'
      go_wp2_with fail
      go_big_region_o
      all_goals go_wp2
      go_roundg (n - (i + 1))
      case measure => omega
      case rel =>
        refine ⟨i + 1, q + 1, swp dk ja jb, by first | rfl | go_num, by omega, Nat.le_refl _, by rw [size_swp]; exact hs, ?_, (show Hid _ from ?_)⟩
        · rw [HW.out, ← hx, ← hy, JA.out, JB.out]
          have := swap_worldC enc w g 0 dk q (a + i) (b + i) (by omega) (by omega)
          simp only [Nat.zero_add] at this
          exact this
        · show _ = _
          rw [← HS.out, show n - i = (n - (i + 1)) + 1 from by omega, swr, JA.out, JB.out]
    · have hltz : ¬ (i : Int) < (n : Int) := by omega
      have hin : i = n := by omega
      go_wp2
      go_end0
      exact ⟨rfl, q, by rw [← HS.out, hin, Nat.sub_self]; rfl⟩
def rot (m : Nat) : Nat → Array Int → Nat → Nat → Array Int
  | 0, d, _, _ => d
  | f + 1, d, i, j => if i = j then swr d (m - i) m 0 i else if j < i then rot m f (swr d (m - i) m 0 j) (i - j) j else rot m f (swr d (m - i) (m + j - i) 0 i) i (j - i)
theorem rot_size (m : Nat) : ∀ (f : Nat) (d : Array Int) (i j : Nat), (rot m f d i j).size = d.size
  | 0, _, _, _ => rfl
  | f + 1, d, i, j => by
    rw [rot]
    split
    · rw [swr_size]
    · split
      · rw [rot_size m f, swr_size]
      · rw [rot_size m f, swr_size]
theorem rot_fuel (m : Nat) : ∀ (f f' : Nat) (d : Array Int) (i j : Nat), 0 < i → 0 < j → i + j ≤ f → i + j ≤ f' → rot m f d i j = rot m f' d i j
  | 0, _, _, _, _, _, _, _, _ => by omega
  | f + 1, 0, _, _, _, _, _, _, _ => by omega
  | f + 1, f' + 1, d, i, j, h1, h2, h3, h4 => by
    rw [rot, rot]
    by_cases h : i = j
    · rw [if_pos h, if_pos h]
    · rw [if_neg h, if_neg h]
      by_cases h' : j < i
      · rw [if_pos h', if_pos h']; exact rot_fuel m f f' _ _ _ (by omega) h2 (by omega) (by omega)
      · rw [if_neg h', if_neg h']; exact rot_fuel m f f' _ _ _ h1 (by omega) (by omega) (by omega)
set_option maxHeartbeats 4000000 in
set_option maxRecDepth 1000000 in
theorem rot_calls (enc : Int → Value) (hO : OneCell enc) (g cap : Nat) (d0 : Array Int) (w : World) (hH : Holds enc w g 0 d0) (hsz : d0.size ≤ 1000) (fv : Value) (d : Array Int) (hd : d.size = d0.size) (q0 a m b : Nat) (ha : a < m) (hm : m < b) (hb : b ≤ d0.size) :
    Calls Try.prog 117 #[.slice (some ⟨g, 0, none⟩) d0.size cap, .int .i64 a, .int .i64 m, .int .i64 b, fv] ((putRow enc w g 0 d).drewN q0) fun e w' => e = .returned (.tuple #[]) ∧ ∃ q, w' = (putRow enc w g 0 (rot m (b - a) d (m - a) (b - m))).drewN q := by
  have HS0 : Aside (∀ (d : Array Int), d.size = d0.size → ∀ (q : Nat) (x y z : Int) (a b n : Nat), x = a → y = b → z = n → a + n ≤ d0.size → b + n ≤ d0.size → Calls Try.prog 132 #[.slice (some ⟨g, 0, none⟩) d0.size cap, .int .i64 x, .int .i64 y, .int .i64 z, fv] ((putRow enc w g 0 d).drewN q) fun e w' => e = .returned (.tuple #[]) ∧ ∃ q, w' = (putRow enc w g 0 (swr d a b 0 n)).drewN q) := fun d hd q x y z a b n hx hy hz ha hb => by subst hx hy hz; exact swr_calls enc hO g cap d0 w hH hsz fv d hd q a b n ha hb
  obtain ⟨i0, hi0⟩ : ∃ i0, i0 = m - a := ⟨_, rfl⟩
  obtain ⟨j0, hj0⟩ : ∃ j0, j0 = b - m := ⟨_, rfl⟩
  have w1 : IntKind.i64.wrap ((m : Int) - (a : Int)) = (i0 : Int) := by rw [IntKind.wrap_i64]; omega
  have w2 : IntKind.i64.wrap ((b : Int) - (m : Int)) = (j0 : Int) := by rw [IntKind.wrap_i64]; omega
  clear hH
  have HM : Hid (a < m ∧ m < b ∧ b ≤ d0.size) := ⟨ha, hm, hb⟩
  have HI : Hid (i0 = m - a ∧ j0 = b - m) := ⟨hi0, hj0⟩
  clear ha hm hb hi0 hj0
  go_enter Try.func117, Try.ntmps117
  go_wp2
  go_loopg [10, 11] (b - a) (fun gk vi vj wr => ∃ (i j q : Nat) (dk : Array Int), vi = .int .i64 i ∧ vj = .int .i64 j ∧ 0 < i ∧ 0 < j ∧ i ≤ m ∧ m + j ≤ d0.size ∧ i + j ≤ gk ∧ dk.size = d0.size ∧ wr = (putRow enc w g 0 dk).drewN q ∧ Hid (rot m (i + j) dk i j = rot m (b - a) d (m - a) (b - m)))
  case atStart =>
    have hm := HM.out
    have hi := HI.out
    exact ⟨i0, j0, q0, d, rfl, rfl, by omega, by omega, by omega, by omega, by omega, hd, rfl, by show _ = _; rw [← hi.1, ← hi.2, show i0 + j0 = b - a from by omega]⟩
  case round =>
    obtain ⟨i, j, q, dk, rfl, rfl, hi, hj, him, hjm, hg, hs, rfl, HS⟩ := hrel
    by_cases hne : i = j
    · subst hne
      have hb1 : ((i : Int) != (i : Int)) = false := by simp
      go_wp2_with (first | (go_at_call 132; with_reducible refine (HS0.out dk hs q _ _ _ (m - i) m i (by omega) (by omega) (by omega) (by omega) (by omega)).mono ?_; rintro e w6 ⟨rfl, q', rfl⟩))
      go_end0
      exact ⟨rfl, q', by rw [← HS.out, show i + i = (i + i - 1) + 1 from by omega, rot, if_pos rfl]⟩
    · have hb1 : ((i : Int) != (j : Int)) = true := by simp; omega
      by_cases hgt : j < i
      · have hgz : (i : Int) > (j : Int) := by omega
        go_wp2_with (first | (go_at_call 132; with_reducible refine (HS0.out dk hs q _ _ _ (m - i) m j (by omega) (by omega) (by omega) (by omega) (by omega)).mono ?_; rintro e w6 ⟨rfl, q', rfl⟩))
        go_roundg ((i - j) + j)
        case measure => omega
        case rel => exact ⟨(i - j), j, q', swr dk (m - i) m 0 j, by first | rfl | (congr 1; omega), rfl, by omega, hj, by omega, hjm, by omega, by rw [swr_size]; exact hs, rfl, by
          show _ = _
          rw [← HS.out, show i + j = (i + j - 1) + 1 from by omega, rot, if_neg hne, if_pos hgt]
          exact rot_fuel m _ _ _ _ _ (by omega) hj (by omega) (by omega)⟩
      · have hgz : ¬ (i : Int) > (j : Int) := by omega
        go_wp2_with (first | (go_at_call 132; with_reducible refine (HS0.out dk hs q _ _ _ (m - i) (m + j - i) i (by omega) (by omega) (by omega) (by omega) (by omega)).mono ?_; rintro e w6 ⟨rfl, q', rfl⟩))
        go_roundg (i + (j - i))
        case measure => omega
        case rel => exact ⟨i, (j - i), q', swr dk (m - i) (m + j - i) 0 i, rfl, by first | rfl | (congr 1; omega), hi, by omega, him, by omega, by omega, by rw [swr_size]; exact hs, rfl, by
          show _ = _
          rw [← HS.out, show i + j = (i + j - 1) + 1 from by omega, rot, if_neg hne, if_neg hgt]
          exact rot_fuel m _ _ _ _ _ hi (by omega) (by omega) (by omega)⟩
/-- the least place from i to j that p does not hold at, as the code looks for it -/
def bs (p : Nat → Bool) : Nat → Nat → Nat → Nat
  | 0, i, _ => i
  | f + 1, i, j => if i < j then (if p ((i + j) / 2) = true then bs p f ((i + j) / 2 + 1) j else bs p f i ((i + j) / 2)) else i
theorem bs_fuel (p : Nat → Bool) : ∀ (f f' i j : Nat), j - i ≤ f → j - i ≤ f' → bs p f i j = bs p f' i j
  | 0, 0, _, _, _, _ => rfl
  | 0, f' + 1, i, j, h, _ => by rw [bs, bs, if_neg (by omega)]
  | f + 1, 0, i, j, _, h => by rw [bs, bs, if_neg (by omega)]
  | f + 1, f' + 1, i, j, h1, h2 => by
    rw [bs, bs]
    by_cases h : i < j
    · rw [if_pos h, if_pos h, bs_fuel p f f' _ j (by omega) (by omega), bs_fuel p f f' i _ (by omega) (by omega)]
    · rw [if_neg h, if_neg h]
theorem bs_yes (p : Nat → Bool) (i j : Nat) (h : i < j) (hp : p ((i + j) / 2) = true) : bs p (j - i) i j = bs p (j - ((i + j) / 2 + 1)) ((i + j) / 2 + 1) j := by
  rw [show j - i = (j - i - 1) + 1 from by omega, bs, if_pos h, if_pos hp]
  exact bs_fuel p _ _ _ _ (by omega) (by omega)
theorem bs_no (p : Nat → Bool) (i j : Nat) (h : i < j) (hp : p ((i + j) / 2) = false) : bs p (j - i) i j = bs p ((i + j) / 2 - i) i ((i + j) / 2) := by
  rw [show j - i = (j - i - 1) + 1 from by omega, bs, if_pos h, if_neg (by rw [hp]; decide)]
  exact bs_fuel p _ _ _ _ (by omega) (by omega)
theorem bs_end (p : Nat → Bool) (i j : Nat) (h : ¬ i < j) : bs p (j - i) i j = i := by
  rw [show j - i = 0 from by omega, bs]
/-- an element goes up, one place after another -/
def bup : Nat → Array Int → Nat → Array Int
  | 0, d, _ => d
  | r + 1, d, k => bup r (swp d k (k + 1)) (k + 1)
theorem bup_size : ∀ (r : Nat) (d : Array Int) (k : Nat), (bup r d k).size = d.size
  | 0, _, _ => rfl
  | r + 1, d, k => by rw [bup, bup_size r, size_swp]
def bdn : Nat → Array Int → Nat → Array Int
  | 0, d, _ => d
  | r + 1, d, k => bdn r (swp d k (k - 1)) (k - 1)
theorem bdn_size : ∀ (r : Nat) (d : Array Int) (k : Nat), (bdn r d k).size = d.size
  | 0, _, _ => rfl
  | r + 1, d, k => by rw [bdn, bdn_size r, size_swp]
def symA (lt : Int → Int → Bool) (d : Array Int) (a m b : Nat) : Array Int := bup (bs (fun h => lt d[h]! d[a]!) (b - m) m b - 1 - a) d a
set_option maxHeartbeats 4000000 in
set_option maxRecDepth 1000000 in
theorem symA_calls (enc : Int → Value) (hO : OneCell enc) (cf : Int → Int → Int) (clo : Nat) (cb : Array Value) (g cap : Nat) (d0 : Array Int) (w : World) (eg : ∀ args w, (callFunc clo args).run Try.prog w = .ok (.enter clo args) w) (hcmp : CmpReads Try.prog clo cb enc cf g 0 d0.size w) (hH : Holds enc w g 0 d0) (hsz : d0.size ≤ 1000) (d : Array Int) (hd : d.size = d0.size) (q0 a m b : Nat) (ha : m - a = 1) (hm : m < b) (hb : b ≤ d0.size) :
    Calls Try.prog 103 #[.slice (some ⟨g, 0, none⟩) d0.size cap, .int .i64 a, .int .i64 m, .int .i64 b, .func (.func clo) #[] cb] ((putRow enc w g 0 d).drewN q0) fun e w' => e = .returned (.tuple #[]) ∧ ∃ q, w' = (putRow enc w g 0 (symA (ltOf cf) d a m b)).drewN q := by
  have mixed : Try.prog.follows .mixedOrders = true := by kernel_rfl
  have hcl0 := hO.cells
  simp only [Value.cells] at hcl0
  have hst := hO.store Try.prog
  have hcAt : ∀ (X : Array Int) (x y : Int), X.size = d0.size → ∀ m n, Calls Try.prog clo (#[enc x, enc y] ++ cb) (((putRow enc w g 0 X).drewN m).drewN n) fun e w' => e = .returned (.int .i64 (cf x y)) ∧ ∃ q, w' = (((putRow enc w g 0 X).drewN m).drewN n).drewN q := fun X x y hX m n => by
    have := hcmp (m + n) #[] X hX x y
    rw [sortWorld_none, ← World.drewN_drewN] at this
    exact this
  have HC : Aside _ := hcAt
  have HH : Hid (Holds enc w g 0 d0) := hH
  have w1 : IntKind.i64.wrap ((m : Int) - (a : Int)) = 1 := by rw [IntKind.wrap_i64]; omega
  have HM : Hid (m - a = 1 ∧ m < b ∧ b ≤ d0.size) := ⟨ha, hm, hb⟩
  clear hcAt hcmp hH ha hm hb
  go_enter Try.func103, Try.ntmps103
  go_wp2
  go_loopg [10, 11] (b - m) (fun gk vi vj wr => ∃ (i j q : Nat), vi = .int .i64 i ∧ vj = .int .i64 j ∧ m ≤ i ∧ i ≤ j ∧ j ≤ d0.size ∧ j - i ≤ gk ∧ wr = (putRow enc w g 0 d).drewN q ∧ Hid (bs (fun h => ltOf cf d[h]! d[a]!) (j - i) i j = bs (fun h => ltOf cf d[h]! d[a]!) (b - m) m b))
  case atStart =>
    have hm := HM.out
    exact ⟨m, b, q0, rfl, rfl, by omega, by omega, by omega, by omega, rfl, rfl⟩
  case round =>
    obtain ⟨i, j, q, rfl, rfl, hmi, hij, hjs, hg, rfl, HS⟩ := hrel
    by_cases hlt : i < j
    · have hltz : (i : Int) < (j : Int) := by omega
      obtain ⟨h, hh⟩ : ∃ h, h = (i + j) / 2 := ⟨_, rfl⟩
      have hHd := holds_putRow enc w g 0 d0 d HH.out hd
      have hma := HM.out
      obtain ⟨ch, fh⟩ := hHd h (by omega)
      obtain ⟨ca, fa⟩ := hHd a (by omega)
      obtain ⟨x, hx⟩ : ∃ x, d[h]! = x := ⟨_, rfl⟩
      obtain ⟨y, hy⟩ : ∃ y, d[a]! = y := ⟨_, rfl⟩
      rw [hx] at ch
      rw [hy] at ca
      have e : ((i : Int) + (j : Int)) / 2 = (h : Int) := by omega
      have hhi : h < d0.size := by omega
      have zh : (h : Int) < (d0.size : Int) := by omega
      have za : (a : Int) < (d0.size : Int) := by omega
      have hc := HC.out d x y hd q
      have ch' : ((putRow enc w g 0 d).drewN q).cell? ⟨g, 0 + h, none⟩ = some (enc x) := ch
      have ca' : ((putRow enc w g 0 d).drewN q).cell? ⟨g, 0 + a, none⟩ = some (enc y) := ca
      have fh' : ((putRow enc w g 0 d).drewN q).frozen? ⟨g, 0 + h, none⟩ = false := fh
      have fa' : ((putRow enc w g 0 d).drewN q).frozen? ⟨g, 0 + a, none⟩ = false := fa
      rw [Nat.zero_add] at ch' ca' fh' fa'
      have E1 : Hid (((i : Int) + (j : Int)) / 2 = (h : Int)) := e
      have HX : Hid (d[h]! = x ∧ d[a]! = y ∧ h = (i + j) / 2 ∧ i ≤ h ∧ h < j) := ⟨hx, hy, hh, by omega, by omega⟩
      clear ch ca fh fa hHd e hx hy hh hma
      go_wp2_with fail
      rw [E1.out]
      generalize hwq : (putRow enc w g 0 d).drewN q = wq at ch' ca' fh' fa' hc ⊢
      by_cases hlv : cf x y < 0
      · go_quiet_o (first | (go_at_fn clo; refine Calls.quiet_of (hc _)))
        go_wp2
        have hx := HX.out
        go_roundg (j - (h + 1))
        case measure => omega
        case rel => exact ⟨h + 1, j, _, by first | rfl | go_num, rfl, by omega, by omega, hjs, Nat.le_refl _, by rw [← hwq, World.drewN_drewN], by
          show _ = _
          rw [← HS.out, bs_yes _ i j hlt (by rw [← hx.2.2.1, hx.1, hx.2.1]; exact decide_eq_true hlv), hx.2.2.1]⟩
      · go_quiet_o (first | (go_at_fn clo; refine Calls.quiet_of (hc _)))
        go_wp2
        have hx := HX.out
        go_roundg (h - i)
        case measure => omega
        case rel => exact ⟨i, h, _, rfl, by first | rfl | go_num, by omega, by omega, by omega, Nat.le_refl _, by rw [← hwq, World.drewN_drewN], by
          show _ = _
          rw [← HS.out, bs_no _ i j hlt (by rw [← hx.2.2.1, hx.1, hx.2.1]; exact decide_eq_false (by omega)), hx.2.2.1]⟩
    · have hltz : ¬ (i : Int) < (j : Int) := by omega
      have hR : bs (fun h => ltOf cf d[h]! d[a]!) (b - m) m b = i := by rw [← HS.out, bs_end _ _ _ hlt]
      have hm := HM.out
      obtain ⟨ip, rfl⟩ : ∃ ip, i = ip + 1 := ⟨i - 1, by omega⟩
      have HR : Hid (symA (ltOf cf) d a m b = bup (ip - a) d a) := by show _ = _; unfold symA; rw [hR, Nat.add_sub_cancel]
      have hai : a ≤ ip := by omega
      have his : ip + 1 ≤ d0.size := by omega
      have HI : Hid (a ≤ ip ∧ ip + 1 ≤ d0.size) := ⟨hai, his⟩
      have wi : IntKind.i64.wrap (((ip : Int) + 1) - 1) = (ip : Int) := by rw [IntKind.wrap_i64]; omega
      have wi2 : wrap64 (ip : Int) = (ip : Int) := by unfold wrap64; omega
      clear hR hm hg HS hlt hjs hij hmi hai his HC
      go_wp2
      clear hltz
      go_loopg [13] (ip - a) (fun gk vk wr => ∃ (k q : Nat) (dk : Array Int), vk = .int .i64 k ∧ a ≤ k ∧ k ≤ ip ∧ ip - k ≤ gk ∧ dk.size = d0.size ∧ wr = (putRow enc w g 0 dk).drewN q ∧ Hid (bup (ip - k) dk k = bup (ip - a) d a))
      case atStart => exact ⟨a, q, d, rfl, Nat.le_refl _, HI.out.1, Nat.le_refl _, hd, rfl, rfl⟩
      case round =>
        obtain ⟨k, qk, dk, rfl, hak, hki, hgk, hsk, rfl, HSK⟩ := hrel
        by_cases hlk : k < ip
        · have hlkz : (k : Int) < (ip : Int) := by omega
          have hHk := holds_putRow enc w g 0 d0 dk HH.out hsk
          have hI := HI.out
          obtain ⟨x, hx⟩ : ∃ x, dk[k]! = x := ⟨_, rfl⟩
          obtain ⟨y, hy⟩ : ∃ y, dk[k + 1]! = y := ⟨_, rfl⟩
          obtain ⟨cx, fx⟩ := hHk k (by omega)
          obtain ⟨cy, fy⟩ := hHk (k + 1) (by omega)
          rw [hx] at cx
          rw [hy] at cy
          obtain ⟨jb, hjb⟩ : ∃ jb, jb = k + 1 := ⟨_, rfl⟩
          have wb : IntKind.i64.wrap ((k : Int) + 1) = (jb : Int) := by rw [IntKind.wrap_i64]; omega
          have za : (k : Int) < (d0.size : Int) := by omega
          have zb : (jb : Int) < (d0.size : Int) := by omega
          rw [← hjb] at cy fy
          have cx' : ((putRow enc w g 0 dk).drewN qk).cell? ⟨g, 0 + k, none⟩ = some (enc x) := cx
          have cy' : ((putRow enc w g 0 dk).drewN qk).cell? ⟨g, 0 + jb, none⟩ = some (enc y) := cy
          have fx' : ((putRow enc w g 0 dk).drewN qk).frozen? ⟨g, 0 + k, none⟩ = false := fx
          have fy' : ((putRow enc w g 0 dk).drewN qk).frozen? ⟨g, 0 + jb, none⟩ = false := fy
          rw [Nat.zero_add] at cx' cy' fx' fy'
          have JB : Hid (jb = k + 1) := hjb
          have HX : Hid (dk[k]! = x ∧ dk[k + 1]! = y) := ⟨hx, hy⟩
          have hne : k ≠ jb := by omega
          clear cx cy fx fy hHk hI hx hy hjb
          obtain ⟨wq, HW⟩ : ∃ wq, Hid (wq = (putRow enc w g 0 dk).drewN qk) := ⟨_, rfl⟩
          rw [← HW.out] at cx' cy' fx' fy' ⊢
          have c2 : (wq.setCell ⟨g, k, none⟩ (enc y)).cell? ⟨g, jb, none⟩ = some (enc y) := by
            rw [World.cell?_setCell_other _ _ _ _ (fun e => hne (Addr.mk.inj e).2.1)]; exact cy'
          clear hne
          go_wp2_with fail
          go_big_region_o
          all_goals go_wp2
          have hI := HI.out
          go_roundg (ip - (k + 1))
          case measure => omega
          case rel =>
            refine ⟨k + 1, qk + 1, swp dk k (k + 1), by first | rfl | (rw [JB.out]; done) | go_num, by omega, by omega, Nat.le_refl _, by rw [size_swp]; exact hsk, ?_, (show Hid _ from ?_)⟩
            · rw [HW.out, ← HX.out.1, ← HX.out.2, JB.out]
              have := swap_worldC enc w g 0 dk qk k (k + 1) (by omega) (by omega)
              simp only [Nat.zero_add] at this
              exact this
            · show _ = _
              rw [← HSK.out, show ip - k = (ip - (k + 1)) + 1 from by omega, bup]
        · have hlkz : ¬ (k : Int) < (ip : Int) := by omega
          have HKE : Hid (k = ip) := by show _ = _; omega
          go_wp2
          first | go_end0 | ((try simp only [Exit.inBlock, Exit.then]); refine bodyPost_ret (results_none rfl _ _ _) rfl ?_)
          exact ⟨rfl, qk, by rw [HR.out, ← HSK.out, HKE.out, Nat.sub_self]; rfl⟩
def symB (lt : Int → Int → Bool) (d : Array Int) (a m b : Nat) : Array Int := bdn (m - bs (fun h => !(lt d[m]! d[h]!)) (m - a) a m) d m
set_option maxHeartbeats 4000000 in
set_option maxRecDepth 1000000 in
theorem symB_calls (enc : Int → Value) (hO : OneCell enc) (cf : Int → Int → Int) (clo : Nat) (cb : Array Value) (g cap : Nat) (d0 : Array Int) (w : World) (eg : ∀ args w, (callFunc clo args).run Try.prog w = .ok (.enter clo args) w) (hcmp : CmpReads Try.prog clo cb enc cf g 0 d0.size w) (hH : Holds enc w g 0 d0) (hsz : d0.size ≤ 1000) (d : Array Int) (hd : d.size = d0.size) (q0 a m b : Nat) (ha : a < m) (ha1 : m - a ≠ 1) (hm : b - m = 1) (hb : b ≤ d0.size) :
    Calls Try.prog 103 #[.slice (some ⟨g, 0, none⟩) d0.size cap, .int .i64 a, .int .i64 m, .int .i64 b, .func (.func clo) #[] cb] ((putRow enc w g 0 d).drewN q0) fun e w' => e = .returned (.tuple #[]) ∧ ∃ q, w' = (putRow enc w g 0 (symB (ltOf cf) d a m b)).drewN q := by
  have mixed : Try.prog.follows .mixedOrders = true := by kernel_rfl
  have hcl0 := hO.cells
  simp only [Value.cells] at hcl0
  have hst := hO.store Try.prog
  have hcAt : ∀ (X : Array Int) (x y : Int), X.size = d0.size → ∀ m n, Calls Try.prog clo (#[enc x, enc y] ++ cb) (((putRow enc w g 0 X).drewN m).drewN n) fun e w' => e = .returned (.int .i64 (cf x y)) ∧ ∃ q, w' = (((putRow enc w g 0 X).drewN m).drewN n).drewN q := fun X x y hX m n => by
    have := hcmp (m + n) #[] X hX x y
    rw [sortWorld_none, ← World.drewN_drewN] at this
    exact this
  have HC : Aside _ := hcAt
  have HH : Hid (Holds enc w g 0 d0) := hH
  obtain ⟨x1, hx1⟩ : ∃ x1, x1 = m - a := ⟨_, rfl⟩
  have w1 : IntKind.i64.wrap ((m : Int) - (a : Int)) = (x1 : Int) := by rw [IntKind.wrap_i64]; omega
  have w2 : IntKind.i64.wrap ((b : Int) - (m : Int)) = 1 := by rw [IntKind.wrap_i64]; omega
  have w3 : ((x1 : Int) == 1) = false := beq_eq_false_iff_ne.2 (by omega)
  have HM : Hid (a < m ∧ b - m = 1 ∧ b ≤ d0.size) := ⟨ha, hm, hb⟩
  clear hcAt hcmp hH ha ha1 hm hb hx1
  go_enter Try.func103, Try.ntmps103
  go_wp2
  go_loopg [14, 15] (m - a) (fun gk vi vj wr => ∃ (i j q : Nat), vi = .int .i64 i ∧ vj = .int .i64 j ∧ a ≤ i ∧ i ≤ j ∧ j ≤ m ∧ j - i ≤ gk ∧ wr = (putRow enc w g 0 d).drewN q ∧ Hid (bs (fun h => !(ltOf cf d[m]! d[h]!)) (j - i) i j = bs (fun h => !(ltOf cf d[m]! d[h]!)) (m - a) a m))
  case atStart =>
    have hm := HM.out
    exact ⟨a, m, q0, rfl, rfl, by omega, by omega, by omega, by omega, rfl, rfl⟩
  case round =>
    obtain ⟨i, j, q, rfl, rfl, hmi, hij, hjs, hg, rfl, HS⟩ := hrel
    by_cases hlt : i < j
    · have hltz : (i : Int) < (j : Int) := by omega
      obtain ⟨h, hh⟩ : ∃ h, h = (i + j) / 2 := ⟨_, rfl⟩
      have hHd := holds_putRow enc w g 0 d0 d HH.out hd
      have hma := HM.out
      obtain ⟨ch, fh⟩ := hHd h (by omega)
      obtain ⟨ca, fa⟩ := hHd m (by omega)
      obtain ⟨x, hx⟩ : ∃ x, d[h]! = x := ⟨_, rfl⟩
      obtain ⟨y, hy⟩ : ∃ y, d[m]! = y := ⟨_, rfl⟩
      rw [hx] at ch
      rw [hy] at ca
      have e : ((i : Int) + (j : Int)) / 2 = (h : Int) := by omega
      have hhi : h < d0.size := by omega
      have zh : (h : Int) < (d0.size : Int) := by omega
      have za : (m : Int) < (d0.size : Int) := by omega
      have hc := HC.out d y x hd q
      have ch' : ((putRow enc w g 0 d).drewN q).cell? ⟨g, 0 + h, none⟩ = some (enc x) := ch
      have ca' : ((putRow enc w g 0 d).drewN q).cell? ⟨g, 0 + m, none⟩ = some (enc y) := ca
      have fh' : ((putRow enc w g 0 d).drewN q).frozen? ⟨g, 0 + h, none⟩ = false := fh
      have fa' : ((putRow enc w g 0 d).drewN q).frozen? ⟨g, 0 + m, none⟩ = false := fa
      rw [Nat.zero_add] at ch' ca' fh' fa'
      have E1 : Hid (((i : Int) + (j : Int)) / 2 = (h : Int)) := e
      have HX : Hid (d[h]! = x ∧ d[m]! = y ∧ h = (i + j) / 2 ∧ i ≤ h ∧ h < j) := ⟨hx, hy, hh, by omega, by omega⟩
      clear ch ca fh fa hHd e hx hy hh hma
      go_wp2_with fail
      rw [E1.out]
      generalize hwq : (putRow enc w g 0 d).drewN q = wq at ch' ca' fh' fa' hc ⊢
      by_cases hlv : 0 ≤ cf y x
      · have hlv2 : ¬ cf y x < 0 := by omega
        go_quiet_o (first | (go_at_fn clo; refine Calls.quiet_of (hc _)))
        go_wp2
        have hx := HX.out
        go_roundg (j - (h + 1))
        case measure => omega
        case rel => exact ⟨h + 1, j, _, by first | rfl | go_num, rfl, by omega, by omega, hjs, Nat.le_refl _, by rw [← hwq, World.drewN_drewN], by
          show _ = _
          rw [← HS.out, bs_yes _ i j hlt (by rw [← hx.2.2.1, hx.1, hx.2.1]; unfold ltOf; simp; omega), hx.2.2.1]⟩
      · have hlv2 : cf y x < 0 := by omega
        have hlv3 : ¬ 0 ≤ cf y x := hlv
        go_quiet_o (first | (go_at_fn clo; refine Calls.quiet_of (hc _)))
        go_wp2
        have hx := HX.out
        go_roundg (h - i)
        case measure => omega
        case rel => exact ⟨i, h, _, rfl, by first | rfl | go_num, by omega, by omega, by omega, Nat.le_refl _, by rw [← hwq, World.drewN_drewN], by
          show _ = _
          rw [← HS.out, bs_no _ i j hlt (by rw [← hx.2.2.1, hx.1, hx.2.1]; unfold ltOf; simp; omega), hx.2.2.1]⟩
    · have hltz : ¬ (i : Int) < (j : Int) := by omega
      have hR : bs (fun h => !(ltOf cf d[m]! d[h]!)) (m - a) a m = i := by rw [← HS.out, bs_end _ _ _ hlt]
      have hm := HM.out
      have HR : Hid (symB (ltOf cf) d a m b = bdn (m - i) d m) := by show _ = _; unfold symB; rw [hR]
      have HI : Hid (i ≤ m ∧ m < d0.size) := ⟨by omega, by omega⟩
      clear hR hm hg HS hlt hjs hij hmi HC
      go_wp2
      clear hltz
      go_loopg [17] (m - i) (fun gk vk wr => ∃ (k q : Nat) (dk : Array Int), vk = .int .i64 k ∧ i ≤ k ∧ k ≤ m ∧ k - i ≤ gk ∧ dk.size = d0.size ∧ wr = (putRow enc w g 0 dk).drewN q ∧ Hid (bdn (k - i) dk k = bdn (m - i) d m))
      case atStart => exact ⟨m, q, d, rfl, HI.out.1, Nat.le_refl _, Nat.le_refl _, hd, rfl, rfl⟩
      case round =>
        obtain ⟨k, qk, dk, rfl, hak, hki, hgk, hsk, rfl, HSK⟩ := hrel
        by_cases hlk : i < k
        · have hlkz : (k : Int) > (i : Int) := by omega
          have hHk := holds_putRow enc w g 0 d0 dk HH.out hsk
          have hI := HI.out
          obtain ⟨x, hx⟩ : ∃ x, dk[k]! = x := ⟨_, rfl⟩
          obtain ⟨y, hy⟩ : ∃ y, dk[k - 1]! = y := ⟨_, rfl⟩
          obtain ⟨cx, fx⟩ := hHk k (by omega)
          obtain ⟨cy, fy⟩ := hHk (k - 1) (by omega)
          rw [hx] at cx
          rw [hy] at cy
          obtain ⟨jb, hjb⟩ : ∃ jb, jb = k - 1 := ⟨_, rfl⟩
          have wb : IntKind.i64.wrap ((k : Int) - 1) = (jb : Int) := by rw [IntKind.wrap_i64]; omega
          have za : (k : Int) < (d0.size : Int) := by omega
          have zb : (jb : Int) < (d0.size : Int) := by omega
          rw [← hjb] at cy fy
          have cx' : ((putRow enc w g 0 dk).drewN qk).cell? ⟨g, 0 + k, none⟩ = some (enc x) := cx
          have cy' : ((putRow enc w g 0 dk).drewN qk).cell? ⟨g, 0 + jb, none⟩ = some (enc y) := cy
          have fx' : ((putRow enc w g 0 dk).drewN qk).frozen? ⟨g, 0 + k, none⟩ = false := fx
          have fy' : ((putRow enc w g 0 dk).drewN qk).frozen? ⟨g, 0 + jb, none⟩ = false := fy
          rw [Nat.zero_add] at cx' cy' fx' fy'
          have JB : Hid (jb = k - 1) := hjb
          have HX : Hid (dk[k]! = x ∧ dk[k - 1]! = y ∧ i < k) := ⟨hx, hy, hlk⟩
          have hne : k ≠ jb := by omega
          clear cx cy fx fy hHk hI hx hy hjb hlk
          obtain ⟨wq, HW⟩ : ∃ wq, Hid (wq = (putRow enc w g 0 dk).drewN qk) := ⟨_, rfl⟩
          rw [← HW.out] at cx' cy' fx' fy' ⊢
          have c2 : (wq.setCell ⟨g, k, none⟩ (enc y)).cell? ⟨g, jb, none⟩ = some (enc y) := by
            rw [World.cell?_setCell_other _ _ _ _ (fun e => hne (Addr.mk.inj e).2.1)]; exact cy'
          clear hne
          go_wp2_with fail
          go_big_region_o
          all_goals go_wp2
          have hI := HI.out
          have hX := HX.out.2.2
          have hJ := JB.out
          go_roundg (k - 1 - i)
          case measure => omega
          case rel =>
            refine ⟨k - 1, qk + 1, swp dk k (k - 1), by first | rfl | (rw [JB.out]; done) | (congr 1; omega), by omega, by omega, Nat.le_refl _, by rw [size_swp]; exact hsk, ?_, (show Hid _ from ?_)⟩
            · rw [HW.out, ← HX.out.1, ← HX.out.2.1, JB.out]
              have := swap_worldC enc w g 0 dk qk k (k - 1) (by omega) (by omega)
              simp only [Nat.zero_add] at this
              exact this
            · show _ = _
              rw [← HSK.out, show k - i = (k - 1 - i) + 1 from by omega, bdn]
        · have hlkz : ¬ (k : Int) > (i : Int) := by omega
          have HKE : Hid (k = i) := by show _ = _; omega
          go_wp2
          first | go_end0 | ((try simp only [Exit.inBlock, Exit.then]); refine bodyPost_ret (results_none rfl _ _ _) rfl ?_)
          exact ⟨rfl, qk, by rw [HR.out, ← HSK.out, HKE.out, Nat.sub_self]; rfl⟩
/-- what is done once the place is found -/
def symF (rec : Array Int → Nat → Nat → Nat → Array Int) (d : Array Int) (a m b mid st en : Nat) : Array Int :=
  if mid < en ∧ en < b then rec (if a < st ∧ st < mid then rec (if st < m ∧ m < en then rot m (en - st) d (m - st) (en - m) else d) a st mid else (if st < m ∧ m < en then rot m (en - st) d (m - st) (en - m) else d)) mid en b
  else (if a < st ∧ st < mid then rec (if st < m ∧ m < en then rot m (en - st) d (m - st) (en - m) else d) a st mid else (if st < m ∧ m < en then rot m (en - st) d (m - st) (en - m) else d))
def symS (lt : Int → Int → Bool) (d : Array Int) (n s0 r0 : Nat) : Nat := bs (fun c => !(lt d[n - 1 - c]! d[c]!)) (r0 - s0) s0 r0
def symC (lt : Int → Int → Bool) (rec : Array Int → Nat → Nat → Nat → Array Int) (d : Array Int) (a m b : Nat) : Array Int :=
  symF rec d a m b ((a + b) / 2) (symS lt d ((a + b) / 2 + m) (if (a + b) / 2 < m then (a + b) / 2 + m - b else a) (if (a + b) / 2 < m then (a + b) / 2 else m))
    ((a + b) / 2 + m - symS lt d ((a + b) / 2 + m) (if (a + b) / 2 < m then (a + b) / 2 + m - b else a) (if (a + b) / 2 < m then (a + b) / 2 else m))
theorem symPl3 (a m b mid n s0 r0 : Nat) (ha : a < m) (ha1 : m - a ≠ 1) (hm : m < b) (hm1 : b - m ≠ 1) (hmid : mid = (a + b) / 2) (hn : n = mid + m) (hs0 : s0 = if mid < m then n - b else a) (hr0 : r0 = if mid < m then mid else m) :
    a ≤ s0 ∧ s0 ≤ r0 ∧ r0 ≤ m ∧ n - s0 ≤ b ∧ m ≤ n - r0 ∧ r0 ≤ mid ∧ mid ≤ n - r0 ∧ (mid < m → s0 = n - b ∧ b ≤ n) := by
  by_cases h : mid < m
  · rw [if_pos h] at hs0 hr0; omega
  · rw [if_neg h] at hs0 hr0; omega
def sym (lt : Int → Int → Bool) : Nat → Array Int → Nat → Nat → Nat → Array Int
  | 0, d, _, _, _ => d
  | f + 1, d, a, m, b => if m - a = 1 then symA lt d a m b else if b - m = 1 then symB lt d a m b else symC lt (sym lt f) d a m b
theorem symF_size (rec : Array Int → Nat → Nat → Nat → Array Int) (hrs : ∀ X a m b, (rec X a m b).size = X.size) (d : Array Int) (a m b mid st en : Nat) : (symF rec d a m b mid st en).size = d.size := by
  unfold symF
  (repeat' split) <;> simp only [hrs, rot_size]
theorem sym_size (lt : Int → Int → Bool) : ∀ (f : Nat) (d : Array Int) (a m b : Nat), (sym lt f d a m b).size = d.size
  | 0, _, _, _, _ => rfl
  | f + 1, d, a, m, b => by
    rw [sym]
    split
    · exact bup_size _ _ _
    · split
      · exact bdn_size _ _ _
      · exact symF_size _ (sym_size lt f) _ _ _ _ _ _ _
/-- the blocks of twenty -/
def stIns (lt : Int → Int → Bool) (n : Nat) : Nat → Array Int → Nat → Array Int
  | 0, d, a => Sort.insertionSort lt d a n
  | f + 1, d, a => if a + 20 ≤ n then stIns lt n f (Sort.insertionSort lt d a (a + 20)) (a + 20) else Sort.insertionSort lt d a n
def stPass (lt : Int → Int → Bool) (n s : Nat) : Nat → Array Int → Nat → Array Int
  | 0, d, _ => d
  | f + 1, d, a => if a + 2 * s ≤ n then stPass lt n s f (sym lt (2 * s) d a (a + s) (a + 2 * s)) (a + 2 * s) else if a + s < n then sym lt (n - a) d a (a + s) n else d
def stOut (lt : Int → Int → Bool) (n : Nat) : Nat → Array Int → Nat → Array Int
  | 0, d, _ => d
  | f + 1, d, s => if s < n then stOut lt n f (stPass lt n s n d 0) (2 * s) else d
def stab (lt : Int → Int → Bool) (d : Array Int) : Array Int := stOut lt d.size d.size (stIns lt d.size d.size d 0) 20
theorem symNums (a m b N : Nat) (ha : a < m) (ha1 : m - a ≠ 1) (hm : m < b) (hm1 : b - m ≠ 1) (hb : b ≤ N) (hN : N ≤ 1000) :
    IntKind.i64.wrap ((m : Int) - (a : Int)) = ((m - a : Nat) : Int) ∧ IntKind.i64.wrap ((b : Int) - (m : Int)) = ((b - m : Nat) : Int) ∧ (((m - a : Nat) : Int) == 1) = false ∧ (((b - m : Nat) : Int) == 1) = false ∧ wrap64 ((a : Int) + (b : Int)) = ((a + b : Nat) : Int) ∧ IntKind.u64.wrap ((a + b : Nat) : Int) = ((a + b : Nat) : Int) ∧ ((a + b : Nat) : Int) / 2 = (((a + b) / 2 : Nat) : Int) := by
  refine ⟨?_, ?_, ?_, ?_, ?_, ?_, ?_⟩
  · rw [IntKind.wrap_i64]; omega
  · rw [IntKind.wrap_i64]; omega
  · exact beq_eq_false_iff_ne.2 (by omega)
  · exact beq_eq_false_iff_ne.2 (by omega)
  · unfold wrap64; omega
  · rw [IntKind.wrap_u64]; omega
  · omega
theorem symNums2 (mid m n : Nat) (hn : n = mid + m) (h1 : 1 ≤ n) (h2 : n ≤ 2000) : wrap64 (mid : Int) = (mid : Int) ∧ wrap64 ((mid : Int) + (m : Int)) = (n : Int) ∧ wrap64 ((n : Int) - 1) = ((n - 1 : Nat) : Int) ∧ IntKind.i64.wrap ((mid : Int) + (m : Int)) = (n : Int) ∧ IntKind.i64.wrap ((n : Int) - 1) = ((n - 1 : Nat) : Int) := by
  refine ⟨?_, ?_, ?_, ?_, ?_⟩
  · unfold wrap64; omega
  · unfold wrap64; omega
  · unfold wrap64; omega
  · rw [IntKind.wrap_i64]; omega
  · rw [IntKind.wrap_i64]; omega
theorem symW (n b s0 : Nat) (h : s0 = n - b) (h1 : b ≤ n) (h2 : n ≤ 2000) : IntKind.i64.wrap ((n : Int) - (b : Int)) = (s0 : Int) := by rw [IntKind.wrap_i64]; omega
theorem symLe (r m b N : Nat) (h1 : r ≤ m) (h2 : m < b) (h3 : b ≤ N) (h4 : N ≤ 1000) : r ≤ 1000 := by omega
theorem symG (a m b N mid n : Nat) (ha : a < m) (hm : m < b) (hb : b ≤ N) (hN : N ≤ 1000) (hmid : mid = (a + b) / 2) (hn : n = mid + m) : 1 ≤ n ∧ n ≤ 2000 := by omega
theorem symNums3 (a m b mid n s0 r0 : Nat) (ha : a < m) (ha1 : m - a ≠ 1) (hm : m < b) (hm1 : b - m ≠ 1) (hmid : mid = (a + b) / 2) (hn : n = mid + m) (hs0 : s0 = if mid < m then n - b else a) (hr0 : r0 = if mid < m then mid else m) :
    a ≤ s0 ∧ s0 ≤ r0 ∧ r0 ≤ m ∧ n - s0 ≤ b ∧ m ≤ n - r0 ∧ r0 ≤ mid ∧ mid ≤ n - r0 ∧ (mid < m → s0 = n - b ∧ b ≤ n) := by
  by_cases h : mid < m
  · rw [if_pos h] at hs0 hr0; omega
  · rw [if_neg h] at hs0 hr0; omega
set_option maxHeartbeats 8000000 in
set_option maxRecDepth 1000000 in
theorem symC_calls (enc : Int → Value) (hO : OneCell enc) (cf : Int → Int → Int) (clo : Nat) (cb : Array Value) (g cap : Nat) (d0 : Array Int) (w : World) (eg : ∀ args w, (callFunc clo args).run Try.prog w = .ok (.enter clo args) w) (hcmp : CmpReads Try.prog clo cb enc cf g 0 d0.size w) (hH : Holds enc w g 0 d0) (hsz : d0.size ≤ 1000)
    (rec : Array Int → Nat → Nat → Nat → Array Int) (hrs : ∀ X a m b, (rec X a m b).size = X.size) (d : Array Int) (hd : d.size = d0.size) (q0 a m b : Nat) (ha : a < m) (ha1 : m - a ≠ 1) (hm : m < b) (hm1 : b - m ≠ 1) (hb : b ≤ d0.size)
    (hrec : ∀ (X : Array Int), X.size = d0.size → ∀ (q a' m' b' : Nat), a' < m' → m' < b' → b' ≤ d0.size → b' - a' < b - a → Calls Try.prog 103 #[.slice (some ⟨g, 0, none⟩) d0.size cap, .int .i64 a', .int .i64 m', .int .i64 b', .func (.func clo) #[] cb] ((putRow enc w g 0 X).drewN q) fun e w' => e = .returned (.tuple #[]) ∧ ∃ q, w' = (putRow enc w g 0 (rec X a' m' b')).drewN q) :
    Calls Try.prog 103 #[.slice (some ⟨g, 0, none⟩) d0.size cap, .int .i64 a, .int .i64 m, .int .i64 b, .func (.func clo) #[] cb] ((putRow enc w g 0 d).drewN q0) fun e w' => e = .returned (.tuple #[]) ∧ ∃ q, w' = (putRow enc w g 0 (symC (ltOf cf) rec d a m b)).drewN q := by
  have mixed : Try.prog.follows .mixedOrders = true := by kernel_rfl
  have hcl0 := hO.cells
  simp only [Value.cells] at hcl0
  have hst := hO.store Try.prog
  have hcAt : ∀ (X : Array Int) (x y : Int), X.size = d0.size → ∀ m n, Calls Try.prog clo (#[enc x, enc y] ++ cb) (((putRow enc w g 0 X).drewN m).drewN n) fun e w' => e = .returned (.int .i64 (cf x y)) ∧ ∃ q, w' = (((putRow enc w g 0 X).drewN m).drewN n).drewN q := fun X x y hX m n => by
    have := hcmp (m + n) #[] X hX x y
    rw [sortWorld_none, ← World.drewN_drewN] at this
    exact this
  have HC : Aside _ := hcAt
  have HROT : Aside (∀ (X : Array Int), X.size = d0.size → ∀ (q a' m' b' : Nat), a' < m' → m' < b' → b' ≤ d0.size → Calls Try.prog 117 #[.slice (some ⟨g, 0, none⟩) d0.size cap, .int .i64 a', .int .i64 m', .int .i64 b', .func (.func clo) #[] cb] ((putRow enc w g 0 X).drewN q) fun e w' => e = .returned (.tuple #[]) ∧ ∃ q, w' = (putRow enc w g 0 (rot m' (b' - a') X (m' - a') (b' - m'))).drewN q) := fun X hX q a' m' b' h1 h2 h3 => rot_calls enc hO g cap d0 w hH hsz _ X hX q a' m' b' h1 h2 h3
  have HREC : Aside _ := hrec
  have HRS : Hid _ := hrs
  have HH : Hid (Holds enc w g 0 d0) := hH
  obtain ⟨mid, hmid⟩ : ∃ mid, mid = (a + b) / 2 := ⟨_, rfl⟩
  obtain ⟨n, hn⟩ : ∃ n, n = mid + m := ⟨_, rfl⟩
  obtain ⟨s0, hs0⟩ : ∃ s0, s0 = if mid < m then n - b else a := ⟨_, rfl⟩
  obtain ⟨r0, hr0⟩ : ∃ r0, r0 = if mid < m then mid else m := ⟨_, rfl⟩
  obtain ⟨p, hp⟩ : ∃ p, p = n - 1 := ⟨_, rfl⟩
  have HSC : Hid (symC (ltOf cf) rec d a m b = symF rec d a m b mid (symS (ltOf cf) d n s0 r0) (n - symS (ltOf cf) d n s0 r0)) := by
    show _ = _
    unfold symC
    rw [hr0, hs0, hn, hmid]
  have hN := symNums a m b d0.size ha ha1 hm hm1 hb hsz
  have hg := symG a m b d0.size mid n ha hm hb hsz hmid hn
  have hN2 := symNums2 mid m n hn hg.1 hg.2
  have hN3 := symNums3 a m b mid n s0 r0 ha ha1 hm hm1 hmid hn hs0 hr0
  obtain ⟨x1, hx1⟩ : ∃ x1, x1 = m - a := ⟨_, rfl⟩
  obtain ⟨x2, hx2⟩ : ∃ x2, x2 = b - m := ⟨_, rfl⟩
  obtain ⟨ab, hab⟩ : ∃ ab, ab = a + b := ⟨_, rfl⟩
  rw [← hx1, ← hx2, ← hmid, ← hab] at hN
  rw [← hp] at hN2
  obtain ⟨w1, w2, w3, w4, e0, e0u, e1⟩ := hN
  obtain ⟨e2, v5, v6, w5, w6⟩ := hN2
  have HM : Hid (a < m ∧ m < b ∧ b ≤ d0.size ∧ mid = (a + b) / 2 ∧ n = mid + m ∧ p = n - 1 ∧ m - a ≠ 1 ∧ b - m ≠ 1) := ⟨ha, hm, hb, hmid, hn, hp, ha1, hm1⟩
  have HM2 : Hid (a ≤ s0 ∧ s0 ≤ r0 ∧ r0 ≤ m ∧ n - s0 ≤ b ∧ m ≤ n - r0 ∧ r0 ≤ mid ∧ mid ≤ n - r0) := ⟨hN3.1, hN3.2.1, hN3.2.2.1, hN3.2.2.2.1, hN3.2.2.2.2.1, hN3.2.2.2.2.2.1, hN3.2.2.2.2.2.2.1⟩
  have hw7 : mid < m → IntKind.i64.wrap ((n : Int) - (b : Int)) = (s0 : Int) := fun h => symW n b s0 (hN3.2.2.2.2.2.2.2 h).1 (hN3.2.2.2.2.2.2.2 h).2 hg.2
  clear hN3 hg
  have hr1000 : r0 ≤ 1000 := symLe r0 m b d0.size HM2.out.2.2.1 hm hb hsz
  have HR1000 : Hid (r0 ≤ 1000) := hr1000
  by_cases hmm : mid < m
  case pos =>
    have w7 := hw7 hmm
    have v7 : wrap64 ((n : Int) - (b : Int)) = (s0 : Int) := by rw [← i64_w]; exact w7
    have z1 : (m : Int) > (mid : Int) := Int.ofNat_lt.2 hmm
    obtain rfl : r0 = mid := by rw [hr0, if_pos hmm]
    clear hcAt hcmp hH hrec hrs hmid hn hs0 hr0 hp hx1 hx2 ha ha1 hm hm1 hb hw7 hab hr1000
    go_enter Try.func103, Try.ntmps103
    go_wp2
    (try simp only [e2])
    have hb1 := HR1000.out
    clear e0 e0u e1 e2 v5 v6 w1 w2 w3 w4 w5 w6 w7 v7
    go_loopg [20, 21] (r0 - s0) (fun gk vi vj wr => ∃ (i j q : Nat), vi = .int .i64 i ∧ vj = .int .i64 j ∧ s0 ≤ i ∧ i ≤ j ∧ j ≤ r0 ∧ j - i ≤ gk ∧ wr = (putRow enc w g 0 d).drewN q ∧ Hid (bs (fun c => !(ltOf cf d[n - 1 - c]! d[c]!)) (j - i) i j = symS (ltOf cf) d n s0 r0))
    case atStart => exact ⟨s0, r0, q0, by first | rfl | exact congrArg (Value.int .i64) (by omega), by first | rfl | exact congrArg (Value.int .i64) (by omega), Nat.le_refl _, HM2.out.2.1, Nat.le_refl _, Nat.le_refl _, rfl, rfl⟩
    case round =>
      obtain ⟨i, j, q, rfl, rfl, hmi, hij, hjs, hg, rfl, HS⟩ := hrel
      by_cases hlt : i < j
      · have hltz : (i : Int) < (j : Int) := by omega
        obtain ⟨h, hh⟩ : ∃ h, h = (i + j) / 2 := ⟨_, rfl⟩
        have hHd := holds_putRow enc w g 0 d0 d HH.out hd
        have hma := HM.out
        have hmb := HM2.out
        obtain ⟨pc, hpc⟩ : ∃ pc, pc = n - 1 - h := ⟨_, rfl⟩
        have hhj : i ≤ h ∧ h < j := by omega
        have hpr : pc < d0.size ∧ h < d0.size ∧ h ≤ p := by omega
        have hpp : (p : Int) - (h : Int) = (pc : Int) := by omega
        obtain ⟨ch, fh⟩ := hHd h (by rw [hd]; exact hpr.2.1)
        obtain ⟨ca, fa⟩ := hHd pc (by rw [hd]; exact hpr.1)
        obtain ⟨x, hx⟩ : ∃ x, d[h]! = x := ⟨_, rfl⟩
        obtain ⟨y, hy⟩ : ∃ y, d[pc]! = y := ⟨_, rfl⟩
        rw [hx] at ch
        rw [hy] at ca
        have e : ((i : Int) + (j : Int)) / 2 = (h : Int) := by omega
        have zh : (h : Int) < (d0.size : Int) := by omega
        have za : (pc : Int) < (d0.size : Int) := by omega
        have wp : IntKind.i64.wrap ((p : Int) - (h : Int)) = (pc : Int) := by rw [hpp, IntKind.wrap_i64]; omega
        have hc := HC.out d y x hd q
        have ch' : ((putRow enc w g 0 d).drewN q).cell? ⟨g, 0 + h, none⟩ = some (enc x) := ch
        have ca' : ((putRow enc w g 0 d).drewN q).cell? ⟨g, 0 + pc, none⟩ = some (enc y) := ca
        have fh' : ((putRow enc w g 0 d).drewN q).frozen? ⟨g, 0 + h, none⟩ = false := fh
        have fa' : ((putRow enc w g 0 d).drewN q).frozen? ⟨g, 0 + pc, none⟩ = false := fa
        rw [Nat.zero_add] at ch' ca' fh' fa'
        have E1 : Hid (((i : Int) + (j : Int)) / 2 = (h : Int)) := e
        have HX : Hid (d[h]! = x ∧ d[n - 1 - h]! = y ∧ h = (i + j) / 2 ∧ i ≤ h ∧ h < j) := ⟨hx, by rw [← hpc]; exact hy, hh, hhj.1, hhj.2⟩
        clear ch ca fh fa hHd e hx hy hh hma hmb hpc hpr hpp hhj
        go_wp2_with fail
        rw [E1.out]
        generalize hwq : (putRow enc w g 0 d).drewN q = wq at ch' ca' fh' fa' hc ⊢
        by_cases hlv : 0 ≤ cf y x
        · have hlv2 : ¬ cf y x < 0 := by omega
          go_quiet_o (first | (go_at_fn clo; refine Calls.quiet_of (hc _)))
          go_wp2
          have hx := HX.out
          go_roundg (j - (h + 1))
          case measure => omega
          case rel => exact ⟨h + 1, j, _, by first | rfl | go_num, rfl, by omega, by omega, hjs, Nat.le_refl _, by rw [← hwq, World.drewN_drewN], by
            show _ = _
            rw [← HS.out, bs_yes _ i j hlt (by rw [← hx.2.2.1, hx.1, hx.2.1]; unfold ltOf; simp; omega), hx.2.2.1]⟩
        · have hlv2 : cf y x < 0 := by omega
          have hlv3 : ¬ 0 ≤ cf y x := hlv
          go_quiet_o (first | (go_at_fn clo; refine Calls.quiet_of (hc _)))
          go_wp2
          have hx := HX.out
          go_roundg (h - i)
          case measure => omega
          case rel => exact ⟨i, h, _, rfl, by first | rfl | go_num, by omega, by omega, by omega, Nat.le_refl _, by rw [← hwq, World.drewN_drewN], by
            show _ = _
            rw [← HS.out, bs_no _ i j hlt (by rw [← hx.2.2.1, hx.1, hx.2.1]; unfold ltOf; simp; omega), hx.2.2.1]⟩
      · have hltz : ¬ (i : Int) < (j : Int) := by omega
        have hR : symS (ltOf cf) d n s0 r0 = i := by rw [← HS.out, bs_end _ _ _ hlt]
        obtain ⟨en, hen⟩ : ∃ en, en = n - i := ⟨_, rfl⟩
        have HF : Hid (symC (ltOf cf) rec d a m b = symF rec d a m b r0 i en) := by show _ = _; rw [HSC.out, hR, hen]
        have hma := HM.out
        have hmb := HM2.out
        have HE : Hid (a ≤ i ∧ i ≤ m ∧ i ≤ r0 ∧ m ≤ en ∧ r0 ≤ en ∧ en ≤ b) := by show _ ∧ _; omega
        have wen : IntKind.i64.wrap ((n : Int) - (i : Int)) = (en : Int) := symW n i en hen (by omega) (by omega)
        clear hma hmb hR hen HS hlt hmi hij hjs hg HC hb1 hsz
        have A : ((i : Int) < (m : Int) ∧ (m : Int) < (en : Int)) ∨ ¬ (i : Int) < (m : Int) ∨ ((i : Int) < (m : Int) ∧ ¬ (m : Int) < (en : Int)) := by clear wen; omega
        have B : ((a : Int) < (i : Int) ∧ (i : Int) < (r0 : Int)) ∨ ¬ (a : Int) < (i : Int) ∨ ((a : Int) < (i : Int) ∧ ¬ (i : Int) < (r0 : Int)) := by clear wen; omega
        have C : ((r0 : Int) < (en : Int) ∧ (en : Int) < (b : Int)) ∨ ¬ (r0 : Int) < (en : Int) ∨ ((r0 : Int) < (en : Int) ∧ ¬ (en : Int) < (b : Int)) := by clear wen; omega
        rcases A with ⟨a1, a2⟩ | a1 | ⟨a1, a2⟩ <;> rcases B with ⟨b1, b2⟩ | b1 | ⟨b1, b2⟩ <;> rcases C with ⟨c1, c2⟩ | c1 | ⟨c1, c2⟩
        all_goals
          go_wp2_with (first | (go_at_call 117; with_reducible refine (HROT.out _ hd _ _ _ _ (Int.ofNat_lt.1 a1) (Int.ofNat_lt.1 a2) (Nat.le_trans HE.out.2.2.2.2.2 HM.out.2.2.1)).mono ?_; rintro e w6 ⟨rfl, q', rfl⟩) | (go_at_call 103; with_reducible refine (HREC.out _ (by first | exact hd | (rw [rot_size]; exact hd) | (rw [HRS.out]; first | exact hd | (rw [rot_size]; exact hd))) _ _ _ _ (Int.ofNat_lt.1 b1) (Int.ofNat_lt.1 b2) (by have h1 := HM.out; have h2 := HM2.out; clear wen; omega) (by have h1 := HM.out; have h2 := HM2.out; clear wen; omega)).mono ?_; rintro e w6 ⟨rfl, q', rfl⟩) | (go_at_call 103; with_reducible refine (HREC.out _ (by first | exact hd | (rw [rot_size]; exact hd) | (rw [HRS.out]; first | exact hd | (rw [rot_size]; exact hd))) _ _ _ _ (Int.ofNat_lt.1 c1) (Int.ofNat_lt.1 c2) HM.out.2.2.1 (by have h1 := HM.out; have h2 := HM2.out; clear wen; omega)).mono ?_; rintro e w6 ⟨rfl, q', rfl⟩))
          all_goals (first | go_end0 | ((try simp only [Exit.inBlock, Exit.then]); refine bodyPost_ret (results_none rfl _ _ _) rfl ?_))
          all_goals (refine ⟨rfl, ?_⟩; clear wen; rw [HF.out]; unfold symF; (repeat' split) <;> first | exact ⟨_, rfl⟩ | (exfalso; omega))
  case neg =>
    have z1 : ¬ (m : Int) > (mid : Int) := fun h => hmm (Int.ofNat_lt.1 h)
    obtain rfl : r0 = m := by rw [hr0, if_neg hmm]
    obtain rfl : s0 = a := by rw [hs0, if_neg hmm]
    clear hcAt hcmp hH hrec hrs hmid hn hs0 hr0 hp hx1 hx2 ha ha1 hm hm1 hb hw7 hab hr1000
    go_enter Try.func103, Try.ntmps103
    go_wp2
    (try simp only [e2])
    have hb1 := HR1000.out
    clear e0 e0u e1 e2 v5 v6 w1 w2 w3 w4 w5 w6
    go_loopg [20, 21] (r0 - s0) (fun gk vi vj wr => ∃ (i j q : Nat), vi = .int .i64 i ∧ vj = .int .i64 j ∧ s0 ≤ i ∧ i ≤ j ∧ j ≤ r0 ∧ j - i ≤ gk ∧ wr = (putRow enc w g 0 d).drewN q ∧ Hid (bs (fun c => !(ltOf cf d[n - 1 - c]! d[c]!)) (j - i) i j = symS (ltOf cf) d n s0 r0))
    case atStart => exact ⟨s0, r0, q0, by first | rfl | exact congrArg (Value.int .i64) (by omega), by first | rfl | exact congrArg (Value.int .i64) (by omega), Nat.le_refl _, HM2.out.2.1, Nat.le_refl _, Nat.le_refl _, rfl, rfl⟩
    case round =>
      obtain ⟨i, j, q, rfl, rfl, hmi, hij, hjs, hg, rfl, HS⟩ := hrel
      by_cases hlt : i < j
      · have hltz : (i : Int) < (j : Int) := by omega
        obtain ⟨h, hh⟩ : ∃ h, h = (i + j) / 2 := ⟨_, rfl⟩
        have hHd := holds_putRow enc w g 0 d0 d HH.out hd
        have hma := HM.out
        have hmb := HM2.out
        obtain ⟨pc, hpc⟩ : ∃ pc, pc = n - 1 - h := ⟨_, rfl⟩
        have hhj : i ≤ h ∧ h < j := by omega
        have hpr : pc < d0.size ∧ h < d0.size ∧ h ≤ p := by omega
        have hpp : (p : Int) - (h : Int) = (pc : Int) := by omega
        obtain ⟨ch, fh⟩ := hHd h (by rw [hd]; exact hpr.2.1)
        obtain ⟨ca, fa⟩ := hHd pc (by rw [hd]; exact hpr.1)
        obtain ⟨x, hx⟩ : ∃ x, d[h]! = x := ⟨_, rfl⟩
        obtain ⟨y, hy⟩ : ∃ y, d[pc]! = y := ⟨_, rfl⟩
        rw [hx] at ch
        rw [hy] at ca
        have e : ((i : Int) + (j : Int)) / 2 = (h : Int) := by omega
        have zh : (h : Int) < (d0.size : Int) := by omega
        have za : (pc : Int) < (d0.size : Int) := by omega
        have wp : IntKind.i64.wrap ((p : Int) - (h : Int)) = (pc : Int) := by rw [hpp, IntKind.wrap_i64]; omega
        have hc := HC.out d y x hd q
        have ch' : ((putRow enc w g 0 d).drewN q).cell? ⟨g, 0 + h, none⟩ = some (enc x) := ch
        have ca' : ((putRow enc w g 0 d).drewN q).cell? ⟨g, 0 + pc, none⟩ = some (enc y) := ca
        have fh' : ((putRow enc w g 0 d).drewN q).frozen? ⟨g, 0 + h, none⟩ = false := fh
        have fa' : ((putRow enc w g 0 d).drewN q).frozen? ⟨g, 0 + pc, none⟩ = false := fa
        rw [Nat.zero_add] at ch' ca' fh' fa'
        have E1 : Hid (((i : Int) + (j : Int)) / 2 = (h : Int)) := e
        have HX : Hid (d[h]! = x ∧ d[n - 1 - h]! = y ∧ h = (i + j) / 2 ∧ i ≤ h ∧ h < j) := ⟨hx, by rw [← hpc]; exact hy, hh, hhj.1, hhj.2⟩
        clear ch ca fh fa hHd e hx hy hh hma hmb hpc hpr hpp hhj
        go_wp2_with fail
        rw [E1.out]
        generalize hwq : (putRow enc w g 0 d).drewN q = wq at ch' ca' fh' fa' hc ⊢
        by_cases hlv : 0 ≤ cf y x
        · have hlv2 : ¬ cf y x < 0 := by omega
          go_quiet_o (first | (go_at_fn clo; refine Calls.quiet_of (hc _)))
          go_wp2
          have hx := HX.out
          go_roundg (j - (h + 1))
          case measure => omega
          case rel => exact ⟨h + 1, j, _, by first | rfl | go_num, rfl, by omega, by omega, hjs, Nat.le_refl _, by rw [← hwq, World.drewN_drewN], by
            show _ = _
            rw [← HS.out, bs_yes _ i j hlt (by rw [← hx.2.2.1, hx.1, hx.2.1]; unfold ltOf; simp; omega), hx.2.2.1]⟩
        · have hlv2 : cf y x < 0 := by omega
          have hlv3 : ¬ 0 ≤ cf y x := hlv
          go_quiet_o (first | (go_at_fn clo; refine Calls.quiet_of (hc _)))
          go_wp2
          have hx := HX.out
          go_roundg (h - i)
          case measure => omega
          case rel => exact ⟨i, h, _, rfl, by first | rfl | go_num, by omega, by omega, by omega, Nat.le_refl _, by rw [← hwq, World.drewN_drewN], by
            show _ = _
            rw [← HS.out, bs_no _ i j hlt (by rw [← hx.2.2.1, hx.1, hx.2.1]; unfold ltOf; simp; omega), hx.2.2.1]⟩
      · have hltz : ¬ (i : Int) < (j : Int) := by omega
        have hR : symS (ltOf cf) d n s0 r0 = i := by rw [← HS.out, bs_end _ _ _ hlt]
        obtain ⟨en, hen⟩ : ∃ en, en = n - i := ⟨_, rfl⟩
        have HF : Hid (symC (ltOf cf) rec d s0 r0 b = symF rec d s0 r0 b mid i en) := by show _ = _; rw [HSC.out, hR, hen]
        have hma := HM.out
        have hmb := HM2.out
        have HE : Hid (s0 ≤ i ∧ i ≤ r0 ∧ i ≤ mid ∧ r0 ≤ en ∧ mid ≤ en ∧ en ≤ b) := by show _ ∧ _; omega
        have wen : IntKind.i64.wrap ((n : Int) - (i : Int)) = (en : Int) := symW n i en hen (by omega) (by omega)
        clear hma hmb hR hen HS hlt hmi hij hjs hg HC hb1 hsz
        have A : ((i : Int) < (r0 : Int) ∧ (r0 : Int) < (en : Int)) ∨ ¬ (i : Int) < (r0 : Int) ∨ ((i : Int) < (r0 : Int) ∧ ¬ (r0 : Int) < (en : Int)) := by clear wen; omega
        have B : ((s0 : Int) < (i : Int) ∧ (i : Int) < (mid : Int)) ∨ ¬ (s0 : Int) < (i : Int) ∨ ((s0 : Int) < (i : Int) ∧ ¬ (i : Int) < (mid : Int)) := by clear wen; omega
        have C : ((mid : Int) < (en : Int) ∧ (en : Int) < (b : Int)) ∨ ¬ (mid : Int) < (en : Int) ∨ ((mid : Int) < (en : Int) ∧ ¬ (en : Int) < (b : Int)) := by clear wen; omega
        rcases A with ⟨a1, a2⟩ | a1 | ⟨a1, a2⟩ <;> rcases B with ⟨b1, b2⟩ | b1 | ⟨b1, b2⟩ <;> rcases C with ⟨c1, c2⟩ | c1 | ⟨c1, c2⟩
        all_goals
          go_wp2_with (first | (go_at_call 117; with_reducible refine (HROT.out _ hd _ _ _ _ (Int.ofNat_lt.1 a1) (Int.ofNat_lt.1 a2) (Nat.le_trans HE.out.2.2.2.2.2 HM.out.2.2.1)).mono ?_; rintro e w6 ⟨rfl, q', rfl⟩) | (go_at_call 103; with_reducible refine (HREC.out _ (by first | exact hd | (rw [rot_size]; exact hd) | (rw [HRS.out]; first | exact hd | (rw [rot_size]; exact hd))) _ _ _ _ (Int.ofNat_lt.1 b1) (Int.ofNat_lt.1 b2) (by have h1 := HM.out; have h2 := HM2.out; clear wen; omega) (by have h1 := HM.out; have h2 := HM2.out; clear wen; omega)).mono ?_; rintro e w6 ⟨rfl, q', rfl⟩) | (go_at_call 103; with_reducible refine (HREC.out _ (by first | exact hd | (rw [rot_size]; exact hd) | (rw [HRS.out]; first | exact hd | (rw [rot_size]; exact hd))) _ _ _ _ (Int.ofNat_lt.1 c1) (Int.ofNat_lt.1 c2) HM.out.2.2.1 (by have h1 := HM.out; have h2 := HM2.out; clear wen; omega)).mono ?_; rintro e w6 ⟨rfl, q', rfl⟩))
          all_goals (first | go_end0 | ((try simp only [Exit.inBlock, Exit.then]); refine bodyPost_ret (results_none rfl _ _ _) rfl ?_))
          all_goals (refine ⟨rfl, ?_⟩; clear wen; rw [HF.out]; unfold symF; (repeat' split) <;> first | exact ⟨_, rfl⟩ | (exfalso; omega))
theorem sym_calls (enc : Int → Value) (hO : OneCell enc) (cf : Int → Int → Int) (clo : Nat) (cb : Array Value) (g cap : Nat) (d0 : Array Int) (w : World) (eg : ∀ args w, (callFunc clo args).run Try.prog w = .ok (.enter clo args) w) (hcmp : CmpReads Try.prog clo cb enc cf g 0 d0.size w) (hH : Holds enc w g 0 d0) (hsz : d0.size ≤ 1000) : ∀ (f : Nat) (d : Array Int), d.size = d0.size → ∀ (q a m b : Nat), a < m → m < b → b ≤ d0.size → b - a ≤ f → Calls Try.prog 103 #[.slice (some ⟨g, 0, none⟩) d0.size cap, .int .i64 a, .int .i64 m, .int .i64 b, .func (.func clo) #[] cb] ((putRow enc w g 0 d).drewN q) fun e w' => e = .returned (.tuple #[]) ∧ ∃ q, w' = (putRow enc w g 0 (sym (ltOf cf) f d a m b)).drewN q
  | 0, d, hd, q, a, m, b, h1, h2, h3, h4 => by omega
  | f + 1, d, hd, q, a, m, b, h1, h2, h3, h4 => by
    rw [sym]
    by_cases c1 : m - a = 1
    · rw [if_pos c1]; exact symA_calls enc hO cf clo cb g cap d0 w eg hcmp hH hsz d hd q a m b c1 h2 h3
    · rw [if_neg c1]
      by_cases c2 : b - m = 1
      · rw [if_pos c2]; exact symB_calls enc hO cf clo cb g cap d0 w eg hcmp hH hsz d hd q a m b h1 c1 c2 h3
      · rw [if_neg c2]
        exact symC_calls enc hO cf clo cb g cap d0 w eg hcmp hH hsz _ (sym_size _ f) d hd q a m b h1 c1 h2 c2 h3 (fun X hX q a' m' b' i1 i2 i3 i4 => sym_calls enc hO cf clo cb g cap d0 w eg hcmp hH hsz f X hX q a' m' b' i1 i2 i3 (by omega))
theorem ins_size' (lt : Int → Int → Bool) (a : Nat) : ∀ (j : Nat) (d : Array Int), (Sort.insInner lt a j d).size = d.size
  | 0, d => rfl
  | j + 1, d => by
    rw [Sort.insInner]
    split
    · rw [ins_size' lt a j, Sort.size_swp]
    · rfl
theorem ins_size'' (lt : Int → Int → Bool) (a b : Nat) : ∀ (n i : Nat) (d : Array Int), b - i = n → (Sort.insOuter lt a b i d).size = d.size := by
  intro n
  induction n with
  | zero => intro i d h; rw [Sort.insOuter, if_neg (by omega)]
  | succ n ih => intro i d h; rw [Sort.insOuter, if_pos (by omega), ih _ _ (by omega), ins_size']
theorem ins_size (lt : Int → Int → Bool) (d : Array Int) (a b : Nat) : (Sort.insertionSort lt d a b).size = d.size := ins_size'' lt a b _ _ d rfl
theorem stIns_size (lt : Int → Int → Bool) (n : Nat) : ∀ (f : Nat) (d : Array Int) (a : Nat), (stIns lt n f d a).size = d.size
  | 0, d, a => ins_size _ _ _ _
  | f + 1, d, a => by
    rw [stIns]
    split
    · rw [stIns_size lt n f, ins_size]
    · exact ins_size _ _ _ _
theorem stPass_size (lt : Int → Int → Bool) (n s : Nat) : ∀ (f : Nat) (d : Array Int) (a : Nat), (stPass lt n s f d a).size = d.size
  | 0, d, a => rfl
  | f + 1, d, a => by
    rw [stPass]
    split
    · rw [stPass_size lt n s f, sym_size]
    · split
      · exact sym_size _ _ _ _ _ _
      · rfl
theorem stOut_size (lt : Int → Int → Bool) (n : Nat) : ∀ (f : Nat) (d : Array Int) (s : Nat), (stOut lt n f d s).size = d.size
  | 0, d, a => rfl
  | f + 1, d, a => by
    rw [stOut]
    split
    · rw [stOut_size lt n f, stPass_size]
    · rfl
theorem stab_size (lt : Int → Int → Bool) (d : Array Int) : (stab lt d).size = d.size := by
  unfold stab
  rw [stOut_size, stIns_size]
theorem stIns_fuel (lt : Int → Int → Bool) (n : Nat) : ∀ (f f' : Nat) (d : Array Int) (a : Nat), n - a ≤ f → n - a ≤ f' → stIns lt n f d a = stIns lt n f' d a
  | 0, 0, _, _, _, _ => rfl
  | 0, f' + 1, d, a, h, _ => by rw [stIns, stIns, if_neg (by omega)]
  | f + 1, 0, d, a, _, h => by rw [stIns, stIns, if_neg (by omega)]
  | f + 1, f' + 1, d, a, h1, h2 => by
    rw [stIns, stIns]
    by_cases c : a + 20 ≤ n
    · rw [if_pos c, if_pos c, stIns_fuel lt n f f' _ _ (by omega) (by omega)]
    · rw [if_neg c, if_neg c]
theorem stIns_go (lt : Int → Int → Bool) (n : Nat) (d : Array Int) (a b : Nat) (hb : b = a + 20) (h : b ≤ n) : stIns lt n (n - a) d a = stIns lt n (n - b) (Sort.insertionSort lt d a b) b := by
  subst hb
  rw [show n - a = (n - a - 1) + 1 from by omega, stIns, if_pos h]
  exact stIns_fuel lt n _ _ _ _ (by omega) (Nat.le_refl _)
theorem stIns_end (lt : Int → Int → Bool) (n : Nat) (d : Array Int) (a : Nat) (h : ¬ a + 20 ≤ n) : stIns lt n (n - a) d a = Sort.insertionSort lt d a n := by
  cases hf : n - a with
  | zero => rw [stIns]
  | succ f => rw [stIns, if_neg h]
theorem stPass_fuel (lt : Int → Int → Bool) (n s : Nat) (hs : 1 ≤ s) : ∀ (f f' : Nat) (d : Array Int) (a : Nat), n - a ≤ f → n - a ≤ f' → stPass lt n s f d a = stPass lt n s f' d a
  | 0, 0, _, _, _, _ => rfl
  | 0, f' + 1, d, a, h, _ => by rw [stPass, stPass, if_neg (by omega), if_neg (by omega)]
  | f + 1, 0, d, a, _, h => by rw [stPass, stPass, if_neg (by omega), if_neg (by omega)]
  | f + 1, f' + 1, d, a, h1, h2 => by
    rw [stPass, stPass]
    by_cases c : a + 2 * s ≤ n
    · rw [if_pos c, if_pos c, stPass_fuel lt n s hs f f' _ _ (by omega) (by omega)]
    · rw [if_neg c, if_neg c]
theorem stPass_go (lt : Int → Int → Bool) (n s : Nat) (hs : 1 ≤ s) (d : Array Int) (a m b : Nat) (hm : m = a + s) (hb : b = a + 2 * s) (h : b ≤ n) : stPass lt n s (n - a) d a = stPass lt n s (n - b) (sym lt (2 * s) d a m b) b := by
  subst hm hb
  rw [show n - a = (n - a - 1) + 1 from by omega, stPass, if_pos h]
  exact stPass_fuel lt n s hs _ _ _ _ (by omega) (Nat.le_refl _)
theorem stPass_last (lt : Int → Int → Bool) (n s : Nat) (d : Array Int) (a m b : Nat) (hm : m = a + s) (hb : b = a + 2 * s) (h : ¬ b ≤ n) (h2 : m < n) : stPass lt n s (n - a) d a = sym lt (n - a) d a m n := by
  subst hm hb
  cases hf : n - a with
  | zero => omega
  | succ f => rw [stPass, if_neg h, if_pos h2, hf]
theorem stPass_end (lt : Int → Int → Bool) (n s : Nat) (d : Array Int) (a m b : Nat) (hm : m = a + s) (hb : b = a + 2 * s) (h : ¬ b ≤ n) (h2 : ¬ m < n) : stPass lt n s (n - a) d a = d := by
  subst hm hb
  cases hf : n - a with
  | zero => rw [stPass]
  | succ f => rw [stPass, if_neg h, if_neg h2]
theorem stOut_fuel (lt : Int → Int → Bool) (n : Nat) : ∀ (f f' : Nat) (d : Array Int) (s : Nat), 1 ≤ s → n - s ≤ f → n - s ≤ f' → stOut lt n f d s = stOut lt n f' d s
  | 0, 0, _, _, _, _, _ => rfl
  | 0, f' + 1, d, s, _, h, _ => by rw [stOut, stOut, if_neg (by omega)]
  | f + 1, 0, d, s, _, _, h => by rw [stOut, stOut, if_neg (by omega)]
  | f + 1, f' + 1, d, s, h0, h1, h2 => by
    rw [stOut, stOut]
    by_cases c : s < n
    · rw [if_pos c, if_pos c, stOut_fuel lt n f f' _ _ (by omega) (by omega) (by omega)]
    · rw [if_neg c, if_neg c]
theorem stOut_go (lt : Int → Int → Bool) (n : Nat) (d : Array Int) (s t : Nat) (ht : t = 2 * s) (h0 : 1 ≤ s) (h : s < n) : stOut lt n (n - s) d s = stOut lt n (n - t) (stPass lt n s (n - 0) d 0) t := by
  subst ht
  rw [show n - s = (n - s - 1) + 1 from by omega, stOut, if_pos h, Nat.sub_zero]
  exact stOut_fuel lt n _ _ _ _ (by omega) (by omega) (Nat.le_refl _)
theorem stOut_end (lt : Int → Int → Bool) (n : Nat) (d : Array Int) (s : Nat) (h : ¬ s < n) : stOut lt n (n - s) d s = d := by
  rw [show n - s = 0 from by omega, stOut]
theorem stab_eq (lt : Int → Int → Bool) (d : Array Int) (n : Nat) (hn : n = d.size) (X : Array Int) (h : stIns lt n (n - 0) d 0 = X) : stOut lt n (n - 20) X 20 = stab lt d := by
  subst hn
  unfold stab
  rw [← h, Nat.sub_zero]
  exact stOut_fuel lt _ _ _ _ _ (by omega) (Nat.le_refl _) (by omega)
theorem stNum (x y z : Nat) (h : z = x + y) (hz : z ≤ 10000) : IntKind.i64.wrap ((x : Int) + (y : Int)) = (z : Int) ∧ wrap64 ((x : Int) + (y : Int)) = (z : Int) := by
  constructor
  · rw [IntKind.wrap_i64]; omega
  · unfold wrap64; omega
theorem stNum20 (x z : Nat) (h : z = x + 20) (hz : z ≤ 10000) : IntKind.i64.wrap ((x : Int) + 20) = (z : Int) ∧ wrap64 ((x : Int) + 20) = (z : Int) := by
  constructor
  · rw [IntKind.wrap_i64]; omega
  · unfold wrap64; omega
theorem stNum2 (x z : Nat) (h : z = 2 * x) (hz : z ≤ 10000) : IntKind.i64.wrap (2 * (x : Int)) = (z : Int) ∧ wrap64 (2 * (x : Int)) = (z : Int) ∧ IntKind.i64.wrap ((x : Int) * 2) = (z : Int) ∧ wrap64 ((x : Int) * 2) = (z : Int) := by
  refine ⟨?_, ?_, ?_, ?_⟩
  · rw [IntKind.wrap_i64]; omega
  · unfold wrap64; omega
  · rw [IntKind.wrap_i64]; omega
  · unfold wrap64; omega
set_option maxHeartbeats 8000000 in
set_option maxRecDepth 1000000 in
theorem stab_calls (enc : Int → Value) (hO : OneCell enc) (cf : Int → Int → Int) (clo : Nat) (cb : Array Value) (g cap : Nat) (d0 : Array Int) (w : World) (eg : ∀ args w, (callFunc clo args).run Try.prog w = .ok (.enter clo args) w) (hcmp : CmpReads Try.prog clo cb enc cf g 0 d0.size w) (hH : Holds enc w g 0 d0) (hsz : d0.size ≤ 1000)
    (hins : ∀ (X : Array Int), X.size = d0.size → ∀ (q a' b' : Nat), a' ≤ b' → b' ≤ d0.size → Calls Try.prog 102 #[.slice (some ⟨g, 0, none⟩) d0.size cap, .int .i64 a', .int .i64 b', .func (.func clo) #[] cb] ((putRow enc w g 0 X).drewN q) fun e w' => e = .returned (.tuple #[]) ∧ ∃ q, w' = (putRow enc w g 0 (Sort.insertionSort (ltOf cf) X a' b')).drewN q) :
    Calls Try.prog 86 #[.slice (some ⟨g, 0, none⟩) d0.size cap, .int .i64 d0.size, .func (.func clo) #[] cb] w fun e w' => e = .returned (.tuple #[]) ∧ ∃ q, w' = (putRow enc w g 0 (stab (ltOf cf) d0)).drewN q := by
  have mixed : Try.prog.follows .mixedOrders = true := by kernel_rfl
  have HINS : Aside _ := hins
  have HSYM : Aside _ := sym_calls enc hO cf clo cb g cap d0 w eg hcmp hH hsz
  have HW0 : Hid (w = (putRow enc w g 0 d0).drewN 0) := (putRow_self enc w g 0 d0 hH).symm
  have HZ : Hid (d0.size ≤ 1000) := hsz
  clear hins hcmp hH eg hO hsz
  obtain ⟨n, hn⟩ : ∃ n, n = d0.size := ⟨_, rfl⟩
  rw [← hn]
  have HN : Hid (n = d0.size) := hn
  have hN : n ≤ 1000 := by rw [hn]; exact HZ.out
  rw [← hn] at HINS HSYM
  clear hn
  go_enter Try.func86, Try.ntmps86
  go_wp2
  go_loopg [7, 8] n (fun gk va vb wr => ∃ (a b q : Nat) (dk : Array Int), va = .int .i64 a ∧ vb = .int .i64 b ∧ b = a + 20 ∧ a ≤ n ∧ n - a ≤ gk ∧ dk.size = n ∧ wr = (putRow enc w g 0 dk).drewN q ∧ Hid (stIns (ltOf cf) n (n - a) dk a = stIns (ltOf cf) n (n - 0) d0 0))
  case atStart => exact ⟨0, 20, 0, d0, rfl, rfl, rfl, Nat.zero_le _, by omega, HN.out.symm, HW0.out, rfl⟩
  case round =>
    obtain ⟨a, b, q, dk, rfl, rfl, hb, ha, hg, hs, rfl, HS⟩ := hrel
    by_cases hlt : b ≤ n
    · have hltz : (b : Int) ≤ (n : Int) := Int.ofNat_le.2 hlt
      obtain ⟨b2, hb2⟩ : ∃ b2, b2 = b + 20 := ⟨_, rfl⟩
      have wb := stNum20 b b2 hb2 (by omega)
      obtain ⟨wb1, wb2⟩ := wb
      have hab : a ≤ b := by omega
      have HM : Hid (b = a + 20 ∧ b2 = b + 20 ∧ n - a ≤ gk ∧ b ≤ n) := ⟨hb, hb2, hg, hlt⟩
      clear hb hb2 hg hN
      go_wp2_with (first | (go_at_call 102; with_reducible refine (HINS.out _ hs _ _ _ hab hlt).mono ?_; rintro e w6 ⟨rfl, q', rfl⟩))
      clear wb1 wb2
      have hm := HM.out
      go_roundg (n - b)
      case measure => omega
      case rel => exact ⟨b, b2, _, _, rfl, rfl, hm.2.1, hlt, Nat.le_refl _, (ins_size _ _ _ _).trans hs, rfl, by
        show _ = _
        rw [← HS.out]; exact (stIns_go _ n dk a b hm.1 hlt).symm⟩
    · have hltz : ¬ (b : Int) ≤ (n : Int) := by omega
      have HI : Hid (stIns (ltOf cf) n (n - 0) d0 0 = Sort.insertionSort (ltOf cf) dk a n) := by
        show _ = _
        rw [← HS.out]; exact stIns_end _ n dk a (by omega)
      have hsI : (Sort.insertionSort (ltOf cf) dk a n).size = n := (ins_size _ _ _ _).trans hs
      have HST : Hid (stOut (ltOf cf) n (n - 20) (Sort.insertionSort (ltOf cf) dk a n) 20 = stab (ltOf cf) d0) := stab_eq _ _ _ HN.out _ HI.out
      clear hb hg hN HI HS
      go_wp2_with (first | (go_at_call 102; with_reducible refine (HINS.out _ hs _ _ _ ha (Nat.le_refl _)).mono ?_; rintro e w6 ⟨rfl, q', rfl⟩))
      generalize Sort.insertionSort (ltOf cf) dk a n = di at hsI HST ⊢
      clear hs ha hlt hltz
      go_loopg [6] n (fun gk vs wr => ∃ (s q : Nat) (dk : Array Int), vs = .int .i64 s ∧ 20 ≤ s ∧ s ≤ 2000 ∧ n - s ≤ gk ∧ dk.size = n ∧ wr = (putRow enc w g 0 dk).drewN q ∧ Hid (stOut (ltOf cf) n (n - s) dk s = stab (ltOf cf) d0))
      case atStart => exact ⟨20, _, di, rfl, Nat.le_refl _, by omega, by omega, hsI, rfl, HST⟩
      case round =>
        obtain ⟨s, q, ds, rfl, hs1, hs2, hg, hss, rfl, HS⟩ := hrel
        clear HST hsI
        by_cases hlt : s < n
        · have hltz : (s : Int) < (n : Int) := Int.ofNat_lt.2 hlt
          have hn1000 : n ≤ 1000 := by rw [HN.out]; exact HZ.out
          obtain ⟨t, ht⟩ : ∃ t, t = 2 * s := ⟨_, rfl⟩
          obtain ⟨wt1, wt2, wt3, wt4⟩ := stNum2 s t ht (by omega)
          have HT : Hid (t = 2 * s ∧ 20 ≤ s ∧ s < n ∧ n ≤ 1000 ∧ n - s ≤ gk) := ⟨ht, hs1, hlt, hn1000, hg⟩
          clear ht hs1 hs2 hg hn1000
          go_wp2
          go_loopg [7, 8] n (fun gk va vb wr => ∃ (a b q : Nat) (dk : Array Int), va = .int .i64 a ∧ vb = .int .i64 b ∧ b = a + 2 * s ∧ a ≤ n ∧ n - a ≤ gk ∧ dk.size = n ∧ wr = (putRow enc w g 0 dk).drewN q ∧ Hid (stPass (ltOf cf) n s (n - a) dk a = stPass (ltOf cf) n s (n - 0) ds 0))
          case atStart => exact ⟨0, t, _, ds, rfl, rfl, by have := HT.out; omega, Nat.zero_le _, by omega, hss, rfl, rfl⟩
          case round =>
            obtain ⟨a, b, q2, dk, rfl, rfl, hb, ha, hgj, hsk, rfl, HP⟩ := hrel
            have hT := HT.out
            obtain ⟨m, hm⟩ : ∃ m, m = a + s := ⟨_, rfl⟩
            obtain ⟨wm1, wm2⟩ := stNum a s m hm (by clear wt1 wt2 wt3 wt4; omega)
            by_cases hbn : b ≤ n
            · have hbz : (b : Int) ≤ (n : Int) := Int.ofNat_le.2 hbn
              obtain ⟨b2, hb2⟩ : ∃ b2, b2 = b + t := ⟨_, rfl⟩
              obtain ⟨wb1, wb2⟩ := stNum b t b2 hb2 (by clear wt1 wt2 wt3 wt4 wm1 wm2; omega)
              have hM : a < m ∧ m < b ∧ b - a ≤ 2 * s ∧ b2 = b + 2 * s := by clear wt1 wt2 wt3 wt4 wm1 wm2 wb1 wb2; omega
              have HM : Hid (m = a + s ∧ b = a + 2 * s ∧ a < m ∧ m < b ∧ b - a ≤ 2 * s ∧ b2 = b + 2 * s ∧ n - a ≤ gk) := ⟨hm, hb, hM.1, hM.2.1, hM.2.2.1, hM.2.2.2, hgj⟩
              clear hb hb2 hm hM hT hgj
              go_wp2_with (first | (go_at_call 103; with_reducible refine (HSYM.out (2 * s) _ hsk _ _ _ _ HM.out.2.2.1 HM.out.2.2.2.1 hbn HM.out.2.2.2.2.1).mono ?_; rintro e w6 ⟨rfl, q', rfl⟩))
              clear wt1 wt2 wt3 wt4 wm1 wm2 wb1 wb2
              have hm := HM.out
              have hT := HT.out
              go_roundg (n - b)
              case measure => omega
              case rel => exact ⟨b, b2, _, _, rfl, rfl, hm.2.2.2.2.2.1, hbn, Nat.le_refl _, (sym_size _ _ _ _ _ _).trans hsk, rfl, by
                show _ = _
                rw [← HP.out]; exact (stPass_go _ n s (by omega) dk a m b hm.1 hm.2.1 hbn).symm⟩
            · have hbz : ¬ (b : Int) ≤ (n : Int) := fun h => hbn (Int.ofNat_le.1 h)
              by_cases hmn : m < n
              · have hmz : (m : Int) < (n : Int) := Int.ofNat_lt.2 hmn
                have HE : Hid (stPass (ltOf cf) n s (n - 0) ds 0 = sym (ltOf cf) (n - a) dk a m n) := by
                  show _ = _
                  rw [← HP.out]; exact stPass_last _ n s dk a m b hm hb hbn hmn
                have ham : a < m := by clear wt1 wt2 wt3 wt4 wm1 wm2; omega
                clear hb hm hT hgj HP hbn
                go_wp2_with (first | (go_at_call 103; with_reducible refine (HSYM.out (n - a) _ hsk _ _ _ _ ham hmn (Nat.le_refl _) (Nat.le_refl _)).mono ?_; rintro e w6 ⟨rfl, q', rfl⟩))
                clear wt1 wt2 wt3 wt4 wm1 wm2
                have hT := HT.out
                go_roundg (n - t)
                case measure => omega
                case rel => exact ⟨t, _, _, rfl, by omega, by omega, by omega, (sym_size _ _ _ _ _ _).trans hsk, rfl, by
                  show _ = _
                  rw [← HS.out, stOut_go _ n ds s t hT.1 (by omega) hT.2.2.1, HE.out]⟩
              · have hmz : ¬ (m : Int) < (n : Int) := fun h => hmn (Int.ofNat_lt.1 h)
                have HE : Hid (stPass (ltOf cf) n s (n - 0) ds 0 = dk) := by
                  show _ = _
                  rw [← HP.out]; exact stPass_end _ n s dk a m b hm hb hbn hmn
                clear hb hm hT hgj HP hbn
                go_wp2
                clear wt1 wt2 wt3 wt4 wm1 wm2
                have hT := HT.out
                go_roundg (n - t)
                case measure => omega
                case rel => exact ⟨t, _, _, rfl, by omega, by omega, by omega, hsk, rfl, by
                  show _ = _
                  rw [← HS.out, stOut_go _ n ds s t hT.1 (by omega) hT.2.2.1, HE.out]⟩
        · have hltz : ¬ (s : Int) < (n : Int) := fun h => hlt (Int.ofNat_lt.1 h)
          have HE : Hid (stab (ltOf cf) d0 = ds) := by
            show _ = _
            rw [← HS.out]; exact stOut_end _ n ds s hlt
          go_wp2
          first | go_end0 | ((try simp only [Exit.inBlock, Exit.then]); refine bodyPost_ret (results_none rfl _ _ _) rfl ?_)
          exact ⟨rfl, _, by rw [HE.out]⟩
end slices_SortStableFunc_int_int
def slices_SortStableFunc_int_int.srt (n : Int) (ws : List Int) (s : Int) (l : List Int) : List Int := (slices_SortStableFunc_int_int.stab (ltOf (slices_SortStableFunc_int_int.cf n ws s)) l.toArray).toList.map (slices_SortStableFunc_int_int.nm ws.length)
def slices_SortStableFunc_int_int.f (l0 : List Int) (a1 : Int) (l2 : List Int) (a3 : Int) : Option (List Int) := if 1 ≤ l2.length ∧ l0.length ≤ 1000 ∧ 1 ≤ l0.length ∧ a3 ≠ 0 ∧ (l0.all fun z => decide (0 ≤ z ∧ z < l2.length)) = true then some (slices_SortStableFunc_int_int.srt a1 l2 a3 l0) else none
def slices_SortStableFunc_int_int.ren : Go.Shelf.Ren := ⟨fun | 20 => 102 | n => n, fun | 24 => 3 | 22 => 22 | 3 => 3 | 25 => 39 | 4 => 4 | 0 => 0 | n => n, fun | n => n⟩
theorem slices_SortStableFunc_int_int.lays : Go.Proofs.SlLaysF.n20 Try.prog slices_SortStableFunc_int_int.ren := {
  mixed := by kernel_rfl
  f20 := ⟨Try.f102.name, by decide, Try.func102.trans (congrArg some (by kernel_rfl))⟩
  t0 := Try.underlying0
  a0 := Try.isAgg0
  z0 := Try.sizeOf0
  v0 := Try.zeroValue0
  t3 := Try.underlying3
  a3 := Try.isAgg3
  z3 := Try.sizeOf3
  v3 := Try.zeroValue3
  t4 := Try.underlying4
  a4 := Try.isAgg4
  z4 := Try.sizeOf4
  v4 := Try.zeroValue4
  t22 := Try.underlying22
  a22 := Try.isAgg22
  z22 := Try.sizeOf22
  v22 := Try.zeroValue22
  a24 := Try.isAgg3
  z24 := Try.sizeOf3
  t25 := Try.underlying39
  a25 := Try.isAgg39
  z25 := Try.sizeOf39
  v25 := Try.zeroValue39 }
theorem slices_SortStableFunc_int_int.nm_lo (m : Nat) (z : Int) (hm : 1 ≤ m) : 0 ≤ slices_SortStableFunc_int_int.nm m z ∧ slices_SortStableFunc_int_int.nm m z < m := by
  unfold slices_SortStableFunc_int_int.nm
  split <;> omega
set_option maxHeartbeats 8000000 in
set_option maxRecDepth 100000 in
theorem slices_SortStableFunc_int_int.cl (n s : Int) (ws : List Int) (x y : Int) (A2 : Option Addr) (c2 : Nat) (g1 g2 g3 : Nat) (W : World) (c1 : W.cell? ⟨g1, 0, none⟩ = some (.int .i64 n)) (cw : W.cell? ⟨g2, 0, none⟩ = some (.slice A2 ws.length c2)) (cs : W.cell? ⟨g3, 0, none⟩ = some (.int .i64 s)) (hr : Kd.C (Kd.int .i64) W A2 ws.length ws) (hx0 : 0 ≤ x) (hx1 : x < ws.length) (hy0 : 0 ≤ y) (hy1 : y < ws.length) (hs : s ≠ 0) :
    Calls Try.prog 55 #[.int .i64 x, .int .i64 y, .pointer (some ⟨g1, 0, none⟩), .pointer (some ⟨g2, 0, none⟩), .pointer (some ⟨g3, 0, none⟩)] W fun e w' => e = .returned (.int .i64 (wrap64 (Int.tmod (wrap64 (n * rd ws y)) s - Int.tmod (wrap64 (n * rd ws x)) s))) ∧ ∃ q, w' = W.drewN q := by
  obtain ⟨ad, e, hcx⟩ := Kd.at_int hr x hx0 hx1
  obtain ⟨ad', e', hcy⟩ := Kd.at_int hr y hy0 hy1
  subst e
  cases e'
  have p1 := eq_true hx0
  have p2 := eq_true hx1
  have p3 := eq_true hy0
  have p4 := eq_true hy1
  have hz : (s == 0) = false := beq_eq_false_iff_ne.mpr hs
  have hz2 : (s = 0) = False := eq_false hs
  clear hr hx0 hx1 hy0 hy1 hs
  go_enter Try.func55, Try.ntmps55
  go_wp2
  go_quiet (fail)
  go_wp2
  go_ret
  exact ⟨rfl, _, rfl⟩
set_option maxHeartbeats 8000000 in
set_option maxRecDepth 100000 in
theorem slices_SortStableFunc_int_int.top (A : Option Addr) (N c : Nat) (fv : Value) (w X : World) (C2 : Calls Try.prog 86 #[.slice A N c, .int .i64 N, fv] w fun e w' => e = .returned (.tuple #[]) ∧ ∃ n, w' = X.drewN n) :
    Calls Try.prog 54 #[.slice A N c, fv] w fun e w' => e = .returned (.tuple #[]) ∧ ∃ n, w' = X.drewN n := by
  go_enter Try.func54, Try.ntmps54
  go_wp2_with (first | (go_at_call 86; refine C2.mono ?_; rintro e w6 ⟨rfl, hw⟩; have HW := Aside0.mk hw; clear hw C2))
  first | go_end0 | ((try simp only [Exit.inBlock, Exit.then]); refine bodyPost_ret (results_none rfl _ _ _) rfl ?_)
  exact ⟨rfl, HW.out⟩
theorem slices_SortStableFunc_int_int.sw_comb (enc : Int → Value) (w : World) (g q m : Nat) (X dk : Array Int) (os : Array Obj) (h : dk.size = X.size) : sortWorld enc ((Sort.putRow enc w g 0 X).drewN q) g 0 m dk os = sortWorld enc w g 0 (q + m) dk os := by
  show Sort.grow (Sort.putRow enc (Sort.ahead (Sort.ahead (Sort.putRow enc w g 0 X) q) m) g 0 dk) os = Sort.grow (Sort.putRow enc (Sort.ahead w (q + m)) g 0 dk) os
  rw [Sort.ahead_ahead, Sort.putRow_ahead, Sort.putRow_putRow _ _ _ _ _ _ h, ← Sort.putRow_ahead]
theorem slices_SortStableFunc_int_int.put_comb (enc : Int → Value) (w : World) (g q m : Nat) (X dk : Array Int) (h : dk.size = X.size) : (Sort.putRow enc ((Sort.putRow enc w g 0 X).drewN q) g 0 dk).drewN m = (Sort.putRow enc w g 0 dk).drewN (q + m) := by
  show Sort.ahead (Sort.putRow enc (Sort.ahead (Sort.putRow enc w g 0 X) q) g 0 dk) m = Sort.ahead (Sort.putRow enc w g 0 dk) (q + m)
  rw [Sort.putRow_ahead, Sort.putRow_putRow _ _ _ _ _ _ h, Sort.ahead_ahead]
theorem slices_SortStableFunc_int_int.insw (enc : Int → Value) (hO : OneCell enc) (cf : Int → Int → Int) (clo : Nat) (cb : Array Value) (g cap : Nat) (d0 : Array Int) (w : World) (eg : ∀ args w, (callFunc clo args).run Try.prog w = .ok (.enter clo args) w) (hcmp : CmpReads Try.prog clo cb enc cf g 0 d0.size w) (hH : Sort.Holds enc w g 0 d0) (hsz : d0.size ≤ 1000) (X : Array Int) (hX : X.size = d0.size) (q a b : Nat) (hab : a ≤ b) (hb : b ≤ d0.size) :
    Calls Try.prog 102 #[.slice (some ⟨g, 0, none⟩) d0.size cap, .int .i64 a, .int .i64 b, .func (.func clo) #[] cb] ((Sort.putRow enc w g 0 X).drewN q) fun e w' => e = .returned (.tuple #[]) ∧ ∃ q, w' = (Sort.putRow enc w g 0 (Sort.insertionSort (ltOf cf) X a b)).drewN q := by
  have C := Any.insertionSortCmpFunc_one slices_SortStableFunc_int_int.lays enc hO cf clo cb g 0 cap a b X ((Sort.putRow enc w g 0 X).drewN q) eg (fun m os dk hdk x y => by
    rw [slices_SortStableFunc_int_int.sw_comb enc w g q m X dk os hdk]
    exact hcmp (q + m) os dk (hdk.trans hX) x y) (Sort.holds_putRow enc w g 0 d0 X hH hX) hab (by omega) (by omega)
  rw [hX] at C
  refine C.mono ?_
  rintro e w' ⟨rfl, n, rfl⟩
  exact ⟨rfl, q + n, slices_SortStableFunc_int_int.put_comb enc w g q n X _ (slices_SortStableFunc_int_int.ins_size _ _ _ _)⟩
theorem slices_SortStableFunc_int_int.sw_g {w : World} {g n : Nat} {os : Array Obj} {cur : Array Value} {e : TypeId} {fr : Nat × Nat} (enc : Int → Value) (d : Array Int) (hb : w.heap[g]? = some (.cells cur e fr)) :
    (sortWorld enc w g 0 n d os).heap[g]? = some (.cells (Sort.putCells enc 0 d cur) e fr) := by
  have hg : g < w.heap.size := (Array.getElem?_eq_some_iff.1 hb).1
  unfold sortWorld
  rw [Sort.heap_grow_old _ _ (by simpa [Sort.putRow, Sort.mapBlock, Sort.ahead] using hg)]
  simp [Sort.putRow, Sort.mapBlock, Sort.ahead, Array.getElem?_modify, hb, Sort.onCells]
theorem slices_SortStableFunc_int_int.sw_grown {w : World} {g n : Nat} {os : Array Obj} (enc : Int → Value) (d : Array Int) : w.grownBy (sortWorld enc w g 0 n d os) (some g) := by
  unfold sortWorld
  refine ⟨rfl, rfl, rfl, by simp [Sort.grow, Sort.putRow, Sort.mapBlock, Sort.ahead], fun k hk hne => ?_⟩
  rw [Sort.heap_grow_old _ _ (by simpa [Sort.putRow, Sort.mapBlock, Sort.ahead] using hk)]
  have : g ≠ k := fun e => hne (by rw [e])
  simp [Sort.putRow, Sort.mapBlock, Sort.ahead, Array.getElem?_modify, this]
theorem slices_SortStableFunc_int_int.sw_old {w : World} {g n i : Nat} {os : Array Obj} (enc : Int → Value) (d : Array Int) (hi : i < w.heap.size) (hne : i ≠ g) : (sortWorld enc w g 0 n d os).heap[i]? = w.heap[i]? := (slices_SortStableFunc_int_int.sw_grown enc d).block i hi (fun e => hne (Option.some.inj e))
theorem slices_SortStableFunc_int_int.put_take (enc : Int → Value) (cur : Array Value) (d : Array Int) (h : d.size ≤ cur.size) : (Sort.putCells enc 0 d cur).toList.take d.size = d.toList.map enc := by
  apply List.ext_getElem?
  intro j
  by_cases hj : j < d.size
  · rw [List.getElem?_take_of_lt hj, Array.getElem?_toList]
    simp [Sort.putCells, hj, show j < cur.size by omega]
  · rw [List.getElem?_take_eq_none (by omega), List.getElem?_eq_none (by simp; omega)]
set_option maxHeartbeats 8000000 in
set_option maxRecDepth 100000 in
theorem slices_SortStableFunc_int_int.calls (P0_ : Nat → Prop) (u9000_ : Value) (l0 : List Int) (a1 : Int) (A2 : Option Addr) (c2 : Nat) (l2 : List Int) (a3 : Int) (r : List Int) (w0 w : World) (hB : Below w0.heap.size w0 w) (ho0 : Kd.R (Kd.int .i64) 3 w w0.heap.size P0_ u9000_ l0) (hk2 : ∀ W', Kept w W' (fun k_ => P0_ k_) → Kd.C (Kd.int .i64) W' A2 l2.length l2) (hc2 : l2.length ≤ c2) {g1 g2 g3 : Nat} (b1 : w.heap[g1]? = some (.cells #[.int .i64 a1] 3 (0, 0))) (n1 : ¬ P0_ g1) (b2 : w.heap[g2]? = some (.cells #[.slice A2 l2.length c2] 22 (0, 0))) (n2 : ¬ P0_ g2) (b3 : w.heap[g3]? = some (.cells #[.int .i64 a3] 3 (0, 0))) (n3 : ¬ P0_ g3) (h : slices_SortStableFunc_int_int.f l0 a1 l2 a3 = some r) :
    Calls Try.prog 54 #[u9000_, .func (.func 55) #[] #[.pointer (some ⟨g1, 0, none⟩), .pointer (some ⟨g2, 0, none⟩), .pointer (some ⟨g3, 0, none⟩)]] w fun e w' => e = .returned (.tuple #[]) ∧ Kd.R (Kd.int .i64) 3 w' w0.heap.size (fun k_ => (P0_ k_ ∨ w.heap.size ≤ k_)) u9000_ r ∧ Below w0.heap.size w0 w' ∧ Kept w w' (fun k_ => P0_ k_) := by
  unfold slices_SortStableFunc_int_int.f at h
  by_cases hc : 1 ≤ l2.length ∧ l0.length ≤ 1000 ∧ 1 ≤ l0.length ∧ a3 ≠ 0 ∧ (l0.all fun z => decide (0 ≤ z ∧ z < l2.length)) = true
  · rw [if_pos hc] at h
    obtain rfl := Option.some.inj h
    obtain ⟨hm, hl19, hl1, hs, hall⟩ := hc
    have hin : ∀ z ∈ l0, 0 ≤ z ∧ z < (l2.length : Int) := fun z hz => of_decide_eq_true (List.all_eq_true.1 hall z hz)
    obtain ⟨enc, henc⟩ : ∃ enc : Int → Value, enc = fun z => .int .i64 (slices_SortStableFunc_int_int.nm l2.length z) := ⟨_, rfl⟩
    have hown := Kd.own_of_R (enc := Value.int .i64) (h1 := fun _ => rfl) ho0
    rcases hown.2 with ⟨_, hn0⟩ | ⟨g, cap, cur, hu, hbase, hb, h1, h2, h3, h4⟩
    · omega
    · subst hu
      have hP : P0_ g := ho0.1 g rfl
      have hgs : g < w.heap.size := (Array.getElem?_eq_some_iff.1 hb).1
      have e1 : g1 ≠ g := fun e => n1 (e ▸ hP)
      have e2 : g2 ≠ g := fun e => n2 (e ▸ hP)
      have e3 : g3 ≠ g := fun e => n3 (e ▸ hP)
      have hkept : ∀ (n : Nat) (d : Array Int) (os : Array Obj), Kept w (sortWorld enc w g 0 n d os) (fun k_ => P0_ k_) := fun n d os =>
        ⟨(slices_SortStableFunc_int_int.sw_grown enc d).size, fun i hi hn => slices_SortStableFunc_int_int.sw_old enc d hi (fun e => hn (e ▸ hP))⟩
      have hH : Sort.Holds enc w g 0 l0.toArray := by
        have hI := holds_of_blockI hb (ss := l0) (by rw [← Nat.mul_one l0.length, h4]; rfl)
        intro j hj
        have hj' : j < l0.length := by simpa using hj
        refine ⟨?_, (hI j hj).2⟩
        rw [(hI j hj).1, henc]
        have hz : l0.toArray[j]! = l0[j] := by simp [hj']
        have := hin l0[j] (List.getElem_mem hj')
        simp only [hz]
        unfold slices_SortStableFunc_int_int.nm
        rw [if_pos this]
      have hcmp : CmpReads Try.prog 55 #[.pointer (some ⟨g1, 0, none⟩), .pointer (some ⟨g2, 0, none⟩), .pointer (some ⟨g3, 0, none⟩)] enc (slices_SortStableFunc_int_int.cf a1 l2 a3) g 0 l0.toArray.size w := by
        intro mm os dk hdk x y
        have q1 := (slices_SortStableFunc_int_int.sw_old (n := mm) (os := os) enc dk (blk_lt b1) e1).trans b1
        have q2 := (slices_SortStableFunc_int_int.sw_old (n := mm) (os := os) enc dk (blk_lt b2) e2).trans b2
        have q3 := (slices_SortStableFunc_int_int.sw_old (n := mm) (os := os) enc dk (blk_lt b3) e3).trans b3
        have hx := slices_SortStableFunc_int_int.nm_lo l2.length x hm
        have hy := slices_SortStableFunc_int_int.nm_lo l2.length y hm
        have := slices_SortStableFunc_int_int.cl a1 a3 l2 (slices_SortStableFunc_int_int.nm l2.length x) (slices_SortStableFunc_int_int.nm l2.length y) A2 c2 g1 g2 g3 (sortWorld enc w g 0 mm dk os) ((blk_cell q1 0).trans rfl) ((blk_cell q2 0).trans rfl) ((blk_cell q3 0).trans rfl) (hk2 _ (hkept mm dk os)) hx.1 hx.2 hy.1 hy.2 hs
        rw [henc] at this ⊢
        exact this
      have hz0 : l0.toArray.size = l0.length := by simp
      have hO : OneCell enc := fun x => by rw [henc]; rfl
      have eg : ∀ args w, (callFunc 55 args).run Try.prog w = .ok (.enter 55 args) w := fun args w => enters_ Try.func55 (by kernel_rfl) rfl args w
      have C := slices_SortStableFunc_int_int.stab_calls enc hO (slices_SortStableFunc_int_int.cf a1 l2 a3) 55 #[.pointer (some ⟨g1, 0, none⟩), .pointer (some ⟨g2, 0, none⟩), .pointer (some ⟨g3, 0, none⟩)] g cap l0.toArray w eg hcmp hH (by omega) (fun X hX q a' b' h1 h2 => slices_SortStableFunc_int_int.insw enc hO (slices_SortStableFunc_int_int.cf a1 l2 a3) 55 #[.pointer (some ⟨g1, 0, none⟩), .pointer (some ⟨g2, 0, none⟩), .pointer (some ⟨g3, 0, none⟩)] g cap l0.toArray w eg hcmp hH (by omega) X hX q a' b' h1 h2)
      rw [hz0] at C
      refine (slices_SortStableFunc_int_int.top (some ⟨g, 0, none⟩) l0.length cap _ w _ C).mono ?_
      rintro e w' ⟨rfl, n, hw⟩
      have hsz : (slices_SortStableFunc_int_int.stab (ltOf (slices_SortStableFunc_int_int.cf a1 l2 a3)) l0.toArray).size = l0.length := by rw [slices_SortStableFunc_int_int.stab_size]; simp
      rw [← sortWorld_none] at hw
      subst hw
      refine ⟨rfl, ?_, hB.grown (slices_SortStableFunc_int_int.sw_grown enc _) hB.size (fun k hk => by cases hk; exact hbase), hkept _ _ _⟩
      refine Kd.R_mono (ok := P0_) (Kd.R_of_own (enc := Value.int .i64) (h1 := fun _ => rfl) ?_ (fun k hk => by cases hk; exact hP)) (fun k hk => .inl hk)
      have hlen : (slices_SortStableFunc_int_int.srt a1 l2 a3 l0).length = l0.length := by unfold slices_SortStableFunc_int_int.srt; simp [hsz]
      refine ⟨by simp [encs], .inr ⟨g, cap, _, by rw [hlen], hbase, slices_SortStableFunc_int_int.sw_g enc _ hb, by omega, h2, by simp [Sort.putCells, h3], ?_⟩⟩
      have ht := slices_SortStableFunc_int_int.put_take enc cur (slices_SortStableFunc_int_int.stab (ltOf (slices_SortStableFunc_int_int.cf a1 l2 a3)) l0.toArray) (by rw [hsz]; omega)
      rw [hsz] at ht
      rw [Nat.mul_one, hlen, ht]
      unfold slices_SortStableFunc_int_int.srt encs
      rw [henc, List.map_map]
      rfl
  · rw [if_neg hc] at h
    cases h

end Go.Proofs.Ytkcmjdbeiclbkaa.PPartLimits
