import Derived.Test.YtkjneemcledfjaaGreatDoorCaseO
import Derived.Test.YtkjneemcledfjaaGreatDoorCaseP
import Derived.Test.YtkjneemcledfjaaGreatDoorPBookCasesx0
import Derived.Test.YtkjneemcledfjaaGreatDoorPBookCasesx10
import Derived.Test.YtkjneemcledfjaaGreatDoorPBookCasesx11
import Derived.Test.YtkjneemcledfjaaGreatDoorPBookCasesx12
namespace Go.Proofs.YtkjneemcledfjaaGreatDoor.PBookCases
open Go.RowKit Go.Proofs.YtkjneemcledfjaaGreatDoorW.PrintWords Go.Proofs.YtkjneemcledfjaaGreatDoorW.PrintLast Go.Proofs.YtkjneemcledfjaaGreatDoorW.PrintMore
set_option linter.unusedVariables false
set_option linter.unusedSimpArgs false
set_option maxHeartbeats 8000000
set_option maxRecDepth 100000
theorem table_j2l0 (a : ByteArray) (t0 t1 : Int) (sl : Bool) (b : Int) (n : Nat) : ∀ (i x6 : Int) (st : List Int) (xs : List S108), (b - i).toNat = n → xs.length ≤ 1000 - n → n ≤ 1000 → -1000000 ≤ i → b ≤ 1000000 → ∃ r, Ev (fun k => mootmake_table.l0 k x6 b i st a t0 t1 sl xs) r := by
 induction n with
 | zero =>
  intro i x6 st xs hn hl _ _ _; exact ⟨_, Ev.step (fun k => by rw [mootmake_table.l0]) (evN (by omega) (evT rfl))⟩
 | succ n ih =>
  intro i x6 st xs hn hl hn2 hi hb; obtain ⟨r1, l1, e1, _⟩ := next_of st 21 (by omega); obtain ⟨r2, l2, e2, _⟩ := next_of l1 100 (by omega); obtain ⟨r3, l3, e3, _⟩ := next_of l2 60000 (by omega); obtain ⟨r4, l4, e4, _⟩ := next_of l1 60000 (by omega); have hw : wrap64 (i + 1) = i + 1 := w64c (by omega) (by omega); have hj : ∀ (c : Bool) (v : Int), ∃ r, Ev (fun k => mootmake_table.j2 k x6 v b i c l1 a t0 t1 sl xs) r := fun c v => by
   cases c with
   | true =>
    obtain ⟨r, hr⟩ := ih (i + 1) (wrap64 (x6 + wrap64 (1 + r3))) l3 (xs ++ [⟨x6, wrap64 (r2 * 500)⟩]) (by omega) (by simp; omega) (by omega) (by omega) hb; refine ⟨r, Ev.step (fun k => by rw [mootmake_table.j2]) (evP rfl ?_)⟩; rw [e2]; simp only [Option.bind_some]; refine evP (by omega) ?_; rw [e3]; simp only [Option.bind_some]; rw [hw]; exact hr
   | false =>
    obtain ⟨r, hr⟩ := ih (i + 1) (wrap64 (x6 + wrap64 (1 + r4))) l4 (xs ++ [⟨x6, v⟩]) (by omega) (by simp; omega) (by omega) (by omega) hb; refine ⟨r, Ev.step (fun k => by rw [mootmake_table.j2]) (evN (by simp) (evP (by omega) ?_))⟩; rw [e4]; simp only [Option.bind_some]; rw [hw]; exact hr
  by_cases ht : t1 = 2
  ·obtain ⟨r, hr⟩ := hj (!sl) (wrap64 (r1 * 50000)); refine ⟨r, Ev.step (fun k => by rw [mootmake_table.l0]) (evP (by omega) ?_)⟩; rw [e1]; simp only [Option.bind_some]; exact evP ht hr
  ·obtain ⟨r, hr⟩ := hj false (wrap64 (r1 * 50000)); refine ⟨r, Ev.step (fun k => by rw [mootmake_table.l0]) (evP (by omega) ?_)⟩; rw [e1]; simp only [Option.bind_some]; exact evN ht hr
theorem table_ev (a : ByteArray) (l : List Int) : ∃ r, Ev (fun k => mootmake_table.f k a l) r := by
 have hj0 : ∀ (l : List Int) (t0 t1 : Int) (sl : Bool), ∃ r, Ev (fun k => mootmake_table.j0 k l a t0 t1 sl) r := fun l t0 t1 sl => by
  obtain ⟨r1, l1, e1, _⟩ := next_of l 3 (by omega); obtain ⟨r2, l2, e2, h2, _⟩ := next_of l1 5 (by omega); have h2' := h2 (by omega); obtain ⟨r, hr⟩ := table_j2l0 a t0 t1 sl (1 + r2) _ 0 (wrap64 (r1 * 1000)) l2 [] rfl (by simp) (by omega) (by omega) (by omega); refine ⟨r, Ev.step (fun k => by rw [mootmake_table.j0]) ?_⟩; rw [e1]; simp only [Option.bind_some]; rw [e2]; simp only [Option.bind_some]; rw [w64c (x := 1 + r2) (by omega) (by omega)]; exact hr
 obtain ⟨r1, l1, e1, h1, _⟩ := next_of l 3 (by omega); have h1' := h1 (by omega); obtain ⟨r2, l2, e2, _⟩ := next_of l1 2 (by omega); unfold mootmake_table.f; simp only [Option.bind_some]; rw [e1]; simp only [Option.bind_some]; by_cases ht : rd ([2, 6, 2] : List Int) r1 = 2
 ·obtain ⟨r, hr⟩ := hj0 l2 2 (rd ([2, 6, 2] : List Int) r1) (r2 == 1); refine ⟨r, evP h1'.1 (evP (by simpa using h1'.2) (evP ht ?_))⟩; rw [e2]; exact hr
 ·obtain ⟨r, hr⟩ := hj0 l1 2 (rd ([2, 6, 2] : List Int) r1) false; exact ⟨r, evP h1'.1 (evP (by simpa using h1'.2) (evN ht hr))⟩
structure St (w0 w : World) (S : Nat) : Prop where
 st : ∃ l, IsS81 w0 w S l
 below : Below w0.heap.size w0 w
theorem St.of_below {w0 w w' : World} {S : Nat} (h : St w0 w S) (hb : Below w.heap.size w w') : St w0 w' S := by
 obtain ⟨l, hl⟩ := h.st; exact ⟨⟨l, hl.below hb⟩, below_step h.below hb⟩
theorem St.S_blk {w0 w : World} {S : Nat} (h : St w0 w S) : ∃ cs, w.heap[S]? = some (.cells cs 81 (0, 0)) ∧ w0.heap.size ≤ S := by
 obtain ⟨l, A, c, hb, hg, _⟩ := h.st; exact ⟨_, hb, hg⟩
theorem St.move {w0 w w' : World} {S : Nat} (h : St w0 w S) (hs : w'.heap[S]? = w.heap[S]?) (hb : Below w0.heap.size w0 w') : St w0 w' S := by
 obtain ⟨l, A, c, hS, hg, hr⟩ := h.st; exact ⟨⟨l, A, c, hs.trans hS, hg, hr⟩, hb⟩
theorem next_st {w0 w : World} {S : Nat} (h : St w0 w S) (m : Int) (hm : m ≤ 1000000000) :
  Calls Tryz.prog 31 #[.pointer (some ⟨S, 0, none⟩), .int .i64 m] w fun e w' => ∃ r, e = .returned (.int .i64 r) ∧ (1 ≤ m → 0 ≤ r ∧ r < m) ∧ St w0 w' S ∧ KeepBut w w' S none := by
 obtain ⟨l, hl⟩ := h.st; obtain ⟨r, l', hf, h1, _⟩ := next_of l m hm; refine (mootmake_Stream_Next.calls S l m r l' w0 w hl h.below hf).mono ?_; rintro e w' ⟨rfl, hs', hb', hk⟩; exact ⟨r, rfl, h1, ⟨⟨l', hs'⟩, hb'⟩, hk⟩
theorem value_st {w0 w : World} {S : Nat} (h : St w0 w S) (kind : Int) :
  Calls Tryz.prog 35 #[.int .i64 kind, .pointer (some ⟨S, 0, none⟩)] w fun e w' => ∃ x, e = .returned (.agg #[.int .i64 kind, .int .i64 x]) ∧ St w0 w' S ∧ KeepBut w w' S none := by
 obtain ⟨l, hl⟩ := h.st; obtain ⟨x, l', hv⟩ := value_ev kind l; obtain ⟨q, hq⟩ := hv.rounds; refine (mootmake_value.calls q kind S l kind x l' w0 w hl h.below hq).mono ?_; rintro e w' ⟨rfl, hs, hb, hk⟩; exact ⟨x, rfl, ⟨⟨l', hs⟩, hb⟩, hk⟩
theorem table_st {w0 w : World} {S : Nat} (h : St w0 w S) (a : ByteArray) :
  Calls Tryz.prog 33 #[.string a, .pointer (some ⟨S, 0, none⟩)] w fun e w' => ∃ (nm : ByteArray) (x y : Int) (b : Bool) (A : Option Addr) (n c : Nat), e = .returned (.agg #[.string nm, .int .i64 x, .int .i64 y, .bool b, .slice A n c]) ∧ St w0 w' S ∧ KeepBut w w' S none := by
 obtain ⟨l, hl⟩ := h.st; obtain ⟨⟨r1, r2, r3, r4, r5, r6⟩, hv⟩ := table_ev a l; obtain ⟨q, hq⟩ := hv.rounds; refine (mootmake_table.calls q a S l r1 r2 r3 r4 r5 r6 w0 w hl h.below hq).mono ?_; rintro e w' ⟨v, rfl, hr, hs, hb, hk⟩; obtain ⟨A, c, rfl⟩ := Kd.R_slice hr; exact ⟨r1, r2, r3, r4, A, _, c, rfl, ⟨⟨r6, hs⟩, hb⟩, hk⟩
theorem below_of (x : Int) (n : Int) (hn : 1 ≤ n) (hn2 : n ≤ 1000000000) : ∃ r, mootmake_Below.f x n = some r ∧ 0 ≤ r ∧ r < n := by
 unfold mootmake_Below.f; rw [if_neg (by omega)]; obtain ⟨b, hb⟩ : ∃ b, b = Int.tmod x n := ⟨_, rfl⟩; have h3 : b < n := hb ▸ Int.tmod_lt_of_pos x (by omega); have h4 : -n < b := by
  have := Int.lt_tmod_of_pos x (b := n) (by omega); omega
 rw [← hb]; by_cases h5 : b < 0
 ·rw [if_pos h5]; have hw : wrap64 (b + n) = b + n := by unfold wrap64; omega
  exact ⟨b + n, by rw [hw], by omega, by omega⟩
 ·rw [if_neg h5]; exact ⟨b, rfl, by omega, by omega⟩
theorem day_st (x : Int) (w : World) : Calls Tryz.prog 32 #[.int .i64 x] w fun e w' => ∃ r, e = .returned (.int .i64 r) ∧ 700000 ≤ r ∧ r < 740000 ∧ Below w.heap.size w w' := by
 obtain ⟨t, ht, h0, h1⟩ := below_of x 40000 (by omega) (by omega); refine (mootmake_Day.calls x (700000 + t) w ?_).mono ?_
 ·unfold mootmake_Day.f; rw [ht]; simp only [Option.bind_some]; rw [w64c (by omega) (by omega)]
 ·rintro e w' ⟨rfl, hd⟩; exact ⟨_, rfl, by omega, by omega, hd.below⟩
theorem ranged_st (k : Int) (w : World) : Calls Tryz.prog 34 #[.int .i64 k] w fun e w' => ∃ lo hi, e = .returned (.tuple #[.int .i64 lo, .int .i64 hi]) ∧ Below w.heap.size w w' := by
 obtain ⟨lo, hi, h, _⟩ := ranged_ok k; refine (mootmake_ranged.calls k lo hi w h).mono ?_; rintro e w' ⟨rfl, hd⟩; exact ⟨lo, hi, rfl, hd.below⟩
structure By (w0 w : World) (S G : Nat) (acts : List ActX) (V3 V4 V5 : Nat → Value) : Prop where
 stm : St w0 w S
 bd : Bd w0 w G acts V3 V4 V5
theorem By.of_below {w0 w w' : World} {S G : Nat} {acts : List ActX} {V3 V4 V5 : Nat → Value} (h : By w0 w S G acts V3 V4 V5) (hb : Below w.heap.size w w') : By w0 w' S G acts V3 V4 V5 := ⟨h.stm.of_below hb, h.bd.of_below hb⟩
theorem By.keep {w0 w w' : World} {S G : Nat} {acts : List ActX} {V3 V4 V5 : Nat → Value} (h : By w0 w S G acts V3 V4 V5) (hs : St w0 w' S) (hk : KeepBut w w' S none) : By w0 w' S G acts V3 V4 V5 := by
 obtain ⟨cs, hS, _⟩ := h.stm.S_blk; exact ⟨hs, h.bd.keep hk hS⟩
theorem Bd.cell3 {w0 w : World} {G : Nat} {acts : List ActX} {V3 V4 V5 : Nat → Value} (h : Bd w0 w G acts V3 V4 V5) {j : Nat} (hj : j < acts.length) : w.cell? ⟨G, j * 6 + 3, none⟩ = some (V3 j) := by
 obtain ⟨cs, hG, hA⟩ := h.blk; exact (blk_cell hG _).trans (hA j hj).c3
theorem Bd.cell4 {w0 w : World} {G : Nat} {acts : List ActX} {V3 V4 V5 : Nat → Value} (h : Bd w0 w G acts V3 V4 V5) {j : Nat} (hj : j < acts.length) : w.cell? ⟨G, j * 6 + 4, none⟩ = some (V4 j) := by
 obtain ⟨cs, hG, hA⟩ := h.blk; exact (blk_cell hG _).trans (hA j hj).c4
theorem By.close3 {w0 w w1 : World} {S G : Nat} {acts : List ActX} {V3 V4 V5 : Nat → Value} {j : Nat} (h : By w0 w S G acts V3 V4 V5) (hj : j < acts.length) {ys : List S95} {v1 : Value} (ho : Kd.R k95 95 w1 w0.heap.size T1 v1 ((rdN acts j).2.2.2.1 ++ ys)) (hb : Below w0.heap.size w0 w1) (hg : w.grownBy w1 (V3 j).ownBlock) (hat : v1.ownBlock = (V3 j).ownBlock ∨ ∃ b, v1.ownBlock = some b ∧ w.heap.size ≤ b) :
  By w0 (w1.setCell ⟨G, j * 6 + 3, none⟩ v1) S G (acts.set j (upd3 (rdN acts j) ys)) (upd V3 j v1) V4 V5 := by
 obtain ⟨cs, hG, hA⟩ := h.bd.blk; obtain ⟨ss, hS, _⟩ := h.stm.S_blk; refine ⟨h.stm.move ((Below.heap_setCell w1 ⟨G, j * 6 + 3, none⟩ v1 S (blk_ty_ne hS hG (by decide))).trans (hg.block S (blk_lt hS) (Kd.R_ne (h.bd.r3 j hj) hS (by decide)))) (hb.setCell h.bd.late _), h.bd.put3 hj ho hg hat⟩
theorem By.close4 {w0 w w1 : World} {S G : Nat} {acts : List ActX} {V3 V4 V5 : Nat → Value} {j : Nat} (h : By w0 w S G acts V3 V4 V5) (hj : j < acts.length) {ys : List TabX} {v1 : Value} (ho : Kd.R kTab 91 w1 w0.heap.size T1 v1 ((rdN acts j).2.2.2.2.1 ++ ys)) (hb : Below w0.heap.size w0 w1) (hg : w.grownBy w1 (V4 j).ownBlock) (hat : v1.ownBlock = (V4 j).ownBlock ∨ ∃ b, v1.ownBlock = some b ∧ w.heap.size ≤ b) :
  By w0 (w1.setCell ⟨G, j * 6 + 4, none⟩ v1) S G (acts.set j (upd4 (rdN acts j) ys)) V3 (upd V4 j v1) V5 := by
 obtain ⟨cs, hG, hA⟩ := h.bd.blk; obtain ⟨ss, hS, _⟩ := h.stm.S_blk; refine ⟨h.stm.move ((Below.heap_setCell w1 ⟨G, j * 6 + 4, none⟩ v1 S (blk_ty_ne hS hG (by decide))).trans (hg.block S (blk_lt hS) (Kd.R_ne (h.bd.r4 j hj) hS (by decide)))) (hb.setCell h.bd.late _), h.bd.put4 hj ho hg hat⟩
theorem St.next_lit {w0 w : World} {S : Nat} (h : St w0 w S) (cs : Array Value) (m : Int) (hm : 1 ≤ m ∧ m ≤ 1000) (hc : ∀ j : Nat, (j : Int) < m → ∃ x, cs[j]? = some (.int .i64 x)) :
  Calls Tryz.prog 31 #[.pointer (some ⟨S, 0, none⟩), .int .i64 m] (w.alloc (.cells cs 3)) fun e w' => ∃ r x, e = .returned (.int .i64 r) ∧ 0 ≤ r ∧ r < m ∧ w'.cell? ⟨w.heap.size, r.toNat, none⟩ = some (.int .i64 x) ∧ St w0 w' S ∧ KeepBut w w' S none := by
 refine (next_st (h.of_below (below_alloc (Below.refl _ _) (.cells cs 3))) m (by omega)).mono ?_; rintro e w' ⟨r, rfl, hr, hs, hk⟩; obtain ⟨h0, h1⟩ := hr hm.1; obtain ⟨x, hx⟩ := hc r.toNat (by omega); obtain ⟨ss, hS, _⟩ := h.S_blk; have hnew := blk_new w (.cells cs 3); have hlt : S < w.heap.size := blk_lt hS; have hb := (hk.2 _ (blk_lt hnew) (by omega) (by simp)).trans hnew; refine ⟨r, x, rfl, h0, h1, (blk_cell hb r.toNat).trans hx, hs, ?_⟩; have ha := below_alloc (Below.refl w.heap.size w) (.cells cs 3); exact ⟨Nat.le_trans ha.size hk.1, fun i hi h1 h2 => (hk.2 i (Nat.lt_of_lt_of_le hi ha.size) h1 h2).trans (ha.block i hi)⟩
theorem Mk.of_kn {w0 w w' : World} {S M : Nat} {li lo : List S95} {lt : List TabX} {Ai Ao At : Option Addr} {ci co ct : Nat} (h : Kn w w' (some ⟨S, 0, none⟩) M li lo lt Ai Ao At ci co ct) (hs : St w0 w S) (h1 : li.length ≤ 100) (h2 : lo.length ≤ 100) (h3 : lt.length ≤ 100) : Mk w0 w' M S :=
 ⟨⟨_, _, _, li, lo, lt, h.blk, Kd.R_lower h.ri hs.below.size, Kd.R_lower h.ro hs.below.size, Kd.R_lower h.rt hs.below.size, h1, h2, h3⟩, (hs.of_below h.below).st⟩
theorem known_ar {w0 w : World} {S G n a t r c : Nat} {acts : List ActX} {V3 V4 V5 : Nat → Value} (h : By w0 w S G acts V3 V4 V5) (ha : AOk acts n a t r) (hn : n ≤ 100) (h1 : a ≤ 100) (h2 : t ≤ 100) (below : Int) :
  Calls Tryz.prog 36 #[.slice (some ⟨G, 0, none⟩) n c, .int .i64 below, .pointer (some ⟨S, 0, none⟩)] w fun e w' => ∃ M, e = .returned (.pointer (some ⟨M, 0, none⟩)) ∧ Ar w0 w' M S G acts V3 V4 V5 ∧ Below w.heap.size w w' := by
 obtain rfl := ha.num; have hat : (acts.flatMap (·.2.2.2.1)).length ≤ 100 := Nat.le_trans ha.att h1; refine (known_ok (some ⟨G, 0, none⟩) acts c below (some ⟨S, 0, none⟩) (h.bd.reads hn) hn hat (Nat.le_trans ha.tab h2)).mono ?_; rintro e w' ⟨M, li, lo, lt, Ai, Ao, At, ci, co, ct, rfl, hK, hli, hlo, hlt⟩; refine ⟨M, rfl, ⟨Mk.of_kn hK h.stm (by rw [hli]; exact Nat.le_trans (List.length_filter_le _ _) hat) hlo hlt, h.bd.of_below hK.below, below_step h.stm.below hK.below⟩, hK.below⟩
theorem Ar.by_ {w0 w : World} {M S G : Nat} {acts : List ActX} {V3 V4 V5 : Nat → Value} (h : Ar w0 w M S G acts V3 V4 V5) : By w0 w S G acts V3 V4 V5 := ⟨⟨h.maker.st, h.below⟩, h.bd⟩
theorem article_by {w0 w : World} {M S G n a t r c : Nat} {acts : List ActX} {V3 V4 V5 : Nat → Value} (h : Ar w0 w M S G acts V3 V4 V5) (ha : AOk acts n a t r) (h1 : 1 ≤ n) (hn : n ≤ 100) (hr : r ≤ 1000) (x : S95) :
  Calls Tryz.prog 37 #[.pointer (some ⟨M, 0, none⟩), .slice (some ⟨G, 0, none⟩) n c, .agg #[.string x.f0, .int .i64 x.f1, .bool x.f2, .int .i64 x.f3, .int .i64 x.f4, .int .i64 x.f5.f0, .int .i64 x.f5.f1]] w fun e w' => ∃ acts' V5', e = .returned (.tuple #[]) ∧ Ar w0 w' M S G acts' V3 V4 V5' ∧ AOk acts' n a t (r + 1) ∧ (∀ x, x ∈ atts acts' ↔ x ∈ atts acts) ∧ FrA S G w w' := by
 obtain rfl := ha.num; refine (article_ok h h1 hn (Nat.le_trans ha.art hr) x).mono ?_; rintro e w' ⟨j, y, V5', hj, rfl, hA, hF⟩; obtain ⟨h3, h4⟩ := ha.put5 hj [y]; exact ⟨_, V5', rfl, hA, h3, h4, hF⟩
theorem By.grown95 {w0 w w' : World} {S G N : Nat} {acts : List ActX} {V3 V4 V5 : Nat → Value} {row : Option Nat} (h : By w0 w S G acts V3 V4 V5) (hV : ∀ i, i < acts.length → ∀ q, (V3 i).ownBlock = some q → q < N) (hg : w.grownBy w' row) (ht : ∀ k, row = some k → N ≤ k ∧ ∃ cells, w.heap[k]? = some (.cells cells 95 (0, 0))) (hb : Below w0.heap.size w0 w') : By w0 w' S G acts V3 V4 V5 := by
 have hm : ∀ (i : Nat) (ds : Array Value) (t : TypeId), w.heap[i]? = some (.cells ds t (0, 0)) → t ≠ 95 → w'.heap[i]? = w.heap[i]? := fun i ds t hi h8 => hg.block i (blk_lt hi) (fun e => by
  obtain ⟨_, cells, hc⟩ := ht i e.symm; exact blk_ty_ne hi hc h8 rfl)
 obtain ⟨ss, hS, _⟩ := h.stm.S_blk; obtain ⟨cs, hG, hA⟩ := h.bd.blk; exact ⟨h.stm.move (hm _ _ _ hS (by decide)) hb, ⟨h.bd.late, ⟨cs, (hm G _ 87 hG (by decide)).trans hG, hA⟩,
  fun j hj => Kd.R_mono (Kd.R_grown (R_okM (ok' := fun k => some k ≠ row) (M95 _ _) (h.bd.r3 j hj) (fun k hk e => by
   have := hV j hj k hk; have := (ht k e.symm).1; omega)) hg (fun _ hk => hk)) (fun _ _ => trivial),
  fun j hj => R_moved (h.bd.r4 j hj) (fun i c t hc ht => hm i c t hc (by have h8 : t = 91 := (by simpa [kTab, kSl, Kd.iso, Kd.pair, Kd.string, Kd.int, Kd.bool, Kd.scalar] using ht); subst h8; decide)),
  fun j hj => R_moved (h.bd.r5 j hj) (fun i c t hc ht => hm i c t hc (by have h8 : t = 133 := (by simpa [kArt, kSl, Kd.iso, Kd.pair, Kd.string, Kd.int, Kd.bool, Kd.scalar] using ht); subst h8; decide)), h.bd.a3, h.bd.a4, h.bd.a5⟩⟩
theorem grown_sets (w : World) (g j : Nat) (vs : List Value) : w.grownBy (w.setCells g j vs) (some g) := by
 obtain ⟨h1, h2, h3, h4⟩ := sets_size g vs j w; exact ⟨h2, h3, h4, Nat.le_of_eq h1.symm, fun k _ hk => sets_far g k (fun e => hk (by rw [e])) vs j w⟩
theorem var_event2 {P : Program} {ops : Array Oper} {rest : List Oper} {o om o2 : Oper} {a : Act} {Q : Exit → Act → World → Prop} {W : World} (hgd : o.guard = none) {N : Tmp} (_hd : o.dst = some N) (hgm : om.guard = none) (hgd2 : o2.guard = none) (hd2 : o2.dst = none) (cs0 : Array Value) (vs : List Value) (t : TypeId) (vm : Value)
  (hrun : (execOp a.eval o).run P W = .ok (.value (.pointer (some ⟨W.heap.size, 0, none⟩))) (W.alloc (.cells cs0 t (0, 0))))
  (hl : vs.length = cs0.size)
  (hmid : ∀ g W1, (execOp (a.put o.dst (.pointer (some ⟨g, 0, none⟩))).eval om).run P W1 = .ok (.value vm) W1)
  (hrun2 : ∀ g W1, W1.heap[g]? = some (.cells cs0 t (0, 0)) → (execOp ((a.put o.dst (.pointer (some ⟨g, 0, none⟩))).put om.dst vm).eval o2).run P W1 = .ok .skip (W1.setCells g 0 vs))
  (h : ∀ g, g = W.heap.size → ∀ W2, W2.heap[g]? = some (.cells vs.toArray t (0, 0)) → Below W.heap.size W W2 → wpList P ops Q rest ((a.put o.dst (.pointer (some ⟨g, 0, none⟩))).put om.dst vm) W2) : wpList P ops Q (o :: om :: o2 :: rest) a W := by
 have hb := blk_new W (.cells cs0 t (0, 0)); obtain ⟨h1, h2, h3, h4⟩ := sets_size W.heap.size vs 0 (W.alloc (.cells cs0 t (0, 0))); have hB : Below W.heap.size W (W.alloc (.cells cs0 t (0, 0))) := below_alloc (Below.refl _ _) _; refine Kd.event_run hgd hrun ?_; refine Kd.event_run hgm (hmid _ _) ?_; have h5 := h W.heap.size rfl _ (sets_all hb hl) ⟨h2.trans hB.os, h3.trans hB.tape, h4.trans hB.output, by rw [h1]; exact hB.size, fun k hk => (sets_far _ k (by omega) vs 0 _).trans (hB.block k hk)⟩; refine wpList_plain hgd2 fun K hK => ?_; unfold Oper.wp; rw [hrun2 _ _ hb]; have h6 := hK _ _ h5; show K (((a.put o.dst (.pointer (some ⟨W.heap.size, 0, none⟩))).put om.dst vm).put o2.dst undef) _; rw [hd2]; exact h6
theorem R_fra {α : Type} {d : Kd α} {e b : Nat} {ok : Nat → Prop} {u : Value} {zs : List α} {w0 w w' : World} {S G : Nat} {acts : List ActX} {V3 V4 V5 : Nat → Value} (hr : d.R e w b ok u zs) (h : By w0 w S G acts V3 V4 V5) (hf : FrA S G w w') (ht : ∀ q, q ∈ e :: d.E → q ≠ 81 ∧ q ≠ 87 ∧ q ≠ 133) : d.R e w' b ok u zs := by
 obtain ⟨cs, hG, hA⟩ := h.bd.blk; obtain ⟨ss, hS, _⟩ := h.stm.S_blk; exact R_moved hr (fun i ds t hi hq => hf.keep i (blk_lt hi) (blk_ty_ne hi hS (ht t hq).1) (blk_ty_ne hi hG (ht t hq).2.1) (fun cs' hc => blk_ty_ne hi hc (ht t hq).2.2 rfl))
theorem blk_fra {w0 w w' : World} {S G g t : Nat} {acts : List ActX} {V3 V4 V5 : Nat → Value} {cs : Array Value} (hg : w.heap[g]? = some (.cells cs t (0, 0))) (h : By w0 w S G acts V3 V4 V5) (hf : FrA S G w w') (ht : t ≠ 81 ∧ t ≠ 87 ∧ t ≠ 133) : w'.heap[g]? = some (.cells cs t (0, 0)) := by
 obtain ⟨cs', hG, hA⟩ := h.bd.blk; obtain ⟨ss, hS, _⟩ := h.stm.S_blk; exact (hf.keep g (blk_lt hg) (blk_ty_ne hg hS ht.1) (blk_ty_ne hg hG ht.2.1) (fun cs' hc => blk_ty_ne hg hc ht.2.2 rfl)).trans hg
theorem part_le {α : Type} (f : ActX → List α) (xs : List ActX) (j : Nat) (hj : j < xs.length) : (f (rdN xs j)).length ≤ (xs.flatMap f).length := by
 have h1 := congrArg List.length (take_flat f xs (j : Int) (by omega) (by omega)); have h2 := flat_le f xs ((j : Int) + 1).toNat; rw [List.length_append, show rdA xs (j : Int) = rdN xs j from rfl] at h1; omega
theorem AOk.mono {acts : List ActX} {n a t r a' t' r' : Nat} (h : AOk acts n a t r) (h1 : a ≤ a') (h2 : t ≤ t') (h3 : r ≤ r') : AOk acts n a' t' r' := ⟨h.num, Nat.le_trans h.att h1, Nat.le_trans h.tab h2, Nat.le_trans h.art h3, h.inp⟩
theorem By.start {w0 w : World} {S : Nat} {v : Value} {xs : List Act0} (hs : St w0 w S) (h : Kd.R kA0 87 w w0.heap.size T1 v xs) (hn : NoRows xs) (h1 : 1 ≤ xs.length) : ∃ G c acts V3 V4 V5, v = .slice (some ⟨G, 0, none⟩) xs.length c ∧ By w0 w S G acts V3 V4 V5 ∧ AOk acts xs.length 0 0 0 := by
 obtain ⟨G, c, e, hb⟩ := Bd.start h hn h1; exact ⟨G, c, _, _, _, _, e, ⟨hs, hb⟩, AOk.start xs⟩
def BodyRes (w : World) (e : Ending) (w' : World) : Prop := ∃ (G c n : Nat) (acts : List ActX), e = .returned (.slice (some ⟨G, 0, none⟩) acts.length c) ∧ Kd.C kAct w' (some ⟨G, 0, none⟩) acts.length acts ∧ Below w.heap.size w w' ∧ AOk acts n 9 3 16 ∧ n ≤ 3 ∧ ∃ x ∈ atts acts, x.f2 = true
theorem info87 : (Tryz.prog.info? 87).map (fun i => (i.zero, i.size, i.bytes)) = some (some (.agg #[.string ⟨#[]⟩, .int .i64 0, .int .i64 0, .slice none 0 0, .slice none 0 0, .slice none 0 0]), 6, 104) := kl_
theorem kind_lit (i : Int) (h0 : 0 ≤ i) (h1 : i < 7) : ∃ x, (#[.int .i64 1, .int .i64 2, .int .i64 5, .int .i64 4, .int .i64 1, .int .i64 6, .int .i64 3] : Array Value)[i.toNat]? = some (.int .i64 x) ∧ 1 ≤ x ∧ x ≤ 6 := by
 obtain ⟨n, rfl⟩ : ∃ n : Nat, i = n := ⟨i.toNat, by omega⟩; rw [Int.toNat_natCast]; match n, h1 with
 | 0, _ => exact ⟨1, rfl, by omega, by omega⟩
 | 1, _ => exact ⟨2, rfl, by omega, by omega⟩
 | 2, _ => exact ⟨5, rfl, by omega, by omega⟩
 | 3, _ => exact ⟨4, rfl, by omega, by omega⟩
 | 4, _ => exact ⟨1, rfl, by omega, by omega⟩
 | 5, _ => exact ⟨6, rfl, by omega, by omega⟩
 | 6, _ => exact ⟨3, rfl, by omega, by omega⟩
 | n + 7, h => omega
end Go.Proofs.YtkjneemcledfjaaGreatDoor.PBookCases
