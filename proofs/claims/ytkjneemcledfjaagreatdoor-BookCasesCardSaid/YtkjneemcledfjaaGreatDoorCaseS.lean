import Derived.Test.YtkjneemcledfjaaGreatDoorCaseQ
import Derived.Test.YtkjneemcledfjaaGreatDoorPBookCasesx0
import Derived.Test.YtkjneemcledfjaaGreatDoorPBookCasesx10
import Derived.Test.YtkjneemcledfjaaGreatDoorPBookCasesx11
import Derived.Test.YtkjneemcledfjaaGreatDoorPBookCasesx12
namespace Go.Proofs.YtkjneemcledfjaaGreatDoor.PBookCases
open Go.RowKit Go.Proofs.YtkjneemcledfjaaGreatDoorW.PrintWords Go.Proofs.YtkjneemcledfjaaGreatDoorW.PrintLast Go.Proofs.YtkjneemcledfjaaGreatDoorW.PrintMore
set_option linter.unusedVariables false
set_option linter.unusedSimpArgs false
set_option maxHeartbeats 8000000
set_option maxRecDepth 100000
def VOk (k n : Int) : Prop := (k = 1 ∧ 0 ≤ n ∧ n ≤ 1) ∨ (k = 2 ∧ -5000 ≤ n ∧ n ≤ 200000) ∨ (k = 3 ∧ 0 ≤ n ∧ n ≤ 400) ∨ (k = 4 ∧ 700000 ≤ n ∧ n ≤ 739999) ∨ (k = 5 ∧ 0 ≤ n ∧ n ≤ 6) ∨ (k = 6 ∧ 0 ≤ n ∧ n ≤ 1000000)
theorem value_rng (k : Int) (hk1 : 1 ≤ k) (hk6 : k ≤ 6) (l : List Int) : ∃ n l', Ev (fun q => mootmake_value.f q k l) (k, n, l') ∧ VOk k n := by
 obtain ⟨lo, hi, h1, h2, h3, h4, hv⟩ : ∃ lo hi, mootmake_ranged.f k = some (lo, hi) ∧ -1000000 ≤ lo ∧ lo ≤ hi ∧ hi ≤ 1000000 ∧ ∀ n, (k = 6 ∧ (∃ r, 0 ≤ r ∧ r < 21 ∧ n = lo + r * 50000)) ∨ (k = 2 ∧ ∃ r, 0 ≤ r ∧ r < 12 ∧ n = lo + r * 1000) ∨ (k ≠ 6 ∧ ∃ r, 0 ≤ r ∧ r < hi - lo + 1 ∧ n = lo + r) → VOk k n := by
  rcases (show k = 1 ∨ k = 2 ∨ k = 3 ∨ k = 4 ∨ k = 5 ∨ k = 6 by omega) with rfl | rfl | rfl | rfl | rfl | rfl
  ·exact ⟨0, 1, rfl, by omega, by omega, by omega, fun n h => by unfold VOk; rcases h with ⟨h, _⟩ | ⟨h, _⟩ | ⟨_, r, h⟩ <;> omega⟩
  ·refine ⟨-5000, 200000, rfl, by omega, by omega, by omega, fun n h => ?_⟩; unfold VOk; rcases h with ⟨h, _⟩ | ⟨_, r, h⟩ | ⟨_, r, h⟩ <;> omega
  ·exact ⟨0, 400, rfl, by omega, by omega, by omega, fun n h => by unfold VOk; rcases h with ⟨h, _⟩ | ⟨h, _⟩ | ⟨_, r, h⟩ <;> omega⟩
  ·exact ⟨700000, 739999, rfl, by omega, by omega, by omega, fun n h => by unfold VOk; rcases h with ⟨h, _⟩ | ⟨h, _⟩ | ⟨_, r, h⟩ <;> omega⟩
  ·exact ⟨0, 6, rfl, by omega, by omega, by omega, fun n h => by unfold VOk; rcases h with ⟨h, _⟩ | ⟨h, _⟩ | ⟨_, r, h⟩ <;> omega⟩
  ·refine ⟨0, 1000000, rfl, by omega, by omega, by omega, fun n h => ?_⟩; unfold VOk; rcases h with ⟨_, r, h⟩ | ⟨h, _⟩ | ⟨h, _⟩ <;> omega
 have hj : ∀ (b : Int) (c : Bool) (l : List Int), 0 ≤ b → b < hi - lo + 1 → (c = true → k = 2) → ∃ n l', Ev (fun q => mootmake_value.j0 q k lo b c l) (k, n, l') ∧ VOk k n := fun b c l hb0 hb1 hc2 => by
  obtain ⟨r1, l1, e1, g1, _⟩ := next_of l 12 (by omega); obtain ⟨r3, l3, e3, g3, _⟩ := next_of l 21 (by omega); have g1 := g1 (by omega); have g3 := g3 (by omega); by_cases hc : c = true
  ·have hk := hc2 hc; refine ⟨wrap64 (lo + wrap64 (r1 * 1000)), l1, Ev.step (fun q => by rw [mootmake_value.j0]) (evP hc ?_), ?_⟩
   ·rw [e1]; simp only [Option.bind_some]; exact evN (by omega) (evT rfl)
   ·rw [w64c (x := r1 * 1000) (by omega) (by omega), w64c (by omega) (by omega)]; exact hv _ (.inr (.inl ⟨hk, r1, g1.1, g1.2, rfl⟩))
  ·by_cases hk : k = 6
   ·refine ⟨wrap64 (lo + wrap64 (r3 * 50000)), l3, Ev.step (fun q => by rw [mootmake_value.j0]) (evN hc (evP hk ?_)), ?_⟩
    ·rw [e3]; exact evT rfl
    ·rw [w64c (x := r3 * 50000) (by omega) (by omega), w64c (by omega) (by omega)]; exact hv _ (.inl ⟨hk, r3, g3.1, g3.2, rfl⟩)
   ·refine ⟨wrap64 (lo + b), l, Ev.step (fun q => by rw [mootmake_value.j0]) (evN hc (evN hk (evT rfl))), ?_⟩; rw [w64c (by omega) (by omega)]; exact hv _ (.inr (.inr ⟨hk, b, hb0, hb1, rfl⟩))
 have hw : wrap64 (wrap64 (hi - lo) + 1) = hi - lo + 1 := by rw [w64c (x := hi - lo) (by omega) (by omega), w64c (by omega) (by omega)]
 obtain ⟨r1, l1, e1, g1, _⟩ := next_of l (hi - lo + 1) (by omega); have g1 := g1 (by omega); obtain ⟨r2, l2, e2, _⟩ := next_of l1 2 (by omega); by_cases hk : k = 2
 ·obtain ⟨n, l', hj', hvk⟩ := hj r1 (r2 == 0) l2 g1.1 g1.2 (fun _ => hk); refine ⟨n, l', ?_, hvk⟩; unfold mootmake_value.f; rw [h1]; simp only [Option.bind_some]; rw [hw, e1]; simp only [Option.bind_some]; refine evP hk ?_; rw [e2]; exact hj'
 ·obtain ⟨n, l', hj', hvk⟩ := hj r1 false l1 g1.1 g1.2 (fun h => by cases h); refine ⟨n, l', ?_, hvk⟩; unfold mootmake_value.f; rw [h1]; simp only [Option.bind_some]; rw [hw, e1]; simp only [Option.bind_some]; exact evN hk hj'
theorem value_in {w0 w : World} {S : Nat} (h : St w0 w S) (kind : Int) (hk1 : 1 ≤ kind) (hk6 : kind ≤ 6) :
  Calls Tryz.prog 35 #[.int .i64 kind, .pointer (some ⟨S, 0, none⟩)] w fun e w' => ∃ x, e = .returned (.agg #[.int .i64 kind, .int .i64 x]) ∧ VOk kind x ∧ St w0 w' S ∧ KeepBut w w' S none := by
 obtain ⟨l, hl⟩ := h.st; obtain ⟨x, l', hv, hx⟩ := value_rng kind hk1 hk6 l; obtain ⟨q, hq⟩ := hv.rounds; refine (mootmake_value.calls q kind S l kind x l' w0 w hl h.below hq).mono ?_; rintro e w' ⟨rfl, hs, hb, hk⟩; exact ⟨x, rfl, hx, ⟨⟨l', hs⟩, hb⟩, hk⟩
def POk (p : S103) : Prop := p.f0 = 1 ∨ p.f0 = 4 ∨ p.f0 = 7
theorem parties_l0 (b : Int) (hb : b ≤ 3) (n : Nat) : ∀ (i : Int) (st : List Int) (xs : List S103), (b - i).toNat = n → 0 ≤ i → i ≤ b → (xs.length : Int) = i → (∀ p ∈ xs, POk p) → ∃ rs st', Ev (fun k => mootmake_parties.l0 k xs b i st) (rs, st') ∧ (rs.length : Int) = b ∧ ∀ p ∈ rs, POk p := by
 induction n with
 | zero =>
  intro i st xs hn h0 h1 hl hp; exact ⟨xs, st, Ev.step (fun k => by rw [mootmake_parties.l0]) (evN (by omega) (evT rfl)), by omega, hp⟩
 | succ n ih =>
  intro i st xs hn h0 h1 hl hp; obtain ⟨r, l1, e1, g1, _⟩ := next_of st 2 (by omega); have g1 := g1 (by omega); have w1 : wrap64 (wrap64 (3 * i) + 1) = 3 * i + 1 := by rw [w64c (x := 3 * i) (by omega) (by omega), w64c (by omega) (by omega)]
  have w2 : wrap64 (i + 1) = i + 1 := w64c (by omega) (by omega); obtain ⟨rs, st', hr, h2, h3⟩ := ih (i + 1) l1 (xs ++ [⟨3 * i + 1, wrap64 (1 + r)⟩]) (by omega) (by omega) (by omega) (by simp; omega) (fun p hp' => by
   rcases List.mem_append.1 hp' with hp' | hp'
   ·exact hp p hp'
   ·rw [List.mem_singleton.1 hp']; show 3 * i + 1 = 1 ∨ 3 * i + 1 = 4 ∨ 3 * i + 1 = 7; omega)
  refine ⟨rs, st', Ev.step (fun k => by rw [mootmake_parties.l0]) (evP (by omega) ?_), h2, h3⟩; rw [e1]; simp only [Option.bind_some]; refine evP (by omega) ?_; rw [w1, w2]; exact hr
theorem parties_st {w0 w : World} {S : Nat} (h : St w0 w S) :
  Calls Tryz.prog 38 #[.pointer (some ⟨S, 0, none⟩)] w fun e w' => ∃ (g c : Nat) (ps : List S103), e = .returned (.slice (some ⟨g, 0, none⟩) ps.length c) ∧ Kd.R k103 103 w' w.heap.size T1 (.slice (some ⟨g, 0, none⟩) ps.length c) ps ∧ 1 ≤ ps.length ∧ ps.length ≤ 3 ∧ (∀ p ∈ ps, POk p) ∧ St w0 w' S ∧ KeepBut w w' S none := by
 obtain ⟨l, hl⟩ := h.st; obtain ⟨r, l1, e1, g1, _⟩ := next_of l 3 (by omega); have g1 := g1 (by omega); obtain ⟨ps, st', hr, h2, h3⟩ := parties_l0 (1 + r) (by omega) _ 0 l1 [] rfl (by omega) (by omega) rfl (fun p hp => by simp at hp); have hv : Ev (fun k => mootmake_parties.f k l) (ps, st') := by
  unfold mootmake_parties.f; rw [e1]; simp only [Option.bind_some]; rw [w64c (x := 1 + r) (by omega) (by omega)]; exact hr
 obtain ⟨q, hq⟩ := hv.rounds; refine (mootmake_parties.calls q S l ps st' w0 w hl h.below hq).mono ?_; rintro e w' ⟨v, rfl, hr, hs, hb, hk⟩; obtain ⟨g, c, rfl, _⟩ := Kd.R_form hr (by omega); exact ⟨g, c, ps, rfl, hr, by omega, by omega, h3, ⟨⟨st', hs⟩, hb⟩, hk⟩
theorem attr_Sort.srt_mem (l : List S95) (x : S95) (hx : x ∈ attr_Sort.srt l) : x ∈ l := by
 unfold attr_Sort.srt at hx; have hp := (Sort.pdq_sorts (ltOf attr_Sort.cf) attr_Sort.swo l.toArray 0 l.toArray.size (Lib.bitLen l.toArray.size) true true (Nat.zero_le _) (Nat.le_refl _) (Or.inl rfl)).1.2.2; rw [Array.extract_eq_self_of_le (Nat.le_refl _)] at hp; have hs := (Sort.pdq_sorts (ltOf attr_Sort.cf) attr_Sort.swo l.toArray 0 l.toArray.size (Lib.bitLen l.toArray.size) true true (Nat.zero_le _) (Nat.le_refl _) (Or.inl rfl)).1.1; rw [Array.extract_eq_self_of_le (Nat.le_of_eq hs)] at hp; exact hp.mem_iff.1 hx
theorem attr_Sort.srt_len (l : List S95) : (attr_Sort.srt l).length = l.length := by
 unfold attr_Sort.srt; have hs := (Sort.pdq_sorts (ltOf attr_Sort.cf) attr_Sort.swo l.toArray 0 l.toArray.size (Lib.bitLen l.toArray.size) true true (Nat.zero_le _) (Nat.le_refl _) (Or.inl rfl)).1.1; simpa using hs
theorem inputs_srt {acts : List ActX} {n a t r : Nat} {li : List S95} (ha : AOk acts n a t r) (hli : li = (acts.flatMap (·.2.2.2.1)).filter (·.f2)) (hl : li.length ≤ 100) : ∃ ls, (ls.length = li.length ∧ li.length ≤ 100 ∧ (∀ x ∈ ls, InOk x) ∧ ((∃ x ∈ atts acts, x.f2 = true) → 1 ≤ li.length)) ∧ attr_Sort.f li = some ls := by
 have hin : ∀ x ∈ li, InOk x := fun x hx => by
  rw [hli] at hx; obtain ⟨h1, h2⟩ := List.mem_filter.1 hx; exact ha.inp x h1 h2
 have hne : (∃ x ∈ atts acts, x.f2 = true) → 1 ≤ li.length := by
  rintro ⟨x, hx, hf⟩; have : x ∈ li := by rw [hli]; exact List.mem_filter.2 ⟨hx, hf⟩
  exact List.length_pos_of_mem this
 unfold attr_Sort.f; by_cases h0 : li.length = 0
 ·rw [if_pos h0]; exact ⟨[], ⟨by simp [h0], hl, fun x hx => by simp at hx, hne⟩, rfl⟩
 ·rw [if_neg h0, if_pos (by omega)]; exact ⟨_, ⟨attr_Sort.srt_len li, hl, fun x hx => hin x (attr_Sort.srt_mem li x hx), hne⟩, rfl⟩
theorem inputs_ok {w : World} (A : Option Addr) (acts : List ActX) (c n a t r : Nat) (h : Kd.C kAct w A acts.length acts) (ha : AOk acts n a t r) (hn : n ≤ 100) (h1 : a ≤ 100) (h2 : t ≤ 100) :
  Calls Tryz.prog 39 #[.slice A acts.length c] w fun e w' => ∃ (A' : Option Addr) (c' : Nat) (xs : List S95), e = .returned (.slice A' xs.length c') ∧ Kd.R k95 95 w' w.heap.size T1 (.slice A' xs.length c') xs ∧ Below w.heap.size w w' ∧ xs.length ≤ 100 ∧ (∀ x ∈ xs, InOk x) ∧ ((∃ x ∈ atts acts, x.f2 = true) → 1 ≤ xs.length) := by
 have hat : (acts.flatMap (·.2.2.2.1)).length ≤ 100 := Nat.le_trans ha.att h1; have HK := Aside0.mk (known_ok A acts c 0 none h (by have := ha.num; omega) hat (Nat.le_trans ha.tab h2)); have HA := Aside0.mk ha; have HAT := Aside0.mk hat; clear h ha hat; go_enter Tryz.func39, Tryz.ntmps39; go_wp2_with (first | (go_at_call 36; (with_reducible refine (HK.out).mono ?_); rintro e w9 ⟨M, li, lo, lt, Ai, Ao, At, ci, co, ct, rfl, hK, hli, hlo, hlt⟩; have HB := Aside0.mk hK.below; have HR := Aside0.mk hK.ri; have hcM := (blk_cell hK.blk 1).trans (show _ = some (Value.slice Ai li.length ci) from rfl); have HLI := Aside0.mk hli; have HSRT := inputs_srt HA.out HLI.out (Nat.le_trans (by rw [HLI.out]; exact List.length_filter_le _ _) HAT.out); clear hK hli hlo hlt HK) | (go_at_call 56; obtain ⟨ls, hls, hf⟩ := HSRT; (with_reducible refine (attr_Sort.calls T1 (.slice Ai li.length ci) li ls w _ HB.out HR.out hf).mono ?_); rintro e w8 ⟨rfl, hr, hb, _⟩; replace HB := Aside0.mk hb; replace HR := Aside0.mk (show Kd.R k95 95 w8 w.heap.size T1 (.slice Ai ls.length ci) ls by rw [hls.1]; exact Kd.R_mono hr (fun _ _ => trivial)); clear hb hf hr)); go_ret; exact ⟨Ai, ci, ls, by rw [hls.1]; rfl, HR.out, HB.out, by rw [hls.1]; exact hls.2.1, hls.2.2.1, fun hx => by rw [hls.1]; exact hls.2.2.2 hx⟩
structure Cs (w w' : World) (S g4 g7 : Nat) (bg : Int) (ps : List S103) (xs : List S95) (fs : List S48) (Vp Vx Vf : Value) : Prop where
 stm : St w w' S
 inp : Kd.R k95 95 w' w.heap.size T1 Vx xs
 par : Kd.R k103 103 w' w.heap.size T1 Vp ps
 fac : Kd.R k48 48 w' w.heap.size T1 Vf fs
 cas : w'.heap[g7]? = some (.cells #[.int .i64 bg, Vp, Vf] 55 (0, 0))
 res : w'.heap[g4]? = some (.cells #[.int .i64 0, .slice none 0 0, .slice none 0 0] 55 (0, 0))
 l7 : w.heap.size ≤ g7
 ne : g4 ≠ g7
theorem Cs.move {w w' w1 : World} {S g4 g7 : Nat} {bg : Int} {ps : List S103} {xs : List S95} {fs : List S48} {Vp Vx Vf : Value} (h : Cs w w' S g4 g7 bg ps xs fs Vp Vx Vf) (hs : St w w1 S) (hm : ∀ (i : Nat) (cs : Array Value) (t : TypeId), w'.heap[i]? = some (.cells cs t (0, 0)) → t = 95 ∨ t = 103 ∨ t = 48 ∨ t = 55 → w1.heap[i]? = w'.heap[i]?) : Cs w w1 S g4 g7 bg ps xs fs Vp Vx Vf :=
 ⟨hs, R_moved h.inp (fun i cs t hi ht => hm i cs t hi (.inl s6_)),
  R_moved h.par (fun i cs t hi ht => hm i cs t hi (.inr (.inl s10_))),
  R_moved h.fac (fun i cs t hi ht => hm i cs t hi (.inr (.inr (.inl (by simpa [k48, k46, Kd.iso, Kd.pair, Kd.string, Kd.int, Kd.bool, Kd.scalar] using ht))))),
  (hm g7 _ 55 h.cas (.inr (.inr (.inr rfl)))).trans h.cas, (hm g4 _ 55 h.res (.inr (.inr (.inr rfl)))).trans h.res, h.l7, h.ne⟩
theorem Cs.of_below {w w' w1 : World} {S g4 g7 : Nat} {bg : Int} {ps : List S103} {xs : List S95} {fs : List S48} {Vp Vx Vf : Value} (h : Cs w w' S g4 g7 bg ps xs fs Vp Vx Vf) (hb : Below w'.heap.size w' w1) : Cs w w1 S g4 g7 bg ps xs fs Vp Vx Vf := h.move (h.stm.of_below hb) (fun i _ _ hi _ => hb.block i (blk_lt hi))
theorem Cs.alloc {w w' : World} {S g4 g7 : Nat} {bg : Int} {ps : List S103} {xs : List S95} {fs : List S48} {Vp Vx Vf : Value} (h : Cs w w' S g4 g7 bg ps xs fs Vp Vx Vf) (o : Obj) : Cs w (w'.alloc o) S g4 g7 bg ps xs fs Vp Vx Vf := h.of_below (below_alloc (Below.refl _ _) o)
theorem Cs.drew {w w' : World} {S g4 g7 : Nat} {bg : Int} {ps : List S103} {xs : List S95} {fs : List S48} {Vp Vx Vf : Value} (h : Cs w w' S g4 g7 bg ps xs fs Vp Vx Vf) : Cs w w'.drew S g4 g7 bg ps xs fs Vp Vx Vf := h.of_below (below_drew1 (Below.refl _ _))
theorem Cs.keep {w w' w1 : World} {S g4 g7 : Nat} {bg : Int} {ps : List S103} {xs : List S95} {fs : List S48} {Vp Vx Vf : Value} (h : Cs w w' S g4 g7 bg ps xs fs Vp Vx Vf) (hs : St w w1 S) (hk : KeepBut w' w1 S none) : Cs w w1 S g4 g7 bg ps xs fs Vp Vx Vf := by
 obtain ⟨ss, hS, _⟩ := h.stm.S_blk; exact h.move hs (fun i cs t hi ht => hk.2 i (blk_lt hi) (blk_ty_ne hi hS (by rcases ht with rfl | rfl | rfl | rfl <;> decide)) (by simp))
theorem Cs.far {w w' w1 : World} {S g4 g7 g : Nat} {bg : Int} {ps : List S103} {xs : List S95} {fs : List S48} {Vp Vx Vf : Value} (h : Cs w w' S g4 g7 bg ps xs fs Vp Vx Vf) (hm : ∀ i, i ≠ g → w1.heap[i]? = w'.heap[i]?) (hg : ∀ k, Vf.ownBlock = some k → k ≠ g) {cs : Array Value} (hb : w'.heap[g]? = some (.cells cs 48 (0, 0))) (hbel : Below w.heap.size w w1) : Cs w w1 S g4 g7 bg ps xs fs Vp Vx Vf := by
 have hty : ∀ (i : Nat) (ds : Array Value) (t : TypeId), w'.heap[i]? = some (.cells ds t (0, 0)) → t ≠ 48 → w1.heap[i]? = w'.heap[i]? := fun i ds t hi ht => hm i (blk_ty_ne hi hb ht); obtain ⟨ss, hS, _⟩ := h.stm.S_blk; exact ⟨h.stm.move (hty _ _ _ hS (by decide)) hbel, R_moved h.inp (fun i cs t hi ht => hty i cs t hi (by have e : t = 95 := s6_; subst e; decide)),
  R_moved h.par (fun i cs t hi ht => hty i cs t hi (by have e : t = 103 := s10_; subst e; decide)),
  Kd.R_mono (Kd.R_move (R_okM (ok' := fun k => k ≠ g) (fun _ _ x cs hM => by obtain rfl := k48_openM hM; exact k48_mkM _ _ _ x) h.fac hg) (fun k hk => hm k hk)) (fun _ _ => trivial),
  (hty g7 _ 55 h.cas (by decide)).trans h.cas, (hty g4 _ 55 h.res (by decide)).trans h.res, h.l7, h.ne⟩
theorem Cs.put {w W w1 : World} {S g4 g7 : Nat} {bg : Int} {ps : List S103} {xs : List S95} {fs fs' : List S48} {Vp Vx Vf V1 : Value} (h : Cs w W S g4 g7 bg ps xs fs Vp Vx Vf) (ho : Kd.R k48 48 w1 w.heap.size T1 V1 fs') (hb : Below w.heap.size w w1) (hg : W.grownBy w1 Vf.ownBlock) : Cs w (w1.setCell ⟨g7, 2, none⟩ V1) S g4 g7 bg ps xs fs' Vp Vx V1 := by
 have hm : ∀ (i : Nat) (ds : Array Value) (t : TypeId), W.heap[i]? = some (.cells ds t (0, 0)) → t ≠ 48 → w1.heap[i]? = W.heap[i]? := fun i ds t hi ht => hg.block i (blk_lt hi) (fun e => by
  obtain ⟨cells, hc⟩ := Kd.R_typed h.fac i e.symm; exact blk_ty_ne hi hc ht rfl)
 obtain ⟨ss, hS, _⟩ := h.stm.S_blk; have h7 := (hm g7 _ 55 h.cas (by decide)).trans h.cas; have hset : ∀ i, i ≠ g7 → (w1.setCell ⟨g7, 2, none⟩ V1).heap[i]? = w1.heap[i]? := fun i hi => Below.heap_setCell w1 ⟨g7, 2, none⟩ V1 i hi; have hm2 : ∀ (i : Nat) (ds : Array Value) (t : TypeId), W.heap[i]? = some (.cells ds t (0, 0)) → t ≠ 48 → t ≠ 55 → (w1.setCell ⟨g7, 2, none⟩ V1).heap[i]? = W.heap[i]? := fun i ds t hi h1 h2 => (hset i (blk_ty_ne hi h.cas h2)).trans (hm i ds t hi h1); exact ⟨h.stm.move (hm2 _ _ _ hS (by decide) (by decide)) (hb.setCell h.l7 _), R_moved h.inp (fun i cs t hi ht => hm2 i cs t hi (by have e : t = 95 := s6_; subst e; decide) (by have e : t = 95 := s6_; subst e; decide)),
  R_moved h.par (fun i cs t hi ht => hm2 i cs t hi (by have e : t = 103 := s10_; subst e; decide) (by have e : t = 103 := s10_; subst e; decide)),
  Kd.R_set ho h7 (by decide) 2 _, blk_set h7 2 _, (hset g4 h.ne).trans ((hm g4 _ 55 h.res (by decide)).trans h.res), h.l7, h.ne⟩
theorem Cs.held {w w' : World} {S g4 g7 g9 gp cp : Nat} {bg : Int} {ps : List S103} {xs : List S95} {fs : List S48} {Vx Vf : Value} {x : S95} (h : Cs w w' S g4 g7 bg ps xs fs (.slice (some ⟨gp, 0, none⟩) ps.length cp) Vx Vf) (h9 : w'.heap[g9]? = some (.cells #[.string x.f0, .int .i64 x.f1, .bool x.f2, .int .i64 x.f3, .int .i64 x.f4, .int .i64 x.f5.f0, .int .i64 x.f5.f1] 95 (0, 0))) :
  w'.cell? ⟨g7, 1, none⟩ = some (.slice (some ⟨gp, 0, none⟩) ps.length cp) ∧ w'.cell? ⟨g9, 0, none⟩ = some (.string x.f0) ∧ w'.cell? ⟨g9, 1, none⟩ = some (.int .i64 x.f1) ∧ (∀ i : Int, 0 ≤ i → i < (ps.length : Int) → w'.cell? ⟨gp, i.toNat * 2, none⟩ = some (.int .i64 (rd_T103 ps i).f0)) := by
 refine ⟨blk_cellv (j := 1) h.cas rfl, blk_cellv (j := 0) h9 rfl, blk_cellv (j := 1) h9 rfl, fun i h0 h1 => ?_⟩; obtain ⟨ad, e, hc, _⟩ := at_T103 (Kd.R_reads' h.par).2.2 i h0 h1; obtain rfl := Option.some.inj e; rw [addG] at hc; exact hc
theorem rd95_mem {xs : List S95} {i : Int} (h0 : 0 ≤ i) (h1 : i < (xs.length : Int)) : rd_T95 xs i ∈ xs := by
 unfold rd_T95; rw [List.getD_eq_getElem?_getD, List.getElem?_eq_getElem (by omega : i.toNat < xs.length)]; exact List.getElem_mem _
theorem rd103_mem {xs : List S103} {i : Int} (h0 : 0 ≤ i) (h1 : i < (xs.length : Int)) : rd_T103 xs i ∈ xs := by
 unfold rd_T103; rw [List.getD_eq_getElem?_getD, List.getElem?_eq_getElem (by omega : i.toNat < xs.length)]; exact List.getElem_mem _
structure FOk (f : S48) : Prop where
 who : f.f0 = 1 ∨ f.f0 = 4 ∨ f.f0 = 7
 attr : ∃ i : Int, 0 ≤ i ∧ i < 5 ∧ f.f1 = ⟨#[105, 110, 45]⟩ ++ Utf8.encode (97 + i)
 val : (f.f2.f0 = 0 ∧ f.f2.f1 = 0) ∨ VOk f.f2.f0 f.f2.f1
 from0 : 700000 ≤ f.f3
 from1 : f.f3 < 742000
 to0 : f.f3 < f.f4
 to1 : f.f4 ≤ f.f3 + 1500
 known0 : 700000 ≤ f.f5
 known1 : f.f5 < 743000
end Go.Proofs.YtkjneemcledfjaaGreatDoor.PBookCases
