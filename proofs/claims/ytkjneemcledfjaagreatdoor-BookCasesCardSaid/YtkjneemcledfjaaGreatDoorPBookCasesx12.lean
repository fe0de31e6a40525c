import Derived.Test.YtkjneemcledfjaaGreatDoorPBookCasesx0
import Derived.Test.YtkjneemcledfjaaGreatDoorPBookCasesx10
import Derived.Test.YtkjneemcledfjaaGreatDoorPBookCasesx11
namespace Go.Proofs.YtkjneemcledfjaaGreatDoor.PBookCases
open Go.RowKit Go.Proofs.YtkjneemcledfjaaGreatDoorW.PrintWords Go.Proofs.YtkjneemcledfjaaGreatDoorW.PrintLast Go.Proofs.YtkjneemcledfjaaGreatDoorW.PrintMore
set_option linter.unusedVariables false
set_option linter.unusedSimpArgs false
set_option maxHeartbeats 8000000
set_option maxRecDepth 100000
attribute [local go_sem] fld46_1
def mootmake_value.j0 : Nat → Int → Int → Int → Bool → List Int → Option (Int × Int × List Int)
 | 0, _, _, _, _, _ => none
 | k + 1, x0, x5, x7, x25, x2000 => if x25 = true then ((mootmake_Stream_Next.f x2000 12).bind fun bt304 => (if x0 = 6 then ((mootmake_Stream_Next.f bt304.2 21).bind fun bt306 => (some (x0, wrap64 (x5 + (wrap64 (bt306.1 * 50000))), bt306.2))) else (some (x0, wrap64 (x5 + (wrap64 (bt304.1 * 1000))), bt304.2)))) else (if x0 = 6 then ((mootmake_Stream_Next.f x2000 21).bind fun bt308 => (some (x0, wrap64 (x5 + (wrap64 (bt308.1 * 50000))), bt308.2))) else (some (x0, wrap64 (x5 + x7), x2000)))
def mootmake_value.f (k : Nat) (a0 : Int) (s1_0 : List Int) : Option (Int × Int × List Int) := (mootmake_ranged.f a0).bind fun bt298 => ((mootmake_Stream_Next.f s1_0 (wrap64 ((wrap64 (bt298.2 - bt298.1)) + 1))).bind fun bt300 => (if a0 = 2 then ((mootmake_Stream_Next.f bt300.2 2).bind fun bt302 => (mootmake_value.j0 k a0 bt298.1 bt300.1 (bt302.1 == 0) bt302.2)) else (mootmake_value.j0 k a0 bt298.1 bt300.1 false bt300.2)))
theorem mootmake_value.calls (k : Nat) (a0 : Int) (g : Nat) (s1_0 : List Int) (r1 : Int) (r2 : Int) (r3 : List Int) (w0 w : World) (hI : IsS81 w0 w g s1_0) (hB : Below w0.heap.size w0 w) (h : mootmake_value.f k a0 s1_0 = some (r1, r2, r3)) :
  Calls Tryz.prog 35 #[.int .i64 a0, .pointer (some ⟨g, 0, none⟩)] w fun e w' => e = .returned (.agg #[.int .i64 r1, .int .i64 r2]) ∧ IsS81 w0 w' g r3 ∧ Below w0.heap.size w0 w' ∧ KeepBut w w' g none := by
 have hu46 := Tryz.underlying46; have HI1 := Aside0.mk hI; have HK := Aside0.mk (KeepBut.refl w g none); have HL := Aside0.mk hB.size; clear hI; have HW0 := Aside0.mk hB.size; have HB := Aside0.mk hB; clear hB; unfold mootmake_value.f at h; have H := h; clear h; replace H := Option.bind_eq_some_iff.mp H; obtain ⟨⟨t298, t299⟩, A30, H⟩ := H; (try dsimp only at H); have A3 := Aside0.mk A30; clear A30; replace H := Option.bind_eq_some_iff.mp H; obtain ⟨⟨t300, t301⟩, A40, H⟩ := H; (try dsimp only at H); have A4 := Aside0.mk A40; clear A40; have HC5 := Aside0.mk H; clear H; go_enter Tryz.func35, Tryz.ntmps35; go_upto_region 3 with (first | ((with_reducible refine gate_dst (N := 4) rfl ?_); refine bx_ (#[.int .i64 0, .int .i64 0]) 46 ?_; intro gb297 hg w6 hbox hb; replace HB := Aside0.mk (below_step b_ hb); have BK297 := Aside0.mk (hbox); have GW297 := Aside0.mk ((by rw [hg]; exact (keep_size (w := w) (g := g) (row := none) hk_) : w.heap.size ≤ gb297)); have GE297 := Aside0.mk ((Nat.le_trans HW0.out (by rw [hg]; exact (keep_size (w := w) (g := g) (row := none) hk_) : w.heap.size ≤ gb297) : w0.heap.size ≤ gb297)); replace HK := Aside0.mk (KeepBut.trans (w := w) hk_ (KeepBut.of_below hb g none) (.inl rfl)); have NB1_297 := Aside0.mk ((by rw [hg]; exact Nat.ne_of_lt (IsS81.lt (show IsS81 w0 _ g s1_0 from hi_)) : g ≠ gb297)); have NB297_1 := Aside0.mk ((by rw [hg]; exact Nat.ne_of_gt (IsS81.lt (show IsS81 w0 _ g s1_0 from hi_)) : gb297 ≠ g)); replace HI1 := Aside0.mk (IsS81.below (w0 := w0) (g := g) hi_ hb); clear hb hbox hg) | ((with_reducible refine gate_callee (f := 34) rfl ?_); refine goesL_ (some 10) rfl rfl Tryz.func34 kl_ rfl #[.int .i64 a0] rfl ar_ ?_; (with_reducible refine (mootmake_ranged.calls a0 t298 t299 _ A3.out).mono ?_); rintro e w' ⟨rfl, ⟨nd, rfl⟩⟩; refine ⟨_, rfl, ?_⟩) | ((with_reducible refine gate_callee (f := 31) rfl ?_); refine goesL_ (some 18) rfl rfl Tryz.func31 kl_ rfl #[.pointer (some ⟨g, 0, none⟩), .int .i64 (wrap64 ((wrap64 (t299 - t298)) + 1))] rfl ar_ ?_; (with_reducible refine (mootmake_Stream_Next.calls g s1_0 (wrap64 ((wrap64 (t299 - t298)) + 1)) t300 t301 w0 _ ?side1 ?side2 A4.out).mono ?_); (case side1 => exact hi_); (case side2 => exact b_); rintro e w7 ⟨rfl, hi, hb, hk⟩; refine ⟨_, rfl, ?_⟩; replace BK297 := Aside0.mk (kq_ hk BK297.out NB297_1.out); replace HK := Aside0.mk (KeepBut.trans (w := w) hk_ hk (.inl rfl)); replace HB := Aside0.mk (hb); replace HI1 := Aside0.mk (hi))); (try simp only [Act.put, List.setIfInBounds_toArray, List.set_cons_zero, List.set_cons_succ]); go_cut [25] (fun v25 wc => ∃ (kq : Nat) (x25_4 : Bool) (x2000_4 : List Int), v25 = .bool x25_4 ∧ Aside0 (mootmake_value.j0 kq a0 t298 t300 x25_4 x2000_4 = some (r1, r2, r3)) ∧ Aside0 (kq ≤ k) ∧ Aside0 (wc.heap[gb297]? = some (.cells #[.int .i64 0, .int .i64 0] 46 (0, 0))) ∧ Aside0 (IsS81 w0 wc g x2000_4) ∧ Aside0 (KeepBut w wc g none) ∧ Aside0 (Below w0.heap.size w0 wc))
 case first =>
  have H := HC5.out; clear HC5; by_cases c8 : a0 = 2
  ·rw [if_pos c8] at H; have c8b0 := beq_iff_eq.mpr c8; have c8b1 := bne_eq_false_iff_eq.mpr c8; clear c8; (first | rw [c8b0] | (simp only [i64_w, i32_w]; rw [c8b0]) | skip); replace H := Option.bind_eq_some_iff.mp H; obtain ⟨⟨t302, t303⟩, A90, H⟩ := H; (try dsimp only at H); have A9 := Aside0.mk A90; clear A90; have H' := Aside0.mk H; clear H; go_wp2_with (first | (go_at_call 31; (with_reducible refine (mootmake_Stream_Next.calls g t301 2 t302 t303 w0 _ ?side1 ?side2 A9.out).mono ?_); (case side1 => exact hi_); (case side2 => exact b_); rintro e w10 ⟨rfl, hi, hb, hk⟩; replace BK297 := Aside0.mk (kq_ hk BK297.out NB297_1.out); replace HK := Aside0.mk (KeepBut.trans (w := w) hk_ hk (.inl rfl)); replace HB := Aside0.mk (hb); replace HI1 := Aside0.mk (hi))); go_meet
   case rel => exact ⟨_, ((t302 == 0)), (t303), rf_, H', ⟨by first | omega | exact Nat.le_refl _⟩, ⟨kb_ BK297.out⟩, ⟨hi_⟩, ⟨hk_⟩, ⟨b_⟩⟩
  ·rw [if_neg c8] at H; have c8b0 := beq_eq_false_iff_ne.mpr c8; have c8b1 := bne_iff_ne.mpr c8; (first | rw [c8b0] | (simp only [i64_w, i32_w]; rw [c8b0]) | skip); have H' := Aside0.mk H; clear H; go_wp2; go_meet
   case rel => exact ⟨_, (false), (t301), rf_, H', ⟨by first | omega | exact Nat.le_refl _⟩, ⟨kb_ BK297.out⟩, ⟨hi_⟩, ⟨hk_⟩, ⟨b_⟩⟩
 case rest =>
  clear HC5; (try clear p2); (try clear c3); (try clear p6); (try clear c8); (try clear c8b0); (try clear c8b1); obtain ⟨kq, x25_4, x2000_4, rfl, HA, HJ4, BK297, HI1, HK, HB⟩ := hcut
  cases kq with
  | zero => exact absurd HA.out (by simp [mootmake_value.j0])
  | succ kj4 =>
   have H := HA.out; clear HA; simp only [mootmake_value.j0] at H; by_cases c11 : x25_4 = true
   ·subst c11; rw [if_pos rfl] at H; replace H := Option.bind_eq_some_iff.mp H; obtain ⟨⟨t304, t305⟩, A120, H⟩ := H; (try dsimp only at H); have A12 := Aside0.mk A120; clear A120; by_cases c13 : a0 = 6
    ·rw [if_pos c13] at H; have c13b0 := beq_iff_eq.mpr c13; have c13b1 := bne_eq_false_iff_eq.mpr c13; clear c13; replace H := Option.bind_eq_some_iff.mp H; obtain ⟨⟨t306, t307⟩, A140, H⟩ := H; (try dsimp only at H); have A14 := Aside0.mk A140; clear A140; simp only [Option.some.injEq, Prod.mk.injEq] at H; obtain ⟨rfl, rfl, rfl⟩ := H; go_wp2_with (first | ((with_reducible refine gate_callee (f := 31) rfl ?_); refine goesL_ (some 27) rfl rfl Tryz.func31 kl_ rfl #[.pointer (some ⟨g, 0, none⟩), .int .i64 12] rfl ar_ ?_; (with_reducible refine (mootmake_Stream_Next.calls g x2000_4 12 t304 t305 w0 _ ?side1 ?side2 A12.out).mono ?_); (case side1 => exact hi_); (case side2 => exact b_); rintro e w15 ⟨rfl, hi, hb, hk⟩; refine ⟨_, rfl, ?_⟩; replace BK297 := Aside0.mk (kq_ hk BK297.out NB297_1.out); replace HK := Aside0.mk (KeepBut.trans (w := w) hk_ hk (.inl rfl)); replace HB := Aside0.mk (hb); replace HI1 := Aside0.mk (hi)) | ((with_reducible refine gate_callee (f := 31) rfl ?_); refine goesL_ (some 32) rfl rfl Tryz.func31 kl_ rfl #[.pointer (some ⟨g, 0, none⟩), .int .i64 21] rfl ar_ ?_; (with_reducible refine (mootmake_Stream_Next.calls g t305 21 t306 t307 w0 _ ?side1 ?side2 A14.out).mono ?_); (case side1 => exact hi_); (case side2 => exact b_); rintro e w16 ⟨rfl, hi, hb, hk⟩; refine ⟨_, rfl, ?_⟩; replace BK297 := Aside0.mk (kq_ hk BK297.out NB297_1.out); replace HK := Aside0.mk (KeepBut.trans (w := w) hk_ hk (.inl rfl)); replace HB := Aside0.mk (hb); replace HI1 := Aside0.mk (hi); have hnb17 := NB297_1.out; have hnc17 := NB1_297.out; obtain ⟨hcz18_0, hcz18_1, hfz18_0, hfz18_1⟩ := z2_ BK297.out)); refine bodyPost_ret (results_cell_row rfl _ _ gb297 46 #[.int .i64 a0, .int .i64 (wrap64 (t298 + (wrap64 (t306 * 50000))))] (0, 0) _ rfl (bp_ BK297.out) Tryz.underlying46 rfl kl_) rfl ?_; exact ⟨re_, hi_, b_, hk_⟩
    ·rw [if_neg c13] at H; have c13b0 := beq_eq_false_iff_ne.mpr c13; have c13b1 := bne_iff_ne.mpr c13; simp only [Option.some.injEq, Prod.mk.injEq] at H; obtain ⟨rfl, rfl, rfl⟩ := H; go_wp2_with (first | ((with_reducible refine gate_callee (f := 31) rfl ?_); refine goesL_ (some 27) rfl rfl Tryz.func31 kl_ rfl #[.pointer (some ⟨g, 0, none⟩), .int .i64 12] rfl ar_ ?_; (with_reducible refine (mootmake_Stream_Next.calls g x2000_4 12 t304 t305 w0 _ ?side1 ?side2 A12.out).mono ?_); (case side1 => exact hi_); (case side2 => exact b_); rintro e w19 ⟨rfl, hi, hb, hk⟩; refine ⟨_, rfl, ?_⟩; replace BK297 := Aside0.mk (kq_ hk BK297.out NB297_1.out); replace HK := Aside0.mk (KeepBut.trans (w := w) hk_ hk (.inl rfl)); replace HB := Aside0.mk (hb); replace HI1 := Aside0.mk (hi); have hnb20 := NB297_1.out; have hnc20 := NB1_297.out; obtain ⟨hcz21_0, hcz21_1, hfz21_0, hfz21_1⟩ := z2_ BK297.out)); refine bodyPost_ret (results_cell_row rfl _ _ gb297 46 #[.int .i64 a0, .int .i64 (wrap64 (t298 + (wrap64 (t304 * 1000))))] (0, 0) _ rfl (bp_ BK297.out) Tryz.underlying46 rfl kl_) rfl ?_; exact ⟨re_, hi_, b_, hk_⟩
   ·replace c11 := Bool.eq_false_iff.mpr c11; subst c11; rw [if_neg (show ¬ (false = true) by decide)] at H; by_cases c22 : a0 = 6
    ·rw [if_pos c22] at H; have c22b0 := beq_iff_eq.mpr c22; have c22b1 := bne_eq_false_iff_eq.mpr c22; clear c22; replace H := Option.bind_eq_some_iff.mp H; obtain ⟨⟨t308, t309⟩, A230, H⟩ := H; (try dsimp only at H); have A23 := Aside0.mk A230; clear A230; simp only [Option.some.injEq, Prod.mk.injEq] at H; obtain ⟨rfl, rfl, rfl⟩ := H; go_wp2_with (first | ((with_reducible refine gate_callee (f := 31) rfl ?_); refine goesL_ (some 32) rfl rfl Tryz.func31 kl_ rfl #[.pointer (some ⟨g, 0, none⟩), .int .i64 21] rfl ar_ ?_; (with_reducible refine (mootmake_Stream_Next.calls g x2000_4 21 t308 t309 w0 _ ?side1 ?side2 A23.out).mono ?_); (case side1 => exact hi_); (case side2 => exact b_); rintro e w24 ⟨rfl, hi, hb, hk⟩; refine ⟨_, rfl, ?_⟩; replace BK297 := Aside0.mk (kq_ hk BK297.out NB297_1.out); replace HK := Aside0.mk (KeepBut.trans (w := w) hk_ hk (.inl rfl)); replace HB := Aside0.mk (hb); replace HI1 := Aside0.mk (hi); have hnb25 := NB297_1.out; have hnc25 := NB1_297.out; obtain ⟨hcz26_0, hcz26_1, hfz26_0, hfz26_1⟩ := z2_ BK297.out)); refine bodyPost_ret (results_cell_row rfl _ _ gb297 46 #[.int .i64 a0, .int .i64 (wrap64 (t298 + (wrap64 (t308 * 50000))))] (0, 0) _ rfl (bp_ BK297.out) Tryz.underlying46 rfl kl_) rfl ?_; exact ⟨re_, hi_, b_, hk_⟩
    ·rw [if_neg c22] at H; have c22b0 := beq_eq_false_iff_ne.mpr c22; have c22b1 := bne_iff_ne.mpr c22; simp only [Option.some.injEq, Prod.mk.injEq] at H; obtain ⟨rfl, rfl, rfl⟩ := H; have hnb27 := NB297_1.out; have hnc27 := NB1_297.out; obtain ⟨hcz28_0, hcz28_1, hfz28_0, hfz28_1⟩ := z2_ BK297.out; go_wp2; refine bodyPost_ret (results_cell_row rfl _ _ gb297 46 #[.int .i64 a0, .int .i64 (wrap64 (t298 + t300))] (0, 0) _ rfl (bp_ BK297.out) Tryz.underlying46 rfl kl_) rfl ?_; exact ⟨re_, hi_, b_, hk_⟩
-- NOT PRINTED: function 36 (mootmake_known)
def attr_Grow.f (n : Int) : Option (List (S95)) := if 0 ≤ n then if n * 64 ≤ 140737488355328 then some [] else none else none
theorem attr_Grow.calls (a0 : Int) (r : List (S95)) (w : World) (h : attr_Grow.f a0 = some r) :
  Calls Tryz.prog 204 #[.slice none 0 0, .int .i64 a0] w fun e w' => ∃ v0_ : Value, e = .returned (v0_) ∧ Kd.R k95 95 w' w.heap.size (fun _ => True) v0_ r ∧ Below w.heap.size w w' := by
 unfold attr_Grow.f at h; by_cases h0 : 0 ≤ a0
 case neg => rw [if_neg h0] at h; cases h
 rw [if_pos h0] at h; by_cases h1 : a0 * 64 ≤ 140737488355328
 case neg => rw [if_neg h1] at h; cases h
 rw [if_pos h1] at h; obtain rfl := Option.some.inj h; obtain ⟨n, rfl⟩ := Int.eq_ofNat_of_zero_le h0; clear h; have hn1 : ¬ ((n : Int) < 0) := by omega
 have h2 : wrap64 ((0 : Int) - (0 : Int)) = (0 : Int) := by simp [wrap64]
 have h3 : wrap64 ((n : Int) - 0) = (n : Int) := by unfold wrap64; omega
 by_cases hz : n = 0
 ·subst hz; go_enter Tryz.func204, Tryz.ntmps204; go_wp2; go_ret; exact ⟨_, rfl, Kd.R_nil _ _ _ _ _, Below.refl _ _⟩
 ·have h4 : (n : Int) > 0 := by omega
  obtain ⟨i0, hi0⟩ : ∃ i, Tryz.prog.info? 95 = some i := Option.isSome_iff_exists.1 kl_; have hinf := info95; rw [hi0] at hinf; have hq := Prod.mk.inj (Option.some.inj hinf); have hz0 := hq.1; have hs0 := (Prod.mk.inj hq.2).1; have hb0 := (Prod.mk.inj hq.2).2; have hold : (Builtin.firstCells i0.size 0 (.slice none 0 0)).run Tryz.prog w.drew = .ok ([] : List Value).toArray w.drew := run_firstCells_none w.drew i0.size 0 0 0; have hr := Lib.run_append_grow_zeros w 83 3 83 95 i0 _ .i64 .i64 Tryz.underlying83 Tryz.underlying3 hi0 hz0 none 0 0 [] hold n (by omega) (by omega) (by omega) (by omega) (by rw [hb0]; omega) (growslice_fits (by omega) (by rw [hb0]; omega)); rw [Nat.zero_add] at hr; obtain ⟨G, hG⟩ : ∃ G, G = grownCap w n 0 95 := ⟨_, rfl⟩; have hGn : n ≤ G := by rw [hG]; exact grownCap_ge w _ _ _
  have hG63 : G ≤ maxLen := by rw [hG]; exact grownCap_le_maxLen w n 0 95 (by unfold maxLen; omega)
  rw [← hG] at hr; have hG64 : G ≤ 9223372036854775807 := by unfold maxLen at hG63; omega
  clear hG hold hinf hq hi0 hz0; go_enter Tryz.func204, Tryz.ntmps204; go_wp2_with (at_builtin; refine Lib.wpList_append_run _ rfl _ _ _ _ rfl _ _ rfl rfl _ _ hr ?_); all_goals (go_ret)
  all_goals
   refine ⟨_, rfl, ⟨fun _ _ => trivial, [], ⟨rfl, .inr ⟨w.heap.size, G, _, rfl, Nat.le_refl _, (by show (w.heap.push _)[w.heap.size]? = _; exact Array.getElem?_push_size), Nat.zero_le _, hG63, ?_, by simp⟩⟩, rfl, fun j p hj => by simp at hj⟩, Below.alloc (Below.drew (Below.refl _ _)) (Nat.le_refl _) _⟩; simp only [Array.size_append, size_zeroCells]; simp [Value.cells]; show _ = G * 7; omega
mutual
def api_Attr_196.l0 : Nat → List (List (S95)) → Int → List (List (S95)) → Int → Int → Option ((List (S95)))
 | 0, _, _, _, _, _ => none
 | k + 1, x0, x3, x9, x10, x11 => if x11 < x10 then (if 0 ≤ x11 then (if x11 < (x9.length : Int) then (if (wrap64 (x3 + ((rd_L11 x9 x11).length : Int))) < 0 then (none) else (api_Attr_196.l0 k x0 (wrap64 (x3 + ((rd_L11 x9 x11).length : Int))) x9 x10 (wrap64 (x11 + 1)))) else (none)) else (none)) else ((attr_Grow.f x3).bind fun t311 => (api_Attr_196.l1 k t311 x0 (x0.length : Int) 0))
def api_Attr_196.l1 : Nat → List (S95) → List (List (S95)) → Int → Int → Option ((List (S95)))
 | 0, _, _, _, _ => none
 | k + 1, x6, x25, x26, x27 => if x27 < x26 then (if 0 ≤ x27 then (if x27 < (x25.length : Int) then (if x6.length + (rd_L11 x25 x27).length < 2199023255552 then (api_Attr_196.l1 k (x6 ++ (rd_L11 x25 x27)) x25 x26 (wrap64 (x27 + 1))) else (none)) else (none)) else (none)) else (some x6)
end
def api_Attr_196.f (k : Nat) (l0 : List (List (S95))) : Option ((List (S95))) := api_Attr_196.l0 k l0 0 l0 (l0.length : Int) 0
theorem api_Attr_196.calls (k : Nat) (A0 : Option Addr) (c0 : Nat) (l0 : List (List (S95))) (r : List (S95)) (w : World) (hr0 : Kd.C (Kd.slice 95 k95) w A0 l0.length l0) (hc0 : l0.length ≤ c0) (h : api_Attr_196.f k l0 = some r) :
  Calls Tryz.prog 196 #[.slice A0 l0.length c0] w fun e w' => ∃ v0_ : Value, e = .returned (v0_) ∧ Kd.R k95 95 w' w.heap.size (fun _ => True) v0_ r ∧ Below w.heap.size w w' := by
 have HR0 := Aside0.mk hr0; have HC0 := Aside0.mk hc0; clear hr0 hc0; have HB := Aside0.mk (Below.refl w.heap.size w); unfold api_Attr_196.f at h; have H := h; clear h; have H' := Aside0.mk H; clear H; go_enter Tryz.func196, Tryz.ntmps196; go_wp2; go_loopg [3, 11] k (fun kq v3 v11 w' => ∃ (x3_1 : Int) (x11_1 : Int), v3 = .int .i64 x3_1 ∧ v11 = .int .i64 x11_1 ∧ Aside0 (api_Attr_196.l0 kq l0 x3_1 l0 (l0.length : Int) x11_1 = some r) ∧ Aside0 (kq ≤ k) ∧ Aside0 (Below w.heap.size w w'))
 case atStart => exact ⟨(0), (0), rf_, rf_, H', ⟨Nat.le_refl _⟩, ⟨b_⟩⟩
 case round =>
  clear H'; (try clear c1); obtain ⟨x3_1, x11_1, rfl, rfl, HA, HK1, HB⟩ := hrel
  cases gk with
  | zero => exact absurd HA.out (by simp [api_Attr_196.l0])
  | succ k1 =>
   have H := HA.out; clear HA; simp only [api_Attr_196.l0] at H; by_cases c2 : x11_1 < (l0.length : Int)
   ·rw [if_pos c2] at H; have c2b0 := decide_eq_true c2; clear c2; by_cases c3 : 0 ≤ x11_1
    ·rw [if_pos c3] at H; have c3b0 := decide_eq_true c3; clear c3; by_cases c4 : x11_1 < (l0.length : Int)
     ·rw [if_pos c4] at H; have c4b0 := decide_eq_true c4; clear c4; by_cases c5 : (wrap64 (x3_1 + ((rd_L11 l0 x11_1).length : Int))) < 0
      ·rw [if_pos c5] at H; exact absurd H (by simp)
      ·rw [if_neg c5] at H; have c5b0 := decide_eq_false c5; clear c5; have H' := Aside0.mk H; clear H; have p310 : 0 ≤ (x11_1 : Int) := of_decide_eq_true as_; have q310 : x11_1 < (l0.length : Int) := of_decide_eq_true as_; obtain ⟨ad310, A310_0, c310_0, e310, hx310_0, hl310_0, hi310_0⟩ := at_L11 HR0.out x11_1 p310 q310
       cases e310; replace hx310_0 := (HB.out.cell (World.block_lt_of_cell? w _ hx310_0)).trans hx310_0; have HR310_0 := Aside0.mk hi310_0; have HC310_0 := Aside0.mk hl310_0; clear hi310_0 hl310_0; replace p310 := eq_true p310; replace q310 := eq_true q310; go_wp2; go_roundg k1
       case measure => have := HK1.out; omega
       case rel => exact ⟨(wrap64 (x3_1 + ((rd_L11 l0 x11_1).length : Int))), (wrap64 (x11_1 + 1)), rf_, rf_, H', ⟨by have := HK1.out; omega⟩, ⟨b_⟩⟩
     ·rw [if_neg c4] at H; exact absurd H (by simp)
    ·rw [if_neg c3] at H; exact absurd H (by simp)
   ·rw [if_neg c2] at H; have c2b0 := decide_eq_false c2; clear c2; replace H := Option.bind_eq_some_iff.mp H; obtain ⟨t311, A60, H⟩ := H; (try dsimp only at H); have A6 := Aside0.mk A60; clear A60; have H' := Aside0.mk H; clear H; go_wp2_with (first | ((with_reducible refine gate_callee (f := 204) rfl ?_); refine goesL_ (some 24) rfl rfl Tryz.func204 kl_ rfl #[.slice none 0 0, .int .i64 x3_1] rfl ar_ ?_; (with_reducible refine (attr_Grow.calls x3_1 t311 _ A6.out).mono ?_); rintro e w7 ⟨v312, rfl, ho0, hb⟩; refine ⟨_, rfl, ?_⟩; have HO313 := Aside0.mk (Kd.R_lower ho0 (below_size b_)); replace HB := Aside0.mk (below_step b_ hb); (try clear ho0))); go_loopg [6, 27] k1 (fun kq v6 v27 w' => ∃ (x6_2 : List (S95)) (x27_2 : Int), v27 = .int .i64 x27_2 ∧ Aside0 (api_Attr_196.l1 kq x6_2 l0 (l0.length : Int) x27_2 = some r) ∧ Aside0 (kq ≤ k1) ∧ Aside0 (Kd.R k95 95 w' w.heap.size (fun _ => True) v6 x6_2) ∧ Aside0 (Below w.heap.size w w'))
    case atStart => exact ⟨(t311), (0), rf_, H', ⟨Nat.le_refl _⟩, ⟨kr_ HO313.out⟩, ⟨b_⟩⟩
    case round =>
     clear H'; (try clear c1); (try clear c2); (try clear c2b0); (try clear p2); (try clear c3); (try clear c3b0); (try clear p3); (try clear q3); (try clear hx3); (try clear c4); (try clear c4b0); (try clear c5); (try clear c5b0); (try clear p6); (try clear hx310_0); (try clear p310); (try clear q310); obtain ⟨x6_2, x27_2, rfl, HA, HK2, HO_6, HB⟩ := hrel
     cases gk with
     | zero => exact absurd HA.out (by simp [api_Attr_196.l1])
     | succ k2 =>
      have H := HA.out; clear HA; simp only [api_Attr_196.l1] at H; by_cases c8 : x27_2 < (l0.length : Int)
      ·rw [if_pos c8] at H; have c8b0 := decide_eq_true c8; clear c8; by_cases c9 : 0 ≤ x27_2
       ·rw [if_pos c9] at H; have c9b0 := decide_eq_true c9; clear c9; by_cases c10 : x27_2 < (l0.length : Int)
        ·rw [if_pos c10] at H; have c10b0 := decide_eq_true c10; clear c10; by_cases c11 : x6_2.length + (rd_L11 l0 x27_2).length < 2199023255552
         ·rw [if_pos c11] at H; have LMc11 := Aside0.mk c11; clear c11; obtain ⟨y315, hy315⟩ : ∃ y_ : List (S95), y_ = (x6_2 ++ (rd_L11 l0 x27_2)) := ⟨_, rfl⟩; replace H : (api_Attr_196.l1 k2 y315 l0 (l0.length : Int) (wrap64 (x27_2 + 1))) = some r := rb_ hy315 H; have Ny315 := Aside0.mk hy315; clear hy315; have H' := Aside0.mk H; clear H; have p314 : 0 ≤ (x27_2 : Int) := of_decide_eq_true as_; have q314 : x27_2 < (l0.length : Int) := of_decide_eq_true as_; obtain ⟨ad314, A314_0, c314_0, e314, hx314_0, hl314_0, hi314_0⟩ := at_L11 HR0.out x27_2 p314 q314
          cases e314; replace hx314_0 := (HB.out.cell (World.block_lt_of_cell? w _ hx314_0)).trans hx314_0; have HR314_0 := Aside0.mk hi314_0; have HC314_0 := Aside0.mk hl314_0; clear hi314_0 hl314_0; replace p314 := eq_true p314; replace q314 := eq_true q314; go_wp2_with (first | ((with_reducible refine gate_builtin (b := .append) (xs := #[.tmp 31, .tmp 32]) rfl ?_); at_builtin; refine Kd.R_append_rows k95 (w0 := w) w.heap.size rfl (.tmp 31) (.tmp 32) 83 95 (.agg #[(.string ⟨#[]⟩), (.int .i64 0), (.bool false), (.int .i64 0), (.int .i64 0), (.int .i64 0), (.int .i64 0)]) 64 rfl Tryz.underlying83 info95 rfl (by decide) (by omega) u6 x6_2 (rd_L11 l0 x27_2) _ _ _ (fun _ => True) (fun _ => False) rfl rfl ?aO ?aR (fun _ _ h => h) (fun _ h => h.elim) ?aF ?aB ?aS ?aL ?_; (case aR => repeat (first | exact (Kd.C_below HR314_0.out HB.out) | (with_reducible refine Kd.C_alloc ?_ _) | (with_reducible refine Kd.C_drewN ?_ _) | (with_reducible refine Kd.C_drew ?_))); (case aB => exact b_); (case aF => exact (fun _ _ => trivial)); (case aO => exact (kr_ HO_6.out)); (case aS => exact (below_size b_)); (case aL => have := LMc11.out; omega); intro v316 w12 ho hb hg hat; rw [← Ny315.out] at ho; replace HB := Aside0.mk (hb); have HO317 := Aside0.mk (ho); clear HO_6; clear ho hb hg hat)); go_roundg k2
          case measure => have := HK1.out; have := HK2.out; omega
          case rel => exact ⟨(y315), (wrap64 (x27_2 + 1)), rf_, H', ⟨by have := HK1.out; have := HK2.out; omega⟩, ⟨kr_ HO317.out⟩, ⟨b_⟩⟩
         ·rw [if_neg c11] at H; exact absurd H (by simp)
        ·rw [if_neg c10] at H; exact absurd H (by simp)
       ·rw [if_neg c9] at H; exact absurd H (by simp)
      ·rw [if_neg c8] at H; have c8b0 := decide_eq_false c8; clear c8; obtain rfl := Option.some.inj H; go_wp2; go_ret; exact ⟨_, re_, kr_ HO_6.out, b_⟩
-- NOT PRINTED: function 173 (mootmake_making_names)
-- NOT PRINTED: function 174 (mootmake_put)
-- NOT PRINTED: function 129 (mootmake_making_leaf)
-- NOT PRINTED: function 130 (mootmake_making_op)
-- NOT PRINTED: function 131 (mootmake_making_bool)
-- NOT PRINTED: function 134 (mootmake_making_table)
-- NOT PRINTED: function 132 (mootmake_making_money)
-- NOT PRINTED: function 133 (mootmake_making_count)
-- NOT PRINTED: function 82 (mootmake_making_add)
-- NOT PRINTED: function 55 (mootmake_making_expr)
-- NOT PRINTED: function 37 (mootmake_making_article)
-- NOT PRINTED: function 15 (mootmake_Body)
def mootmake_parties.l0 : Nat → List (S103) → Int → Int → List Int → Option ((List (S103)) × List Int)
 | 0, _, _, _, _ => none
 | k + 1, x3, x7, x8, x1000 => if x8 < x7 then ((mootmake_Stream_Next.f x1000 2).bind fun bt323 => (if x3.length < 8796093022208 then (mootmake_parties.l0 k (x3 ++ [(⟨wrap64 ((wrap64 (3 * x8)) + 1), wrap64 (1 + bt323.1)⟩ : S103)]) x7 (wrap64 (x8 + 1)) bt323.2) else (none))) else (some (x3, x1000))
def mootmake_parties.f (k : Nat) (s0_0 : List Int) : Option ((List (S103)) × List Int) := (mootmake_Stream_Next.f s0_0 3).bind fun bt321 => (mootmake_parties.l0 k ([] : List (S103)) (wrap64 (1 + bt321.1)) 0 bt321.2)
theorem mootmake_parties.calls (k : Nat) (g : Nat) (s0_0 : List Int) (r1 : List (S103)) (r2 : List Int) (w0 w : World) (hI : IsS81 w0 w g s0_0) (hB : Below w0.heap.size w0 w) (h : mootmake_parties.f k s0_0 = some (r1, r2)) :
  Calls Tryz.prog 38 #[.pointer (some ⟨g, 0, none⟩)] w fun e w' => ∃ v0_ : Value, e = .returned (v0_) ∧ Kd.R k103 103 w' w.heap.size (fun _ => True) v0_ r1 ∧ IsS81 w0 w' g r2 ∧ Below w0.heap.size w0 w' ∧ KeepBut w w' g none := by
 have hu103 := Tryz.underlying103; have HI0 := Aside0.mk hI; have HK := Aside0.mk (KeepBut.refl w g none); have HL := Aside0.mk hB.size; clear hI; have HW0 := Aside0.mk hB.size; have HB := Aside0.mk hB; clear hB; unfold mootmake_parties.f at h; have H := h; clear h; replace H := Option.bind_eq_some_iff.mp H; obtain ⟨⟨t321, t322⟩, A20, H⟩ := H; (try dsimp only at H); have A2 := Aside0.mk A20; clear A20; have H' := Aside0.mk H; clear H; go_enter Tryz.func38, Tryz.ntmps38; go_wp2_with (first | ((with_reducible refine gate_callee (f := 31) rfl ?_); refine goesL_ (some 6) rfl rfl Tryz.func31 kl_ rfl #[.pointer (some ⟨g, 0, none⟩), .int .i64 3] rfl ar_ ?_; (with_reducible refine (mootmake_Stream_Next.calls g s0_0 3 t321 t322 w0 _ ?side1 ?side2 A2.out).mono ?_); (case side1 => repeat (first | (with_reducible first | exact HI0.out | apply IsS81.alloc | apply IsS81.drewN | apply IsS81.drew) | exact HI0.out)); (case side2 => repeat (first | (with_reducible first | exact HB.out | apply below_alloc | apply pw_below_drewN | apply below_drew1 | refine below_set ?_ (IsS81.ge HI0.out)) | exact HB.out)); rintro e w3 ⟨rfl, hi, hb, hk⟩; refine ⟨_, rfl, ?_⟩; replace HK := Aside0.mk (KeepBut.trans (w := w) hk_ hk (.inl rfl)); replace HB := Aside0.mk (hb); replace HI0 := Aside0.mk (hi))); go_loopg [3, 8] k (fun kq v3 v8 w' => ∃ (x3_1 : List (S103)) (x8_1 : Int) (x1000_1 : List Int), v8 = .int .i64 x8_1 ∧ Aside0 (mootmake_parties.l0 kq x3_1 (wrap64 (1 + t321)) x8_1 x1000_1 = some (r1, r2)) ∧ Aside0 (kq ≤ k) ∧ Aside0 (Kd.R k103 103 w' w.heap.size (fun _ => True) v3 x3_1) ∧ Aside0 (IsS81 w0 w' g x1000_1) ∧ Aside0 (KeepBut w w' g none) ∧ Aside0 (Below w0.heap.size w0 w'))
 case atStart => exact ⟨(([] : List (S103))), (0), (t322), rf_, H', ⟨Nat.le_refl _⟩, ⟨by first | exact Kd.R_nil _ _ _ _ _ | exact Kd.N_nil _ _ _ _ _ | exact Kd.V_nil _ _ _ _ _ | exact Kd.Q_nil _ _ _ _ _ | exact Kd.S_nil _ _ _ _ _⟩, ⟨by repeat (first | (with_reducible first | exact HI0.out | apply IsS81.alloc | apply IsS81.drewN | apply IsS81.drew) | exact HI0.out)⟩, ⟨hk_⟩, ⟨by repeat (first | (with_reducible first | exact HB.out | apply below_alloc | apply pw_below_drewN | apply below_drew1 | refine below_set ?_ (IsS81.ge HI0.out)) | exact HB.out)⟩⟩
 case round =>
  clear H'; (try clear p2); (try clear c3); obtain ⟨x3_1, x8_1, x1000_1, rfl, HA, HK1, HO_3, HI0, HK, HB⟩ := hrel
  cases gk with
  | zero => exact absurd HA.out (by simp [mootmake_parties.l0])
  | succ k1 =>
   have H := HA.out; clear HA; simp only [mootmake_parties.l0] at H; by_cases c4 : x8_1 < (wrap64 (1 + t321))
   ·rw [if_pos c4] at H; have c4b0 := decide_eq_true c4; clear c4; replace H := Option.bind_eq_some_iff.mp H; obtain ⟨⟨t323, t324⟩, A50, H⟩ := H; (try dsimp only at H); have A5 := Aside0.mk A50; clear A50; by_cases c6 : x3_1.length < 8796093022208
    ·rw [if_pos c6] at H; have LMc6 := Aside0.mk c6; clear c6; obtain ⟨y325, hy325⟩ : ∃ y_ : List (S103), y_ = (x3_1 ++ [(⟨wrap64 ((wrap64 (3 * x8_1)) + 1), wrap64 (1 + t323)⟩ : S103)]) := ⟨_, rfl⟩; replace H : (mootmake_parties.l0 k1 y325 (wrap64 (1 + t321)) (wrap64 (x8_1 + 1)) t324) = some (r1, r2) := rb_ hy325 H; have Ny325 := Aside0.mk hy325; clear hy325; have H' := Aside0.mk H; clear H; go_wp2_with (first | ((with_reducible refine gate_callee (f := 31) rfl ?_); refine goesL_ (some 16) rfl rfl Tryz.func31 kl_ rfl #[.pointer (some ⟨g, 0, none⟩), .int .i64 2] rfl ar_ ?_; (with_reducible refine (mootmake_Stream_Next.calls g x1000_1 2 t323 t324 w0 _ ?side1 ?side2 A5.out).mono ?_); (case side1 => repeat (first | (with_reducible first | exact HI0.out | apply IsS81.alloc | apply IsS81.drewN | apply IsS81.drew) | exact HI0.out)); (case side2 => repeat (first | (with_reducible first | exact HB.out | apply below_alloc | apply pw_below_drewN | apply below_drew1 | refine below_set ?_ (IsS81.ge HI0.out)) | exact HB.out)); rintro e w7 ⟨rfl, hi, hb, hk⟩; refine ⟨_, rfl, ?_⟩; replace HO_3 := Aside0.mk (Kd.R_mono (Kd.R_keep (IsS81.apart (show IsS81 w0 _ g x1000_1 from by repeat (first | (with_reducible first | exact HI0.out | apply IsS81.alloc | apply IsS81.drewN | apply IsS81.drew) | exact HI0.out)) (kr_ HO_3.out) (by decide)) hk (fun _ h => h.2)) (fun _ h => h.1)); replace HK := Aside0.mk (KeepBut.trans (w := w) hk_ hk (.inl rfl)); replace HB := Aside0.mk (hb); replace HI0 := Aside0.mk (hi)) | ((with_reducible refine gate_builtin (b := .append) (xs := #[.tmp 11, .tmp 19]) rfl ?_); at_builtin; refine Kd.R_append k103 w.heap.size rfl (.tmp 11) (.tmp 19) 53 103 (.agg #[(.int .i64 0), (.int .i64 0)]) 16 rfl Tryz.underlying53 info103 rfl (by decide) (by omega) u3 x3_1 (⟨wrap64 ((wrap64 (3 * x8_1)) + 1), wrap64 (1 + t323)⟩ : S103) [.int .i64 (wrap64 ((wrap64 (3 * x8_1)) + 1)), .int .i64 (wrap64 (1 + t323))] (fun _ => True) (fun _ => False) rfl rfl ?aP (fun _ hk => hk.elim) ?aF ?aO (Below.refl _ _) ?aS ?aL ?_; (case aP => exact k103_mkM _ _ _ (⟨wrap64 ((wrap64 (3 * x8_1)) + 1), wrap64 (1 + t323)⟩ : S103)); (case aF => exact (fun _ _ => trivial)); (case aO => exact (kr_ HO_3.out)); (case aS => exact (keep_size (w := w) (g := g) (row := none) hk_)); (case aL => have := LMc6.out; omega); intro v326 w8 ho hb hg hat; rw [← Ny325.out] at ho; replace HB := Aside0.mk (below_weaken (by repeat (first | (with_reducible first | exact HB.out | apply below_alloc | apply pw_below_drewN | apply below_drew1 | refine below_set ?_ (IsS81.ge HI0.out)) | exact HB.out)) HL.out hb); replace HI0 := Aside0.mk (IsS81.grown (show IsS81 w0 _ g t324 from by repeat (first | (with_reducible first | exact HI0.out | apply IsS81.alloc | apply IsS81.drewN | apply IsS81.drew) | exact HI0.out)) hg (IsS81.own_ne HI0.out HO_3.out (by decide))); replace HK := Aside0.mk (KeepBut.trans (w := w) hk_ (KeepBut.of_grown hg g) (Kd.R_base2 HO_3.out)); have HO327 := Aside0.mk (ho); clear HO_3; clear ho hb hg hat)); go_roundg k1
     case measure => have := HK1.out; omega
     case rel => exact ⟨(y325), (wrap64 (x8_1 + 1)), (t324), rf_, H', ⟨by have := HK1.out; omega⟩, ⟨kr_ HO327.out⟩, ⟨by repeat (first | (with_reducible first | exact HI0.out | apply IsS81.alloc | apply IsS81.drewN | apply IsS81.drew) | exact HI0.out)⟩, ⟨hk_⟩, ⟨by repeat (first | (with_reducible first | exact HB.out | apply below_alloc | apply pw_below_drewN | apply below_drew1 | refine below_set ?_ (IsS81.ge HI0.out)) | exact HB.out)⟩⟩
    ·rw [if_neg c6] at H; exact absurd H (by simp)
   ·rw [if_neg c4] at H; have c4b0 := decide_eq_false c4; clear c4; simp only [Option.some.injEq, Prod.mk.injEq] at H; obtain ⟨rfl, rfl⟩ := H; go_wp2; go_ret; exact ⟨_, re_, kr_ HO_3.out, by repeat (first | (with_reducible first | exact HI0.out | apply IsS81.alloc | apply IsS81.drewN | apply IsS81.drew) | exact HI0.out), by repeat (first | (with_reducible first | exact HB.out | apply below_alloc | apply pw_below_drewN | apply below_drew1 | refine below_set ?_ (IsS81.ge HI0.out)) | exact HB.out), hk_⟩
instance attr_Sort.inh : Inhabited (S95) := ⟨z95⟩
theorem attr_Sort.bl_irrefl : ∀ x : List UInt8, Op.bytesLess x x = false
 | [] => rfl
 | a :: x => by
  unfold Op.bytesLess
  have := attr_Sort.bl_irrefl x
  simp [this]
theorem attr_Sort.bl_trans : ∀ x y z : List UInt8, Op.bytesLess x y = true → Op.bytesLess y z = true → Op.bytesLess x z = true
 | x, [], z, h1, _ => by cases x <;> simp [Op.bytesLess] at h1
 | x, b :: y, [], _, h2 => by simp [Op.bytesLess] at h2
 | [], b :: y, c :: z, _, _ => rfl
 | a :: x, b :: y, c :: z, h1, h2 => by
  have ih := attr_Sort.bl_trans x y z
  unfold Op.bytesLess at h1 h2 ⊢
  simp only [Bool.or_eq_true, decide_eq_true_eq, Bool.and_eq_true, beq_iff_eq] at h1 h2 ⊢
  rcases h1 with h1 | ⟨rfl, h1⟩
  ·rcases h2 with h2 | ⟨rfl, h2⟩
   ·exact .inl (UInt8.lt_trans h1 h2)
   ·exact .inl h1
  ·rcases h2 with h2 | ⟨rfl, h2⟩
   ·exact .inl h2
   ·exact .inr ⟨rfl, ih h1 h2⟩
theorem attr_Sort.bl_tri : ∀ x y : List UInt8, Op.bytesLess x y = false → Op.bytesLess y x = false → x = y
 | [], [], _, _ => rfl
 | [], b :: y, h, _ => by simp [Op.bytesLess] at h
 | a :: x, [], _, h => by simp [Op.bytesLess] at h
 | a :: x, b :: y, h1, h2 => by
  have ih := attr_Sort.bl_tri x y
  unfold Op.bytesLess at h1 h2
  simp only [Bool.or_eq_false_iff, decide_eq_false_iff_not, Bool.and_eq_false_iff, beq_eq_false_iff_ne] at h1 h2
  have e : a = b := UInt8.le_antisymm (UInt8.not_lt.1 h2.1) (UInt8.not_lt.1 h1.1)
  subst e
  rw [ih (h1.2.resolve_left (fun h => h rfl)) (h2.2.resolve_left (fun h => h rfl))]
theorem attr_Sort.bl_ntrans (x y z : List UInt8) (h1 : Op.bytesLess x y = false) (h2 : Op.bytesLess y z = false) : Op.bytesLess x z = false := by
 cases hxz : Op.bytesLess x z with
 | false => rfl
 | true =>
  cases hzy : Op.bytesLess z y with
  | true => rw [attr_Sort.bl_trans x z y hxz hzy] at h1; cases h1
  | false =>
   have e := attr_Sort.bl_tri y z h2 hzy; rw [← e, h1] at hxz
   cases hxz
def attr_Sort.sc (a b : ByteArray) : Int := if Op.bytesLess a.toList b.toList = true then -1 else if (!(Op.bytesLess a.toList b.toList || a.toList == b.toList)) = true then 1 else 0
theorem attr_Sort.sc_lt (a b : ByteArray) : attr_Sort.sc a b < 0 ↔ Op.bytesLess a.toList b.toList = true := by
 unfold attr_Sort.sc; split
 ·rename_i h; exact ⟨fun _ => h, fun _ => by omega⟩
 ·rename_i h; split <;> exact ⟨fun h' => by omega, fun h' => absurd h' h⟩
theorem attr_Sort.gtr (a b : ByteArray) (w : World) : (binOp BinOp.gtr 9 (Value.string a) (Value.string b)).run Tryz.prog w = .ok (.bool (!(Op.bytesLess a.toList b.toList || a.toList == b.toList))) w := rfl
theorem attr_Sort.nan (a : ByteArray) (w : World) : Calls Tryz.prog 75 #[.string a] w fun e w' => e = .returned (.bool false) ∧ w' = w := by
 have h : (!(a.toList == a.toList)) = false := by simp
 go_enter Tryz.func75, Tryz.ntmps75; go_wp2; go_ret; exact ⟨by first | rfl | rw [h], rfl⟩
theorem attr_Sort.cms (a b : ByteArray) (w : World) : Calls Tryz.prog 48 #[.string a, .string b] w fun e w' => e = .returned (.int .i64 (attr_Sort.sc a b)) ∧ w' = w := by
 have h1 := attr_Sort.nan; unfold attr_Sort.sc; go_enter Tryz.func48, Tryz.ntmps48
 cases c1 : Op.bytesLess a.toList b.toList with
 | true =>
  go_wp2_with (go_at_call 75; (with_reducible refine (h1 _ _).mono ?_); rintro e w9 ⟨rfl, rfl⟩); go_ret; exact ⟨rfl, rfl⟩
 | false =>
  cases c2 : (a.toList == b.toList) with
  | true =>
   have hg := fun w => attr_Sort.gtr a b w; simp only [c1, c2, Bool.or_true, Bool.not_true] at hg; go_wp2_with (go_at_call 75; (with_reducible refine (h1 _ _).mono ?_); rintro e w9 ⟨rfl, rfl⟩); go_ret; exact ⟨rfl, rfl⟩
  | false =>
   have hg := fun w => attr_Sort.gtr a b w; simp only [c1, c2, Bool.or_false, Bool.not_false] at hg; go_wp2_with (go_at_call 75; (with_reducible refine (h1 _ _).mono ?_); rintro e w9 ⟨rfl, rfl⟩); go_ret; exact ⟨rfl, rfl⟩
def attr_Sort.cf (x y : S95) : Int := attr_Sort.sc x.f0 y.f0
def attr_Sort.srt (l : List (S95)) : List (S95) := (Sort.pdq (ltOf attr_Sort.cf) l.toArray 0 l.length (Lib.bitLen l.length) true true).toList
def attr_Sort.f (l0 : List (S95)) : Option (List (S95)) := if l0.length = 0 then some [] else if l0.length ≤ 1000000 then some (attr_Sort.srt l0) else none
def attr_Sort.ren : Go.Shelf.Ren := ⟨fun | 6 => 56 | 15 => 73 | 14 => 83 | 28 => 104 | 29 => 105 | 20 => 135 | 21 => 136 | 22 => 137 | 23 => 138 | 24 => 139 | 25 => 140 | 26 => 141 | 27 => 142 | 46 => 175 | 47 => 152 | 48 => 153 | 49 => 176 | 50 => 177 | 57 => 197 | n => n, fun | 22 => 83 | 24 => 95 | 25 => 138 | 3 => 3 | 39 => 154 | 0 => 0 | 53 => 182 | 55 => 27 | 4 => 4 | 46 => 176 | 45 => 175 | 50 => 160 | 5 => 5 | 9 => 9 | 66 => 215 | 70 => 219 | 76 => 247 | 77 => 57 | n => n, fun | n => n⟩
theorem attr_Sort.lays : Go.Proofs.SlLaysF0.n6 Tryz.prog attr_Sort.ren := {
 mixed := kl_
 f6 := ⟨Tryz.f56.name, by decide, Tryz.func56.trans (congrArg some kl_)⟩
 f14 := ⟨Tryz.f83.name, by decide, Tryz.func83.trans (congrArg some kl_)⟩
 f15 := Tryz.func73.trans (congrArg some kl_)
 f20 := ⟨Tryz.f135.name, by decide, Tryz.func135.trans (congrArg some kl_)⟩
 f21 := ⟨Tryz.f136.name, by decide, Tryz.func136.trans (congrArg some kl_)⟩
 f22 := ⟨Tryz.f137.name, by decide, Tryz.func137.trans (congrArg some kl_)⟩
 f23 := ⟨Tryz.f138.name, by decide, Tryz.func138.trans (congrArg some kl_)⟩
 f24 := ⟨Tryz.f139.name, by decide, Tryz.func139.trans (congrArg some kl_)⟩
 f25 := ⟨Tryz.f140.name, by decide, Tryz.func140.trans (congrArg some kl_)⟩
 f26 := ⟨Tryz.f141.name, by decide, Tryz.func141.trans (congrArg some kl_)⟩
 f27 := ⟨Tryz.f142.name, by decide, Tryz.func142.trans (congrArg some kl_)⟩
 f28 := Tryz.func104.trans (congrArg some kl_)
 f29 := Tryz.func105.trans (congrArg some kl_)
 f46 := ⟨Tryz.f175.name, by decide, Tryz.func175.trans (congrArg some kl_)⟩
 f47 := Tryz.func152.trans (congrArg some kl_)
 f48 := Tryz.func153.trans (congrArg some kl_)
 f49 := ⟨Tryz.f176.name, by decide, Tryz.func176.trans (congrArg some kl_)⟩
 f50 := ⟨Tryz.f177.name, by decide, Tryz.func177.trans (congrArg some kl_)⟩
 f57 := ⟨Tryz.f197.name, by decide, Tryz.func197.trans (congrArg some kl_)⟩
 t0 := Tryz.underlying0
 a0 := Tryz.isAgg0
 z0 := Tryz.sizeOf0
 v0 := Tryz.zeroValue0
 t3 := Tryz.underlying3
 a3 := Tryz.isAgg3
 z3 := Tryz.sizeOf3
 v3 := Tryz.zeroValue3
 t4 := Tryz.underlying4
 a4 := Tryz.isAgg4
 z4 := Tryz.sizeOf4
 v4 := Tryz.zeroValue4
 t5 := Tryz.underlying5
 a5 := Tryz.isAgg5
 z5 := Tryz.sizeOf5
 v5 := Tryz.zeroValue5
 t9 := Tryz.underlying9
 a9 := Tryz.isAgg9
 z9 := Tryz.sizeOf9
 v9 := Tryz.zeroValue9
 t22 := Tryz.underlying83
 a22 := Tryz.isAgg83
 z22 := Tryz.sizeOf83
 v22 := Tryz.zeroValue83
 t25 := Tryz.underlying138
 a25 := Tryz.isAgg138
 z25 := Tryz.sizeOf138
 v25 := Tryz.zeroValue138
 t39 := Tryz.underlying154
 a39 := Tryz.isAgg154
 z39 := Tryz.sizeOf154
 v39 := Tryz.zeroValue154
 t45 := Tryz.underlying175
 a45 := Tryz.isAgg175
 z45 := Tryz.sizeOf175
 v45 := Tryz.zeroValue175
 t46 := Tryz.underlying176
 a46 := Tryz.isAgg176
 z46 := Tryz.sizeOf176
 v46 := Tryz.zeroValue176
 t50 := Tryz.underlying160
 a50 := Tryz.isAgg160
 z50 := Tryz.sizeOf160
 v50 := Tryz.zeroValue160
 t53 := Tryz.underlying182
 a53 := Tryz.isAgg182
 z53 := Tryz.sizeOf182
 v53 := Tryz.zeroValue182
 t55 := Tryz.underlying27
 a55 := Tryz.isAgg27
 z55 := Tryz.sizeOf27
 v55 := Tryz.zeroValue27
 t66 := Tryz.underlying215
 a66 := Tryz.isAgg215
 z66 := Tryz.sizeOf215
 v66 := Tryz.zeroValue215
 t70 := Tryz.underlying219
 a70 := Tryz.isAgg219
 z70 := Tryz.sizeOf219
 v70 := Tryz.zeroValue219
 t76 := Tryz.underlying247
 a76 := Tryz.isAgg247
 z76 := Tryz.sizeOf247
 v76 := Tryz.zeroValue247
 t77 := Tryz.underlying57
 a77 := Tryz.isAgg57
 z77 := Tryz.sizeOf57
 v77 := Tryz.zeroValue57 }
def attr_Sort.enc (s : S95) : List Value := [.string s.f0, .int .i64 s.f1, .bool s.f2, .int .i64 s.f3, .int .i64 s.f4, .int .i64 s.f5.f0, .int .i64 s.f5.f1]
theorem attr_Sort.cf_lt (x y : S95) : attr_Sort.cf x y < 0 ↔ Op.bytesLess x.f0.toList y.f0.toList = true := attr_Sort.sc_lt x.f0 y.f0
theorem attr_Sort.swo : Sort.SWO (ltOf attr_Sort.cf) where
 irrefl x := by unfold ltOf; rw [decide_eq_false_iff_not, attr_Sort.cf_lt, attr_Sort.bl_irrefl]; simp
 trans x y z h1 h2 := by
  unfold ltOf at *; rw [decide_eq_true_eq, attr_Sort.cf_lt] at *; exact attr_Sort.bl_trans x.f0.toList y.f0.toList z.f0.toList h1 h2
 ntrans x y z h1 h2 := by
  unfold ltOf at *; rw [decide_eq_false_iff_not, attr_Sort.cf_lt, Bool.not_eq_true] at *; exact attr_Sort.bl_ntrans x.f0.toList y.f0.toList z.f0.toList h1 h2
theorem attr_Sort.clo (x y : S95) (W : World) : Calls Tryz.prog 57 #[.agg #[.string x.f0, .int .i64 x.f1, .bool x.f2, .int .i64 x.f3, .int .i64 x.f4, .int .i64 x.f5.f0, .int .i64 x.f5.f1], .agg #[.string y.f0, .int .i64 y.f1, .bool y.f2, .int .i64 y.f3, .int .i64 y.f4, .int .i64 y.f5.f0, .int .i64 y.f5.f1]] W fun e w' => e = .returned (.int .i64 (attr_Sort.cf x y)) ∧ ∃ q os', w' = Sort.grow (W.drewN q) os' := by
 have hc := attr_Sort.cms; unfold attr_Sort.cf; go_enter Tryz.func57, Tryz.ntmps57; go_wp2_with (go_at_call 48; (with_reducible refine (hc _ _ _).mono ?_); rintro e w9 ⟨rfl, rfl⟩); go_ret; exact ⟨rfl, 0, _, by rw [Sort.alloc_eq_grow, Sort.alloc_eq_grow, Sort.grow_grow]; rfl⟩
theorem attr_Sort.sw_g {w : World} {g n : Nat} {os : Array Obj} {cur : Array Value} {e : TypeId} {fr : Nat × Nat} (d : Array Value) (hb : w.heap[g]? = some (.cells cur e fr)) :
  (sortWorld id w g 0 n d os).heap[g]? = some (.cells (Sort.putCells id 0 d cur) e fr) := by
 have hg : g < w.heap.size := (Array.getElem?_eq_some_iff.1 hb).1; unfold sortWorld; rw [Sort.heap_grow_old _ _ (by simpa [Sort.putRow, Sort.mapBlock, Sort.ahead] using hg)]; simp [Sort.putRow, Sort.mapBlock, Sort.ahead, Array.getElem?_modify, hb, Sort.onCells]
theorem attr_Sort.sw_grown {w : World} {g n : Nat} {os : Array Obj} (d : Array Value) : w.grownBy (sortWorld id w g 0 n d os) (some g) := by
 unfold sortWorld; refine ⟨rfl, rfl, rfl, by simp [Sort.grow, Sort.putRow, Sort.mapBlock, Sort.ahead], fun k hk hne => ?_⟩; rw [Sort.heap_grow_old _ _ (by simpa [Sort.putRow, Sort.mapBlock, Sort.ahead] using hk)]; have : g ≠ k := fun e => hne (by rw [e]); simp [Sort.putRow, Sort.mapBlock, Sort.ahead, Array.getElem?_modify, this]
theorem attr_Sort.put_take (cur : Array Value) (d : Array Value) (h : d.size ≤ cur.size) : (Sort.putCells id 0 d cur).toList.take d.size = d.toList := by
 apply List.ext_getElem?; intro j; by_cases hj : j < d.size
 ·rw [List.getElem?_take_of_lt hj, Array.getElem?_toList]; simp [Sort.putCells, hj, show j < cur.size by omega]
 ·rw [List.getElem?_take_eq_none (by omega), List.getElem?_eq_none (by simp; omega)]
theorem attr_Sort.flat_size (d : Array (S95)) : (Sort.flatK attr_Sort.enc 7 d).size = d.size * 7 := Sort.size_flatK _ _ _
theorem attr_Sort.flat_at (d : Array (S95)) (j : Nat) (hj : j < d.size) : ((Sort.flatK attr_Sort.enc 7 d).toList.drop (j * 7)).take 7 = attr_Sort.enc d[j] := by
 have h0 : (Sort.flatK attr_Sort.enc 7 d).toList.length = d.size * 7 := by rw [Array.length_toList, attr_Sort.flat_size]
 have g : ∀ t, (ht : t < d.size * 7) → (Sort.flatK attr_Sort.enc 7 d).toList[t]? = some ((attr_Sort.enc d[t / 7]!)[t % 7]!) := by
  intro t ht; have := Sort.get_flatK attr_Sort.enc 7 d t ht; rw [Array.getElem?_toList, Array.getElem?_eq_getElem (by rw [attr_Sort.flat_size]; exact ht), ← this, getElem!_pos _ t (by rw [attr_Sort.flat_size]; exact ht)]
 apply List.ext_getElem?; intro i; by_cases hi : i < 7
 ·rw [List.getElem?_take_of_lt hi, List.getElem?_drop, g (j * 7 + i) (by omega), show (j * 7 + i) / 7 = j by omega, show (j * 7 + i) % 7 = i by omega, getElem!_pos d j hj]; rcases (show i = 0 ∨ i = 1 ∨ i = 2 ∨ i = 3 ∨ i = 4 ∨ i = 5 ∨ i = 6 by omega) with rfl | rfl | rfl | rfl | rfl | rfl | rfl <;> rfl
 ·rw [List.getElem?_take_eq_none (by omega), List.getElem?_eq_none (by show 7 ≤ i; omega)]
theorem attr_Sort.calls (P0_ : Nat → Prop) (u9000_ : Value) (l0 : List (S95)) (r : List (S95)) (w0 w : World) (hB : Below w0.heap.size w0 w) (ho0 : Kd.R k95 95 w w0.heap.size P0_ u9000_ l0) (h : attr_Sort.f l0 = some r) :
  Calls Tryz.prog 56 #[u9000_, .func (.func 57) #[] #[]] w fun e w' => e = .returned (.tuple #[]) ∧ Kd.R k95 95 w' w0.heap.size (fun k_ => (P0_ k_ ∨ w.heap.size ≤ k_)) u9000_ r ∧ Below w0.heap.size w0 w' ∧ Kept w w' (fun k_ => P0_ k_) := by
 unfold attr_Sort.f at h; by_cases h0 : l0.length = 0
 ·rw [if_pos h0] at h; obtain rfl := Option.some.inj h; obtain rfl := List.eq_nil_of_length_eq_zero h0; have hro := Kd.R_mono (ok' := fun k_ => (P0_ k_ ∨ w.heap.size ≤ k_)) ho0 (fun k hk => .inl hk); obtain ⟨A, c, rfl⟩ := Kd.R_slice ho0; refine (AnyF.slices_SortFunc_none attr_Sort.lays A c _ w).mono ?_; rintro e w' ⟨rfl, rfl⟩; exact ⟨rfl, hro, hB, Kept.refl _ _⟩
 ·rw [if_neg h0] at h; by_cases hc : l0.length ≤ 1000000
  ·rw [if_pos hc] at h; obtain rfl := Option.some.inj h; have hl := hc; obtain ⟨hP0, inner, hown, hreps⟩ := ho0; rcases hown.2 with ⟨_, hn0⟩ | ⟨g, cap, cur, hu, hbase, hb, h1, h2, h3, h4⟩
   ·exact absurd hn0 h0
   ·subst hu; have hP : P0_ g := hP0 g rfl; have hgs : g < w.heap.size := (Array.getElem?_eq_some_iff.1 hb).1; have h3' : cur.size = cap * 7 := h3; have h4' : cur.toList.take (l0.length * 7) = inner := h4; have hkept : ∀ (n : Nat) (d : Array Value) (os : Array Obj), Kept w (sortWorld id w g 0 n d os) (fun k_ => P0_ k_) := fun n d os =>
     ⟨(attr_Sort.sw_grown d).size, fun i hi hn => (attr_Sort.sw_grown d).block i hi (fun e => hn (by rw [Option.some.inj e]; exact hP))⟩
    have hH : Sort.HoldsK attr_Sort.enc 7 w g 0 l0.toArray := by
     intro j hj; rw [attr_Sort.flat_size] at hj; have hj' : j < l0.length * 7 := by simpa using hj
     refine ⟨?_, by simp [World.frozen?, hb]⟩; have hq : j / 7 < l0.length := by omega
     have hm := hreps.2 (j / 7) l0[j / 7] (List.getElem?_eq_getElem hq); have hop := k95_openM hm; have hfl := Sort.get_flatK attr_Sort.enc 7 l0.toArray j hj; have hz : l0.toArray[j / 7]! = l0[j / 7] := by simp [hq]
     have hcell : w.cell? ⟨g, 0 + j, none⟩ = inner[j]? := by
      rw [← h4', List.getElem?_take_of_lt hj', Array.getElem?_toList]; simp [World.cell?, hb]
     have hget : inner[j]? = ([.string (l0[j / 7]).f0, .int .i64 (l0[j / 7]).f1, .bool (l0[j / 7]).f2, .int .i64 (l0[j / 7]).f3, .int .i64 (l0[j / 7]).f4, .int .i64 (l0[j / 7]).f5.f0, .int .i64 (l0[j / 7]).f5.f1] : List Value)[j % 7]? := by
      rw [← hop]; show inner[j]? = ((inner.drop (j / 7 * 7)).take 7)[j % 7]?; rw [List.getElem?_take_of_lt (by omega), List.getElem?_drop, show j / 7 * 7 + j % 7 = j by omega]
     rw [hcell, hget, hfl, hz]; unfold attr_Sort.enc; rcases (show j % 7 = 0 ∨ j % 7 = 1 ∨ j % 7 = 2 ∨ j % 7 = 3 ∨ j % 7 = 4 ∨ j % 7 = 5 ∨ j % 7 = 6 by omega) with e | e | e | e | e | e | e <;> rw [e] <;> rfl
    have hcmp : CmpLays Tryz.prog 57 #[] attr_Sort.enc 7 attr_Sort.cf g 0 l0.toArray.size w := fun mm os dk _ x y => attr_Sort.clo x y _; have C := AnyQ.slices_SortFunc_eq attr_Sort.lays 7 Tryz.isAgg95 Tryz.sizeOf95 attr_Sort.enc (fun _ => rfl) (fun x v hv => by simp [attr_Sort.enc] at hv; rcases hv with rfl | rfl | rfl | rfl | rfl | rfl | rfl <;> rfl) attr_Sort.cf attr_Sort.swo 57 #[] g 0 cap l0.toArray w (fun args w => enters_ Tryz.func57 kl_ rfl args w) hcmp hH hgs (by simp; omega); refine Calls.mono C ?_; rintro e w' ⟨rfl, n, os, hw⟩; obtain ⟨dd, hdd⟩ : ∃ dd, dd = Sort.pdq (ltOf attr_Sort.cf) l0.toArray 0 l0.toArray.size (Lib.bitLen l0.toArray.size) true true := ⟨_, rfl⟩; rw [← hdd] at hw; have hsz : dd.size = l0.length := by
     have hp := (Sort.pdq_sorts (ltOf attr_Sort.cf) attr_Sort.swo l0.toArray 0 l0.toArray.size (Lib.bitLen l0.toArray.size) true true (Nat.zero_le _) (Nat.le_refl _) (Or.inl rfl)).1.1; rw [hdd, hp]; simp
    have hr : attr_Sort.srt l0 = dd.toList := by rw [hdd]; rfl
    have hw2 : w' = sortWorld id w g 0 n (Sort.flatK attr_Sort.enc 7 dd) os := hw; subst hw2; have hlen : (attr_Sort.srt l0).length = l0.length := by rw [hr]; simpa using hsz
    refine ⟨rfl, ⟨fun k hk => .inl (hP0 k hk), (Sort.flatK attr_Sort.enc 7 dd).toList, ?_, ?_⟩, hB.grown (attr_Sort.sw_grown _) hB.size (fun k hk => by cases hk; exact hbase), hkept _ _ _⟩
    ·refine ⟨?_, .inr ⟨g, cap, _, by rw [hlen], hbase, attr_Sort.sw_g _ hb, by omega, h2, ?_, ?_⟩⟩
     ·rw [hlen]; show (Sort.flatK attr_Sort.enc 7 dd).toList.length = l0.length * 7; rw [Array.length_toList, attr_Sort.flat_size, hsz]
     ·show _ = cap * 7; simp [Sort.putCells, h3']
     ·rw [hlen]; show (Sort.putCells id 0 (Sort.flatK attr_Sort.enc 7 dd) cur).toList.take (l0.length * 7) = _; have := attr_Sort.put_take cur (Sort.flatK attr_Sort.enc 7 dd) (by rw [attr_Sort.flat_size, hsz]; omega); rw [attr_Sort.flat_size, hsz] at this; exact this
    ·refine ⟨?_, fun j p hj => ?_⟩
     ·rw [hlen]; show (Sort.flatK attr_Sort.enc 7 dd).toList.length = l0.length * 7; rw [Array.length_toList, attr_Sort.flat_size, hsz]
     ·obtain ⟨hjl, hjp⟩ := List.getElem?_eq_some_iff.1 hj; have hjd : j < dd.size := by omega
      have hf := attr_Sort.flat_at dd j hjd; have hp : p = dd[j] := by
       rw [← hjp]; simp only [hr]; rfl
      show k95.M _ _ _ p (((Sort.flatK attr_Sort.enc 7 dd).toList.drop (j * 7)).take 7); rw [hf, hp]; exact k95_mkM _ _ _ dd[j]
  ·rw [if_neg hc] at h
   cases h
-- NOT PRINTED: function 39 (mootmake_inputs)
-- NOT PRINTED: function 16 (mootmake_Case)
end Go.Proofs.YtkjneemcledfjaaGreatDoor.PBookCases
