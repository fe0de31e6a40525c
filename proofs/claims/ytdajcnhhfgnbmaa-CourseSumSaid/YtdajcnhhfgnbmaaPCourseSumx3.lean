/- The machine side of a law, written by a program of this session (wip/mp). -/
import Derived.Test.YtdajcnhhfgnbmaaPCourseSumx0
import Derived.Test.YtdajcnhhfgnbmaaPCourseSumx1
import Derived.Test.YtdajcnhhfgnbmaaPCourseSumx2
namespace Go.Proofs.Ytdajcnhhfgnbmaa.PCourseSum
open Go.RowKit Go.Proofs.YtdajcnhhfgnbmaaW.PrintWords Go.Proofs.YtdajcnhhfgnbmaaW.PrintLast Go.Proofs.YtdajcnhhfgnbmaaW.PrintMore
attribute [local go_sem] max2_int min2_int max_two min_two max_three min_three max_four min_four   -- for this text's walks alone
set_option linter.unusedVariables false
set_option linter.unusedSimpArgs false

attribute [local go_sem high] eqA43
attribute [local go_sem] fld43_1
/-! ### course_Check: function 41 -/
mutual
def course_Check.l0 : Nat → List (S46) → List (S46) → Int → Int → Option (Int)
  | 0, _, _, _, _ => none
  | k + 1, x0, x9, x10, x11 => if x11 < x10 then (if 0 ≤ x11 then (if x11 < (x9.length : Int) then ((unit_Check.f ((rd_T46 x9 x11).f2.f0) ((rd_T46 x9 x11).f2.f1)).bind fun t122 => (if ((rd_T46 x9 x11).f0) < 0 then (course_Check.j1 k x0 x11 t122 x9 x10 x11 true ((rd_T46 x9 x11).f0) ((rd_T46 x9 x11).f1) ((rd_T46 x9 x11).f2.f0) ((rd_T46 x9 x11).f2.f1)) else (if ((rd_T46 x9 x11).f0) ≥ ((rd_T46 x9 x11).f1) then (course_Check.j1 k x0 x11 t122 x9 x10 x11 true ((rd_T46 x9 x11).f0) ((rd_T46 x9 x11).f1) ((rd_T46 x9 x11).f2.f0) ((rd_T46 x9 x11).f2.f1)) else (course_Check.j1 k x0 x11 t122 x9 x10 x11 (decide (((rd_T46 x9 x11).f1) > 1048576)) ((rd_T46 x9 x11).f0) ((rd_T46 x9 x11).f1) ((rd_T46 x9 x11).f2.f0) ((rd_T46 x9 x11).f2.f1))))) else (none)) else (none)) else (some 0)
def course_Check.j1 : Nat → List (S46) → Int → Int → List (S46) → Int → Int → Bool → Int → Int → Int → Int → Option (Int)
  | 0, _, _, _, _, _, _, _, _, _, _, _ => none
  | k + 1, x0, x3, x5, x9, x10, x11, x19, x122000, x122001, x122002, x122003 => if x19 = true then (some 1) else (if x5 = 0 then (if x122002 = 0 then (some 16) else (if x3 > 0 then (if 0 ≤ (wrap64 (x3 - 1)) then (if (wrap64 (x3 - 1)) < (x0.length : Int) then (course_Check.j2 k x0 x3 x9 x10 x11 (decide (x122000 < ((rd_T46 x0 (wrap64 (x3 - 1))).f1))) x122000 x122001 x122002 x122003) else (none)) else (none)) else (course_Check.j2 k x0 x3 x9 x10 x11 false x122000 x122001 x122002 x122003))) else (some x5))
def course_Check.j2 : Nat → List (S46) → Int → List (S46) → Int → Int → Bool → Int → Int → Int → Int → Option (Int)
  | 0, _, _, _, _, _, _, _, _, _, _ => none
  | k + 1, x0, x3, x9, x10, x11, x44, x122000, x122001, x122002, x122003 => if x44 = true then (some 9) else (if x3 > 0 then (if 0 ≤ (wrap64 (x3 - 1)) then (if (wrap64 (x3 - 1)) < (x0.length : Int) then (if x122000 = ((rd_T46 x0 (wrap64 (x3 - 1))).f1) then (if (x122002 == ((rd_T46 x0 (wrap64 (x3 - 1))).f2.f0) && (x122003 == ((rd_T46 x0 (wrap64 (x3 - 1))).f2.f1))) = true then (some 3) else (course_Check.l0 k x0 x9 x10 (wrap64 (x11 + 1)))) else (course_Check.l0 k x0 x9 x10 (wrap64 (x11 + 1)))) else (none)) else (none)) else (course_Check.l0 k x0 x9 x10 (wrap64 (x11 + 1))))
end
def course_Check.f (k : Nat) (l0 : List (S46)) : Option (Int) := if (l0.length : Int) > 1000 then (some 2) else (course_Check.l0 k l0 l0 (l0.length : Int) 0)
theorem course_Check.mono_l : ∀ k, (∀ y0 y1 y2 y3, LeO (course_Check.l0 k y0 y1 y2 y3) (course_Check.l0 (k + 1) y0 y1 y2 y3)) ∧ (∀ y0 y1 y2 y3 y4 y5 y6 y7 y8 y9 y10, LeO (course_Check.j1 k y0 y1 y2 y3 y4 y5 y6 y7 y8 y9 y10) (course_Check.j1 (k + 1) y0 y1 y2 y3 y4 y5 y6 y7 y8 y9 y10)) ∧ (∀ y0 y1 y2 y3 y4 y5 y6 y7 y8 y9, LeO (course_Check.j2 k y0 y1 y2 y3 y4 y5 y6 y7 y8 y9) (course_Check.j2 (k + 1) y0 y1 y2 y3 y4 y5 y6 y7 y8 y9))
  | 0 => ⟨fun _ _ _ _ r h => by simp [course_Check.l0] at h, fun _ _ _ _ _ _ _ _ _ _ _ r h => by simp [course_Check.j1] at h, fun _ _ _ _ _ _ _ _ _ _ r h => by simp [course_Check.j2] at h⟩
  | k + 1 => by
    obtain ⟨ih0, ih1, ih2⟩ := course_Check.mono_l k
    refine ⟨?_, ?_, ?_⟩
    · intro y0 y1 y2 y3
      unfold course_Check.l0
      repeat' first
      | (with_reducible exact ih0 _ _ _ _)
      | (with_reducible exact ih1 _ _ _ _ _ _ _ _ _ _ _)
      | (with_reducible exact ih2 _ _ _ _ _ _ _ _ _ _)
      | (with_reducible exact LeO.refl _)
      | (with_reducible exact LeO.none _)
      | (with_reducible refine LeO.ite ?_ ?_)
      | (with_reducible refine LeO.bind ?_ (fun _ => ?_))
      | exact ih0 _ _ _ _
      | exact ih1 _ _ _ _ _ _ _ _ _ _ _
      | exact ih2 _ _ _ _ _ _ _ _ _ _
      | exact LeO.none _
      | refine LeO.ite ?_ ?_
      | refine LeO.bind ?_ (fun _ => ?_)
    · intro y0 y1 y2 y3 y4 y5 y6 y7 y8 y9 y10
      unfold course_Check.j1
      repeat' first
      | (with_reducible exact ih0 _ _ _ _)
      | (with_reducible exact ih1 _ _ _ _ _ _ _ _ _ _ _)
      | (with_reducible exact ih2 _ _ _ _ _ _ _ _ _ _)
      | (with_reducible exact LeO.refl _)
      | (with_reducible exact LeO.none _)
      | (with_reducible refine LeO.ite ?_ ?_)
      | (with_reducible refine LeO.bind ?_ (fun _ => ?_))
      | exact ih0 _ _ _ _
      | exact ih1 _ _ _ _ _ _ _ _ _ _ _
      | exact ih2 _ _ _ _ _ _ _ _ _ _
      | exact LeO.none _
      | refine LeO.ite ?_ ?_
      | refine LeO.bind ?_ (fun _ => ?_)
    · intro y0 y1 y2 y3 y4 y5 y6 y7 y8 y9
      unfold course_Check.j2
      repeat' first
      | (with_reducible exact ih0 _ _ _ _)
      | (with_reducible exact ih1 _ _ _ _ _ _ _ _ _ _ _)
      | (with_reducible exact ih2 _ _ _ _ _ _ _ _ _ _)
      | (with_reducible exact LeO.refl _)
      | (with_reducible exact LeO.none _)
      | (with_reducible refine LeO.ite ?_ ?_)
      | (with_reducible refine LeO.bind ?_ (fun _ => ?_))
      | exact ih0 _ _ _ _
      | exact ih1 _ _ _ _ _ _ _ _ _ _ _
      | exact ih2 _ _ _ _ _ _ _ _ _ _
      | exact LeO.none _
      | refine LeO.ite ?_ ?_
      | refine LeO.bind ?_ (fun _ => ?_)
theorem course_Check.mono : ∀ a0 k, LeO (course_Check.f k a0) (course_Check.f (k + 1) a0) := by
  intro a0 k
  obtain ⟨ih0, ih1, ih2⟩ := course_Check.mono_l k
  unfold course_Check.f
  repeat' first
      | (with_reducible exact ih0 _ _ _ _)
      | (with_reducible exact ih1 _ _ _ _ _ _ _ _ _ _ _)
      | (with_reducible exact ih2 _ _ _ _ _ _ _ _ _ _)
      | (with_reducible exact LeO.refl _)
      | (with_reducible exact LeO.none _)
      | (with_reducible refine LeO.ite ?_ ?_)
      | (with_reducible refine LeO.bind ?_ (fun _ => ?_))
      | exact ih0 _ _ _ _
      | exact ih1 _ _ _ _ _ _ _ _ _ _ _
      | exact ih2 _ _ _ _ _ _ _ _ _ _
      | exact LeO.none _
      | refine LeO.ite ?_ ?_
      | refine LeO.bind ?_ (fun _ => ?_)
set_option maxHeartbeats 8000000 in
set_option maxRecDepth 100000 in
theorem course_Check.calls (k : Nat) (A0 : Option Addr) (c0 : Nat) (l0 : List (S46)) (r : Int) (w : World) (hr0 : Kd.C k46 w A0 l0.length l0) (hc0 : l0.length ≤ c0) (h : course_Check.f k l0 = some r) :
    Calls Try.prog 41 #[.slice A0 l0.length c0] w fun e w' => e = .returned (.int .i64 r) ∧ Below w.heap.size w w' := by
  have hu46 := Try.underlying46
  have hu43 := Try.underlying43
  have HR0 := Aside0.mk hr0
  have HC0 := Aside0.mk hc0
  clear hr0 hc0
  have HB := Aside0.mk (Below.refl w.heap.size w)
  have H : (if (l0.length : Int) > 1000 then (some 2) else (course_Check.l0 k l0 l0 (l0.length : Int) 0)) = some r := h
  clear h
  by_cases c2 : (l0.length : Int) > 1000
  · rw [if_pos c2] at H
    have c2b0 : decide (1000 < (l0.length : Int)) = true := decide_eq_true c2
    have c2b1 : decide (1000 < l0.length) = true := decide_eq_true (by omega)
    clear c2
    obtain rfl := Option.some.inj H
    go_enter Try.func41, Try.ntmps41
    go_wp2
    repeat (go_quiet (fail); try go_wp2)
    go_ret
    exact ⟨by first | rfl | (simp [errW_none, errW_some] <;> rfl) | (simp [*, errW_none, errW_some] <;> rfl), by repeat (first | (with_reducible first | exact HB.out | apply below_alloc | apply pw_below_drewN | apply below_drew1) | exact HB.out)⟩
  · rw [if_neg c2] at H
    have c2b0 : decide (1000 < (l0.length : Int)) = false := decide_eq_false c2
    have c2b1 : decide (1000 < l0.length) = false := decide_eq_false (by omega)
    clear c2
    have H' := Aside0.mk H
    clear H
    go_enter Try.func41, Try.ntmps41
    go_wp2
    repeat (go_quiet (fail); try go_wp2)
    go_loopg [11] k (fun kq v11 w' => ∃ (x11_1 : Int), v11 = .int .i64 x11_1 ∧ Aside0 (course_Check.l0 kq l0 l0 (l0.length : Int) x11_1 = some r) ∧ Aside0 (kq ≤ k) ∧ Aside0 (Below w.heap.size w w'))
    case atStart => exact ⟨(0), (by first | rfl | (simp; done) | (simp [*]; done)), H', ⟨Nat.le_refl _⟩, ⟨by repeat (first | (with_reducible first | exact HB.out | apply below_alloc | apply pw_below_drewN | apply below_drew1) | exact HB.out)⟩⟩
    case round =>
      clear H'
      try clear c2
      try clear c2b0
      try clear c2b1
      try clear p2
      obtain ⟨x11_1, rfl, HA, HK1, HB⟩ := hrel
      cases gk with
      | zero => exact absurd HA.out (by simp [course_Check.l0])
      | succ k1 =>
        have H := HA.out
        clear HA
        simp only [course_Check.l0] at H
        by_cases c3 : x11_1 < (l0.length : Int)
        · rw [if_pos c3] at H
          have c3b0 : decide (x11_1 < (l0.length : Int)) = true := decide_eq_true c3
          clear c3
          by_cases c4 : 0 ≤ x11_1
          · rw [if_pos c4] at H
            have c4b0 : decide (0 ≤ x11_1) = true := decide_eq_true c4
            clear c4
            by_cases c5 : x11_1 < (l0.length : Int)
            · rw [if_pos c5] at H
              have c5b0 : decide (x11_1 < (l0.length : Int)) = true := decide_eq_true c5
              clear c5
              replace H := Option.bind_eq_some_iff.mp H
              obtain ⟨t122, A60, H⟩ := H
              replace H : (if ((rd_T46 l0 x11_1).f0) < 0 then (course_Check.j1 k1 l0 x11_1 t122 l0 (l0.length : Int) x11_1 true ((rd_T46 l0 x11_1).f0) ((rd_T46 l0 x11_1).f1) ((rd_T46 l0 x11_1).f2.f0) ((rd_T46 l0 x11_1).f2.f1)) else (if ((rd_T46 l0 x11_1).f0) ≥ ((rd_T46 l0 x11_1).f1) then (course_Check.j1 k1 l0 x11_1 t122 l0 (l0.length : Int) x11_1 true ((rd_T46 l0 x11_1).f0) ((rd_T46 l0 x11_1).f1) ((rd_T46 l0 x11_1).f2.f0) ((rd_T46 l0 x11_1).f2.f1)) else (course_Check.j1 k1 l0 x11_1 t122 l0 (l0.length : Int) x11_1 (decide (((rd_T46 l0 x11_1).f1) > 1048576)) ((rd_T46 l0 x11_1).f0) ((rd_T46 l0 x11_1).f1) ((rd_T46 l0 x11_1).f2.f0) ((rd_T46 l0 x11_1).f2.f1)))) = some r := H
              have A6 := Aside0.mk A60
              clear A60
              have HC7 := Aside0.mk H
              clear H
              have p120 : 0 ≤ (x11_1 : Int) := of_decide_eq_true (by first | (with_reducible assumption) | assumption)
              have q120 : x11_1 < (l0.length : Int) := of_decide_eq_true (by first | (with_reducible assumption) | assumption)
              obtain ⟨ad120, e120, hx120_0, hx120_1, hx120_2, hx120_3⟩ := at_T46 HR0.out x11_1 p120 q120
              cases e120
              replace hx120_0 := (HB.out.cell (World.block_lt_of_cell? w _ hx120_0)).trans hx120_0
              replace hx120_1 := (HB.out.cell (World.block_lt_of_cell? w _ hx120_1)).trans hx120_1
              replace hx120_2 := (HB.out.cell (World.block_lt_of_cell? w _ hx120_2)).trans hx120_2
              replace hx120_3 := (HB.out.cell (World.block_lt_of_cell? w _ hx120_3)).trans hx120_3
              replace p120 := eq_true p120
              replace q120 := eq_true q120
              go_upto_region 7 with (first | ((with_reducible refine gate_dst (N := 4) rfl ?_); refine box_event ?hg (N := 4) ?hd (cs := #[.int .i64 0, .int .i64 0, .int .i64 0, .int .i64 0]) (t := 46) ?hr ?_; (case hd => rfl); (case hg => rfl); (case hr => first | (go_simp; done) | (go_simp; rfl)); intro gb121 hg w8 hbox hb; have n0_ := Aside0.mk (below_step (by repeat (first | (with_reducible first | exact HB.out | apply below_alloc | apply pw_below_drewN | apply below_drew1) | exact HB.out)) hb); have n1_ := Aside0.mk (hbox); have n2_ := Aside0.mk ((by rw [hg]; exact (below_size (by repeat (first | (with_reducible first | exact HB.out | apply below_alloc | apply pw_below_drewN | apply below_drew1) | exact HB.out))) : w.heap.size ≤ gb121)); have n3_ := Aside0.mk ((by rw [hg]; exact (below_size (by repeat (first | (with_reducible first | exact HB.out | apply below_alloc | apply pw_below_drewN | apply below_drew1) | exact HB.out))) : w.heap.size ≤ gb121)); clear HB; have HB := n0_; have BK121 := n1_; have GW121 := n2_; have GE121 := n3_; clear n0_ n1_ n2_ n3_; clear hb hbox hg; have hcz9_0 : w8.cell? ⟨gb121, 0, none⟩ = some (.int .i64 0) := (blk_cell BK121.out 0).trans rfl; have hcz9_1 : w8.cell? ⟨gb121, 1, none⟩ = some (.int .i64 0) := (blk_cell BK121.out 1).trans rfl; have hcz9_2 : w8.cell? ⟨gb121, 2, none⟩ = some (.int .i64 0) := (blk_cell BK121.out 2).trans rfl; have hcz9_3 : w8.cell? ⟨gb121, 3, none⟩ = some (.int .i64 0) := (blk_cell BK121.out 3).trans rfl; have hfz9_0 := blk_frozen BK121.out 0; have hfz9_1 := blk_frozen BK121.out 1; have hfz9_2 := blk_frozen BK121.out 2; have hfz9_3 := blk_frozen BK121.out 3) | (go_at_call 59; (with_reducible refine (unit_Check.calls ((rd_T46 l0 x11_1).f2.f0) ((rd_T46 l0 x11_1).f2.f1) t122 _ A6.out).mono ?_); rintro e w10 ⟨rfl, hb⟩; have n0_ := Aside0.mk (blk_below (g := gb121) (o := .cells #[.int .i64 ((rd_T46 l0 x11_1).f0), .int .i64 ((rd_T46 l0 x11_1).f1), .int .i64 ((rd_T46 l0 x11_1).f2.f0), .int .i64 ((rd_T46 l0 x11_1).f2.f1)] 46 (0, 0)) (by (with_reducible repeat (first | refine blk_drewN ?_ _ | refine blk_drew ?_ | refine blk_alloc ?_ _)); refine blk_put (cs := #[.int .i64 ((rd_T46 l0 x11_1).f0), .int .i64 ((rd_T46 l0 x11_1).f1), .int .i64 ((rd_T46 l0 x11_1).f2.f0), .int .i64 0]) ?_ 3 _ rfl; (with_reducible repeat (first | refine blk_drewN ?_ _ | refine blk_drew ?_ | refine blk_alloc ?_ _)); refine blk_put (cs := #[.int .i64 ((rd_T46 l0 x11_1).f0), .int .i64 ((rd_T46 l0 x11_1).f1), .int .i64 0, .int .i64 0]) ?_ 2 _ rfl; (with_reducible repeat (first | refine blk_drewN ?_ _ | refine blk_drew ?_ | refine blk_alloc ?_ _)); refine blk_put (cs := #[.int .i64 ((rd_T46 l0 x11_1).f0), .int .i64 0, .int .i64 0, .int .i64 0]) ?_ 1 _ rfl; (with_reducible repeat (first | refine blk_drewN ?_ _ | refine blk_drew ?_ | refine blk_alloc ?_ _)); refine blk_put (cs := #[.int .i64 0, .int .i64 0, .int .i64 0, .int .i64 0]) ?_ 0 _ rfl; (with_reducible repeat (first | refine blk_drewN ?_ _ | refine blk_drew ?_ | refine blk_alloc ?_ _)); exact BK121.out) hb); have n1_ := Aside0.mk (below_step (by repeat (first | (with_reducible first | exact HB.out | apply below_alloc | apply pw_below_drewN | apply below_drew1 | refine below_set ?_ GE121.out) | exact HB.out)) hb); clear BK121; clear HB; have BK121 := n0_; have HB := n1_; clear n0_ n1_; (try clear hb); (try clear hb2); (try clear hk); (try clear hi)))
              repeat (go_quiet (first | ((with_reducible refine gate_dst (N := 4) rfl ?_); refine box_event ?hg (N := 4) ?hd (cs := #[.int .i64 0, .int .i64 0, .int .i64 0, .int .i64 0]) (t := 46) ?hr ?_; (case hd => rfl); (case hg => rfl); (case hr => first | (go_simp; done) | (go_simp; rfl)); intro gb121 hg w8 hbox hb; have n0_ := Aside0.mk (below_step (by repeat (first | (with_reducible first | exact HB.out | apply below_alloc | apply pw_below_drewN | apply below_drew1) | exact HB.out)) hb); have n1_ := Aside0.mk (hbox); have n2_ := Aside0.mk ((by rw [hg]; exact (below_size (by repeat (first | (with_reducible first | exact HB.out | apply below_alloc | apply pw_below_drewN | apply below_drew1) | exact HB.out))) : w.heap.size ≤ gb121)); have n3_ := Aside0.mk ((by rw [hg]; exact (below_size (by repeat (first | (with_reducible first | exact HB.out | apply below_alloc | apply pw_below_drewN | apply below_drew1) | exact HB.out))) : w.heap.size ≤ gb121)); clear HB; have HB := n0_; have BK121 := n1_; have GW121 := n2_; have GE121 := n3_; clear n0_ n1_ n2_ n3_; clear hb hbox hg; have hcz9_0 : w8.cell? ⟨gb121, 0, none⟩ = some (.int .i64 0) := (blk_cell BK121.out 0).trans rfl; have hcz9_1 : w8.cell? ⟨gb121, 1, none⟩ = some (.int .i64 0) := (blk_cell BK121.out 1).trans rfl; have hcz9_2 : w8.cell? ⟨gb121, 2, none⟩ = some (.int .i64 0) := (blk_cell BK121.out 2).trans rfl; have hcz9_3 : w8.cell? ⟨gb121, 3, none⟩ = some (.int .i64 0) := (blk_cell BK121.out 3).trans rfl; have hfz9_0 := blk_frozen BK121.out 0; have hfz9_1 := blk_frozen BK121.out 1; have hfz9_2 := blk_frozen BK121.out 2; have hfz9_3 := blk_frozen BK121.out 3) | (go_at_call 59; (with_reducible refine (unit_Check.calls ((rd_T46 l0 x11_1).f2.f0) ((rd_T46 l0 x11_1).f2.f1) t122 _ A6.out).mono ?_); rintro e w10 ⟨rfl, hb⟩; have n0_ := Aside0.mk (blk_below (g := gb121) (o := .cells #[.int .i64 ((rd_T46 l0 x11_1).f0), .int .i64 ((rd_T46 l0 x11_1).f1), .int .i64 ((rd_T46 l0 x11_1).f2.f0), .int .i64 ((rd_T46 l0 x11_1).f2.f1)] 46 (0, 0)) (by (with_reducible repeat (first | refine blk_drewN ?_ _ | refine blk_drew ?_ | refine blk_alloc ?_ _)); refine blk_put (cs := #[.int .i64 ((rd_T46 l0 x11_1).f0), .int .i64 ((rd_T46 l0 x11_1).f1), .int .i64 ((rd_T46 l0 x11_1).f2.f0), .int .i64 0]) ?_ 3 _ rfl; (with_reducible repeat (first | refine blk_drewN ?_ _ | refine blk_drew ?_ | refine blk_alloc ?_ _)); refine blk_put (cs := #[.int .i64 ((rd_T46 l0 x11_1).f0), .int .i64 ((rd_T46 l0 x11_1).f1), .int .i64 0, .int .i64 0]) ?_ 2 _ rfl; (with_reducible repeat (first | refine blk_drewN ?_ _ | refine blk_drew ?_ | refine blk_alloc ?_ _)); refine blk_put (cs := #[.int .i64 ((rd_T46 l0 x11_1).f0), .int .i64 0, .int .i64 0, .int .i64 0]) ?_ 1 _ rfl; (with_reducible repeat (first | refine blk_drewN ?_ _ | refine blk_drew ?_ | refine blk_alloc ?_ _)); refine blk_put (cs := #[.int .i64 0, .int .i64 0, .int .i64 0, .int .i64 0]) ?_ 0 _ rfl; (with_reducible repeat (first | refine blk_drewN ?_ _ | refine blk_drew ?_ | refine blk_alloc ?_ _)); exact BK121.out) hb); have n1_ := Aside0.mk (below_step (by repeat (first | (with_reducible first | exact HB.out | apply below_alloc | apply pw_below_drewN | apply below_drew1 | refine below_set ?_ GE121.out) | exact HB.out)) hb); clear BK121; clear HB; have BK121 := n0_; have HB := n1_; clear n0_ n1_; (try clear hb); (try clear hb2); (try clear hk); (try clear hi))); go_upto_region 7 with (first | ((with_reducible refine gate_dst (N := 4) rfl ?_); refine box_event ?hg (N := 4) ?hd (cs := #[.int .i64 0, .int .i64 0, .int .i64 0, .int .i64 0]) (t := 46) ?hr ?_; (case hd => rfl); (case hg => rfl); (case hr => first | (go_simp; done) | (go_simp; rfl)); intro gb121 hg w8 hbox hb; have n0_ := Aside0.mk (below_step (by repeat (first | (with_reducible first | exact HB.out | apply below_alloc | apply pw_below_drewN | apply below_drew1) | exact HB.out)) hb); have n1_ := Aside0.mk (hbox); have n2_ := Aside0.mk ((by rw [hg]; exact (below_size (by repeat (first | (with_reducible first | exact HB.out | apply below_alloc | apply pw_below_drewN | apply below_drew1) | exact HB.out))) : w.heap.size ≤ gb121)); have n3_ := Aside0.mk ((by rw [hg]; exact (below_size (by repeat (first | (with_reducible first | exact HB.out | apply below_alloc | apply pw_below_drewN | apply below_drew1) | exact HB.out))) : w.heap.size ≤ gb121)); clear HB; have HB := n0_; have BK121 := n1_; have GW121 := n2_; have GE121 := n3_; clear n0_ n1_ n2_ n3_; clear hb hbox hg; have hcz9_0 : w8.cell? ⟨gb121, 0, none⟩ = some (.int .i64 0) := (blk_cell BK121.out 0).trans rfl; have hcz9_1 : w8.cell? ⟨gb121, 1, none⟩ = some (.int .i64 0) := (blk_cell BK121.out 1).trans rfl; have hcz9_2 : w8.cell? ⟨gb121, 2, none⟩ = some (.int .i64 0) := (blk_cell BK121.out 2).trans rfl; have hcz9_3 : w8.cell? ⟨gb121, 3, none⟩ = some (.int .i64 0) := (blk_cell BK121.out 3).trans rfl; have hfz9_0 := blk_frozen BK121.out 0; have hfz9_1 := blk_frozen BK121.out 1; have hfz9_2 := blk_frozen BK121.out 2; have hfz9_3 := blk_frozen BK121.out 3) | (go_at_call 59; (with_reducible refine (unit_Check.calls ((rd_T46 l0 x11_1).f2.f0) ((rd_T46 l0 x11_1).f2.f1) t122 _ A6.out).mono ?_); rintro e w10 ⟨rfl, hb⟩; have n0_ := Aside0.mk (blk_below (g := gb121) (o := .cells #[.int .i64 ((rd_T46 l0 x11_1).f0), .int .i64 ((rd_T46 l0 x11_1).f1), .int .i64 ((rd_T46 l0 x11_1).f2.f0), .int .i64 ((rd_T46 l0 x11_1).f2.f1)] 46 (0, 0)) (by (with_reducible repeat (first | refine blk_drewN ?_ _ | refine blk_drew ?_ | refine blk_alloc ?_ _)); refine blk_put (cs := #[.int .i64 ((rd_T46 l0 x11_1).f0), .int .i64 ((rd_T46 l0 x11_1).f1), .int .i64 ((rd_T46 l0 x11_1).f2.f0), .int .i64 0]) ?_ 3 _ rfl; (with_reducible repeat (first | refine blk_drewN ?_ _ | refine blk_drew ?_ | refine blk_alloc ?_ _)); refine blk_put (cs := #[.int .i64 ((rd_T46 l0 x11_1).f0), .int .i64 ((rd_T46 l0 x11_1).f1), .int .i64 0, .int .i64 0]) ?_ 2 _ rfl; (with_reducible repeat (first | refine blk_drewN ?_ _ | refine blk_drew ?_ | refine blk_alloc ?_ _)); refine blk_put (cs := #[.int .i64 ((rd_T46 l0 x11_1).f0), .int .i64 0, .int .i64 0, .int .i64 0]) ?_ 1 _ rfl; (with_reducible repeat (first | refine blk_drewN ?_ _ | refine blk_drew ?_ | refine blk_alloc ?_ _)); refine blk_put (cs := #[.int .i64 0, .int .i64 0, .int .i64 0, .int .i64 0]) ?_ 0 _ rfl; (with_reducible repeat (first | refine blk_drewN ?_ _ | refine blk_drew ?_ | refine blk_alloc ?_ _)); exact BK121.out) hb); have n1_ := Aside0.mk (below_step (by repeat (first | (with_reducible first | exact HB.out | apply below_alloc | apply pw_below_drewN | apply below_drew1 | refine below_set ?_ GE121.out) | exact HB.out)) hb); clear BK121; clear HB; have BK121 := n0_; have HB := n1_; clear n0_ n1_; (try clear hb); (try clear hb2); (try clear hk); (try clear hi))))
              (try simp only [Act.put, List.setIfInBounds_toArray, List.set_cons_zero, List.set_cons_succ])
              go_cut [19] (fun v19 wc => ∃ (kq : Nat) (x19_6 : Bool), v19 = .bool x19_6 ∧ Aside0 (course_Check.j1 kq l0 x11_1 t122 l0 (l0.length : Int) x11_1 x19_6 ((rd_T46 l0 x11_1).f0) ((rd_T46 l0 x11_1).f1) ((rd_T46 l0 x11_1).f2.f0) ((rd_T46 l0 x11_1).f2.f1) = some r) ∧ Aside0 (kq ≤ k1) ∧ Aside0 (wc.heap[gb121]? = some (.cells #[.int .i64 ((rd_T46 l0 x11_1).f0), .int .i64 ((rd_T46 l0 x11_1).f1), .int .i64 ((rd_T46 l0 x11_1).f2.f0), .int .i64 ((rd_T46 l0 x11_1).f2.f1)] 46 (0, 0))) ∧ Aside0 (Below w.heap.size w wc))
              case first =>
                have H := HC7.out
                clear HC7
                by_cases c11 : ((rd_T46 l0 x11_1).f0) < 0
                · rw [if_pos c11] at H
                  have c11b0 : decide (((rd_T46 l0 x11_1).f0) < 0) = true := decide_eq_true c11
                  clear c11
                  (first | rw [c11b0] | (simp only [i64_w, i32_w]; rw [c11b0]) | skip)
                  have H' := Aside0.mk H
                  clear H
                  have hcz12_0 : w10.cell? ⟨gb121, 0, none⟩ = some (.int .i64 ((rd_T46 l0 x11_1).f0)) := (blk_cell BK121.out 0).trans rfl
                  have hcz12_1 : w10.cell? ⟨gb121, 1, none⟩ = some (.int .i64 ((rd_T46 l0 x11_1).f1)) := (blk_cell BK121.out 1).trans rfl
                  have hcz12_2 : w10.cell? ⟨gb121, 2, none⟩ = some (.int .i64 ((rd_T46 l0 x11_1).f2.f0)) := (blk_cell BK121.out 2).trans rfl
                  have hcz12_3 : w10.cell? ⟨gb121, 3, none⟩ = some (.int .i64 ((rd_T46 l0 x11_1).f2.f1)) := (blk_cell BK121.out 3).trans rfl
                  have hfz12_0 := blk_frozen BK121.out 0
                  have hfz12_1 := blk_frozen BK121.out 1
                  have hfz12_2 := blk_frozen BK121.out 2
                  have hfz12_3 := blk_frozen BK121.out 3
                  go_wp2
                  repeat (go_quiet (fail); try go_wp2)
                  go_meet
                  case rel => exact ⟨_, (true), (by first | rfl | (simp; done) | (simp [*]; done)), H', ⟨by have := HK1.out; first | omega | exact Nat.le_refl _⟩, ⟨by (with_reducible repeat (first | refine blk_drewN ?_ _ | refine blk_drew ?_ | refine blk_alloc ?_ _)); exact BK121.out⟩, ⟨by repeat (first | (with_reducible first | exact HB.out | apply below_alloc | apply pw_below_drewN | apply below_drew1 | refine below_set ?_ GE121.out) | exact HB.out)⟩⟩
                · rw [if_neg c11] at H
                  have c11b0 : decide (((rd_T46 l0 x11_1).f0) < 0) = false := decide_eq_false c11
                  clear c11
                  (first | rw [c11b0] | (simp only [i64_w, i32_w]; rw [c11b0]) | skip)
                  by_cases c13 : ((rd_T46 l0 x11_1).f0) ≥ ((rd_T46 l0 x11_1).f1)
                  · rw [if_pos c13] at H
                    have c13b0 : decide (((rd_T46 l0 x11_1).f1) ≤ ((rd_T46 l0 x11_1).f0)) = true := decide_eq_true c13
                    clear c13
                    have H' := Aside0.mk H
                    clear H
                    have hcz14_0 : w10.cell? ⟨gb121, 0, none⟩ = some (.int .i64 ((rd_T46 l0 x11_1).f0)) := (blk_cell BK121.out 0).trans rfl
                    have hcz14_1 : w10.cell? ⟨gb121, 1, none⟩ = some (.int .i64 ((rd_T46 l0 x11_1).f1)) := (blk_cell BK121.out 1).trans rfl
                    have hcz14_2 : w10.cell? ⟨gb121, 2, none⟩ = some (.int .i64 ((rd_T46 l0 x11_1).f2.f0)) := (blk_cell BK121.out 2).trans rfl
                    have hcz14_3 : w10.cell? ⟨gb121, 3, none⟩ = some (.int .i64 ((rd_T46 l0 x11_1).f2.f1)) := (blk_cell BK121.out 3).trans rfl
                    have hfz14_0 := blk_frozen BK121.out 0
                    have hfz14_1 := blk_frozen BK121.out 1
                    have hfz14_2 := blk_frozen BK121.out 2
                    have hfz14_3 := blk_frozen BK121.out 3
                    go_wp2
                    repeat (go_quiet (fail); try go_wp2)
                    go_meet
                    case rel => exact ⟨_, (true), (by first | rfl | (simp; done) | (simp [*]; done)), H', ⟨by have := HK1.out; first | omega | exact Nat.le_refl _⟩, ⟨by (with_reducible repeat (first | refine blk_drewN ?_ _ | refine blk_drew ?_ | refine blk_alloc ?_ _)); exact BK121.out⟩, ⟨by repeat (first | (with_reducible first | exact HB.out | apply below_alloc | apply pw_below_drewN | apply below_drew1 | refine below_set ?_ GE121.out) | exact HB.out)⟩⟩
                  · rw [if_neg c13] at H
                    have c13b0 : decide (((rd_T46 l0 x11_1).f1) ≤ ((rd_T46 l0 x11_1).f0)) = false := decide_eq_false c13
                    clear c13
                    have H' := Aside0.mk H
                    clear H
                    have hcz15_0 : w10.cell? ⟨gb121, 0, none⟩ = some (.int .i64 ((rd_T46 l0 x11_1).f0)) := (blk_cell BK121.out 0).trans rfl
                    have hcz15_1 : w10.cell? ⟨gb121, 1, none⟩ = some (.int .i64 ((rd_T46 l0 x11_1).f1)) := (blk_cell BK121.out 1).trans rfl
                    have hcz15_2 : w10.cell? ⟨gb121, 2, none⟩ = some (.int .i64 ((rd_T46 l0 x11_1).f2.f0)) := (blk_cell BK121.out 2).trans rfl
                    have hcz15_3 : w10.cell? ⟨gb121, 3, none⟩ = some (.int .i64 ((rd_T46 l0 x11_1).f2.f1)) := (blk_cell BK121.out 3).trans rfl
                    have hfz15_0 := blk_frozen BK121.out 0
                    have hfz15_1 := blk_frozen BK121.out 1
                    have hfz15_2 := blk_frozen BK121.out 2
                    have hfz15_3 := blk_frozen BK121.out 3
                    go_wp2
                    repeat (go_quiet (fail); try go_wp2)
                    go_meet
                    case rel => exact ⟨_, (decide (((rd_T46 l0 x11_1).f1) > 1048576)), (by first | rfl | (simp; done) | (simp [*]; done)), H', ⟨by have := HK1.out; first | omega | exact Nat.le_refl _⟩, ⟨by (with_reducible repeat (first | refine blk_drewN ?_ _ | refine blk_drew ?_ | refine blk_alloc ?_ _)); exact BK121.out⟩, ⟨by repeat (first | (with_reducible first | exact HB.out | apply below_alloc | apply pw_below_drewN | apply below_drew1 | refine below_set ?_ GE121.out) | exact HB.out)⟩⟩
              case rest =>
                clear HC7
                try clear c1
                try clear p1
                try clear q1
                try clear hx1
                try clear c2
                try clear c2b0
                try clear c2b1
                try clear p2
                try clear c3
                try clear c3b0
                try clear c4
                try clear c4b0
                try clear c5
                try clear c5b0
                try clear c11
                try clear c11b0
                try clear p12
                try clear q12
                try clear hx12
                try clear c13
                try clear c13b0
                try clear hcz12_0
                try clear hcz12_1
                try clear hcz12_2
                try clear hcz12_3
                try clear hcz14_0
                try clear hcz14_1
                try clear hcz14_2
                try clear hcz14_3
                try clear hcz15_0
                try clear hcz15_1
                try clear hcz15_2
                try clear hcz15_3
                try clear hcz9_0
                try clear hcz9_1
                try clear hcz9_2
                try clear hcz9_3
                try clear hfz12_0
                try clear hfz12_1
                try clear hfz12_2
                try clear hfz12_3
                try clear hfz14_0
                try clear hfz14_1
                try clear hfz14_2
                try clear hfz14_3
                try clear hfz15_0
                try clear hfz15_1
                try clear hfz15_2
                try clear hfz15_3
                try clear hfz9_0
                try clear hfz9_1
                try clear hfz9_2
                try clear hfz9_3
                try clear hx120_0
                try clear hx120_1
                try clear hx120_2
                try clear hx120_3
                try clear p120
                try clear p2
                try clear q120
                obtain ⟨kq, x19_6, rfl, HA, HJ6, BK121, HB⟩ := hcut
                cases kq with
                | zero => exact absurd HA.out (by simp [course_Check.j1])
                | succ kj6 =>
                  have H := HA.out
                  clear HA
                  simp only [course_Check.j1] at H
                  by_cases c16 : x19_6 = true
                  · subst c16
                    have H1 : (some 1) = some r := by rw [if_pos rfl] at H; exact H
                    clear H
                    have H := H1
                    clear H1
                    obtain rfl := Option.some.inj H
                    go_wp2
                    repeat (go_quiet (fail); try go_wp2)
                    go_ret
                    exact ⟨by first | rfl | (simp [errW_none, errW_some] <;> rfl) | (simp [*, errW_none, errW_some] <;> rfl), by repeat (first | (with_reducible first | exact HB.out | apply below_alloc | apply pw_below_drewN | apply below_drew1 | refine below_set ?_ GE121.out) | exact HB.out)⟩
                  · replace c16 := Bool.eq_false_iff.mpr c16
                    subst c16
                    have H1 : (if t122 = 0 then (if ((rd_T46 l0 x11_1).f2.f0) = 0 then (some 16) else (if x11_1 > 0 then (if 0 ≤ (wrap64 (x11_1 - 1)) then (if (wrap64 (x11_1 - 1)) < (l0.length : Int) then (course_Check.j2 kj6 l0 x11_1 l0 (l0.length : Int) x11_1 (decide (((rd_T46 l0 x11_1).f0) < ((rd_T46 l0 (wrap64 (x11_1 - 1))).f1))) ((rd_T46 l0 x11_1).f0) ((rd_T46 l0 x11_1).f1) ((rd_T46 l0 x11_1).f2.f0) ((rd_T46 l0 x11_1).f2.f1)) else (none)) else (none)) else (course_Check.j2 kj6 l0 x11_1 l0 (l0.length : Int) x11_1 false ((rd_T46 l0 x11_1).f0) ((rd_T46 l0 x11_1).f1) ((rd_T46 l0 x11_1).f2.f0) ((rd_T46 l0 x11_1).f2.f1)))) else (some t122)) = some r := by rw [if_neg (show ¬ (false = true) by decide)] at H; exact H
                    clear H
                    have H := H1
                    clear H1
                    by_cases c17 : t122 = 0
                    · rw [if_pos c17] at H
                      have c17b0 : (t122 == 0) = true := beq_iff_eq.mpr c17
                      have c17b1 : (t122 != 0) = false := bne_eq_false_iff_eq.mpr c17
                      clear c17
                      by_cases c18 : ((rd_T46 l0 x11_1).f2.f0) = 0
                      · rw [if_pos c18] at H
                        have c18b0 : (((rd_T46 l0 x11_1).f2.f0) == 0) = true := beq_iff_eq.mpr c18
                        have c18b1 : (((rd_T46 l0 x11_1).f2.f0) != 0) = false := bne_eq_false_iff_eq.mpr c18
                        clear c18
                        obtain rfl := Option.some.inj H
                        have hcz19_0 : wc.cell? ⟨gb121, 0, none⟩ = some (.int .i64 ((rd_T46 l0 x11_1).f0)) := (blk_cell BK121.out 0).trans rfl
                        have hcz19_1 : wc.cell? ⟨gb121, 1, none⟩ = some (.int .i64 ((rd_T46 l0 x11_1).f1)) := (blk_cell BK121.out 1).trans rfl
                        have hcz19_2 : wc.cell? ⟨gb121, 2, none⟩ = some (.int .i64 ((rd_T46 l0 x11_1).f2.f0)) := (blk_cell BK121.out 2).trans rfl
                        have hcz19_3 : wc.cell? ⟨gb121, 3, none⟩ = some (.int .i64 ((rd_T46 l0 x11_1).f2.f1)) := (blk_cell BK121.out 3).trans rfl
                        have hfz19_0 := blk_frozen BK121.out 0
                        have hfz19_1 := blk_frozen BK121.out 1
                        have hfz19_2 := blk_frozen BK121.out 2
                        have hfz19_3 := blk_frozen BK121.out 3
                        go_wp2
                        repeat (go_quiet (fail); try go_wp2)
                        go_ret
                        exact ⟨by first | rfl | (simp [errW_none, errW_some] <;> rfl) | (simp [*, errW_none, errW_some] <;> rfl), by repeat (first | (with_reducible first | exact HB.out | apply below_alloc | apply pw_below_drewN | apply below_drew1 | refine below_set ?_ GE121.out) | exact HB.out)⟩
                      · rw [if_neg c18] at H
                        have c18b0 : (((rd_T46 l0 x11_1).f2.f0) == 0) = false := beq_eq_false_iff_ne.mpr c18
                        have c18b1 : (((rd_T46 l0 x11_1).f2.f0) != 0) = true := bne_iff_ne.mpr c18
                        have HC20 := Aside0.mk H
                        clear H
                        have hcz21_0 : wc.cell? ⟨gb121, 0, none⟩ = some (.int .i64 ((rd_T46 l0 x11_1).f0)) := (blk_cell BK121.out 0).trans rfl
                        have hcz21_1 : wc.cell? ⟨gb121, 1, none⟩ = some (.int .i64 ((rd_T46 l0 x11_1).f1)) := (blk_cell BK121.out 1).trans rfl
                        have hcz21_2 : wc.cell? ⟨gb121, 2, none⟩ = some (.int .i64 ((rd_T46 l0 x11_1).f2.f0)) := (blk_cell BK121.out 2).trans rfl
                        have hcz21_3 : wc.cell? ⟨gb121, 3, none⟩ = some (.int .i64 ((rd_T46 l0 x11_1).f2.f1)) := (blk_cell BK121.out 3).trans rfl
                        have hfz21_0 := blk_frozen BK121.out 0
                        have hfz21_1 := blk_frozen BK121.out 1
                        have hfz21_2 := blk_frozen BK121.out 2
                        have hfz21_3 := blk_frozen BK121.out 3
                        go_upto_region 13 with (fail)
                        repeat (go_quiet (fail); go_upto_region 13 with (fail))
                        go_cut [44] (fun v44 wc => ∃ (kq : Nat) (x44_19 : Bool), v44 = .bool x44_19 ∧ Aside0 (course_Check.j2 kq l0 x11_1 l0 (l0.length : Int) x11_1 x44_19 ((rd_T46 l0 x11_1).f0) ((rd_T46 l0 x11_1).f1) ((rd_T46 l0 x11_1).f2.f0) ((rd_T46 l0 x11_1).f2.f1) = some r) ∧ Aside0 (kq ≤ kj6) ∧ Aside0 (wc.heap[gb121]? = some (.cells #[.int .i64 ((rd_T46 l0 x11_1).f0), .int .i64 ((rd_T46 l0 x11_1).f1), .int .i64 ((rd_T46 l0 x11_1).f2.f0), .int .i64 ((rd_T46 l0 x11_1).f2.f1)] 46 (0, 0))) ∧ Aside0 (Below w.heap.size w wc))
                        case first =>
                          have H := HC20.out
                          clear HC20
                          by_cases c22 : x11_1 > 0
                          · rw [if_pos c22] at H
                            have c22b0 : decide (0 < x11_1) = true := decide_eq_true c22
                            clear c22
                            (first | rw [c22b0] | (simp only [i64_w, i32_w]; rw [c22b0]) | skip)
                            obtain ⟨ji23, hji23⟩ : ∃ j_ : Int, (wrap64 (x11_1 - 1)) = j_ := ⟨_, rfl⟩
                            replace H : (if 0 ≤ (ji23) then (if (ji23) < (l0.length : Int) then (course_Check.j2 kj6 l0 x11_1 l0 (l0.length : Int) x11_1 (decide (((rd_T46 l0 x11_1).f0) < ((rd_T46 l0 (ji23)).f1))) ((rd_T46 l0 x11_1).f0) ((rd_T46 l0 x11_1).f1) ((rd_T46 l0 x11_1).f2.f0) ((rd_T46 l0 x11_1).f2.f1)) else (none)) else (none)) = some r := by first | (rw [hji23] at H; exact H) | (simp only [hji23] at H ⊢; exact H)
                            have hji23w : (IntKind.i64.wrap (x11_1 - 1)) = ji23 := (i64_w _).trans hji23
                            by_cases c24 : 0 ≤ (ji23)
                            · rw [if_pos c24] at H
                              have c24b0 : decide (0 ≤ (ji23)) = true := decide_eq_true c24
                              clear c24
                              by_cases c25 : (ji23) < (l0.length : Int)
                              · rw [if_pos c25] at H
                                have c25b0 : decide ((ji23) < (l0.length : Int)) = true := decide_eq_true c25
                                clear c25
                                have H' := Aside0.mk H
                                clear H
                                have hcz26_0 : wc.cell? ⟨gb121, 0, none⟩ = some (.int .i64 ((rd_T46 l0 x11_1).f0)) := (blk_cell BK121.out 0).trans rfl
                                have hcz26_1 : wc.cell? ⟨gb121, 1, none⟩ = some (.int .i64 ((rd_T46 l0 x11_1).f1)) := (blk_cell BK121.out 1).trans rfl
                                have hcz26_2 : wc.cell? ⟨gb121, 2, none⟩ = some (.int .i64 ((rd_T46 l0 x11_1).f2.f0)) := (blk_cell BK121.out 2).trans rfl
                                have hcz26_3 : wc.cell? ⟨gb121, 3, none⟩ = some (.int .i64 ((rd_T46 l0 x11_1).f2.f1)) := (blk_cell BK121.out 3).trans rfl
                                have hfz26_0 := blk_frozen BK121.out 0
                                have hfz26_1 := blk_frozen BK121.out 1
                                have hfz26_2 := blk_frozen BK121.out 2
                                have hfz26_3 := blk_frozen BK121.out 3
                                have p123 : 0 ≤ ((ji23) : Int) := of_decide_eq_true (by first | (with_reducible assumption) | assumption)
                                have q123 : (ji23) < (l0.length : Int) := of_decide_eq_true (by first | (with_reducible assumption) | assumption)
                                obtain ⟨ad123, e123, hx123_0, hx123_1, hx123_2, hx123_3⟩ := at_T46 HR0.out (ji23) p123 q123
                                obtain rfl : ad120 = ad123 := (by injection e123)
                                replace hx123_0 := (HB.out.cell (World.block_lt_of_cell? w _ hx123_0)).trans hx123_0
                                replace hx123_1 := (HB.out.cell (World.block_lt_of_cell? w _ hx123_1)).trans hx123_1
                                replace hx123_2 := (HB.out.cell (World.block_lt_of_cell? w _ hx123_2)).trans hx123_2
                                replace hx123_3 := (HB.out.cell (World.block_lt_of_cell? w _ hx123_3)).trans hx123_3
                                replace p123 := eq_true p123
                                replace q123 := eq_true q123
                                go_wp2
                                repeat (go_quiet (fail); try go_wp2)
                                go_meet
                                case rel => exact ⟨_, (decide (((rd_T46 l0 x11_1).f0) < ((rd_T46 l0 (ji23)).f1))), (by first | rfl | (simp; done) | (simp only [← hji23] <;> (first | rfl | simp)) | (simp [*]; done)), H', ⟨by have := HK1.out; have := HJ6.out; first | omega | exact Nat.le_refl _⟩, ⟨by (with_reducible repeat (first | refine blk_drewN ?_ _ | refine blk_drew ?_ | refine blk_alloc ?_ _)); exact BK121.out⟩, ⟨by repeat (first | (with_reducible first | exact HB.out | apply below_alloc | apply pw_below_drewN | apply below_drew1 | refine below_set ?_ GE121.out) | exact HB.out)⟩⟩
                              · rw [if_neg c25] at H
                                exact absurd H (by simp)
                            · rw [if_neg c24] at H
                              exact absurd H (by simp)
                          · rw [if_neg c22] at H
                            have c22b0 : decide (0 < x11_1) = false := decide_eq_false c22
                            clear c22
                            (first | rw [c22b0] | (simp only [i64_w, i32_w]; rw [c22b0]) | skip)
                            have H' := Aside0.mk H
                            clear H
                            go_wp2
                            repeat (go_quiet (fail); try go_wp2)
                            go_meet
                            case rel => exact ⟨_, (false), (by first | rfl | (simp; done) | (simp [*]; done)), H', ⟨by have := HK1.out; have := HJ6.out; first | omega | exact Nat.le_refl _⟩, ⟨by (with_reducible repeat (first | refine blk_drewN ?_ _ | refine blk_drew ?_ | refine blk_alloc ?_ _)); exact BK121.out⟩, ⟨by repeat (first | (with_reducible first | exact HB.out | apply below_alloc | apply pw_below_drewN | apply below_drew1 | refine below_set ?_ GE121.out) | exact HB.out)⟩⟩
                        case rest =>
                          clear HC20
                          try clear c1
                          try clear p1
                          try clear q1
                          try clear hx1
                          try clear c2
                          try clear c2b0
                          try clear c2b1
                          try clear p2
                          try clear c3
                          try clear c3b0
                          try clear c4
                          try clear c4b0
                          try clear c5
                          try clear c5b0
                          try clear p6
                          try clear c11
                          try clear c11b0
                          try clear p12
                          try clear q12
                          try clear hx12
                          try clear c13
                          try clear c13b0
                          try clear c16
                          try clear c17
                          try clear c17b0
                          try clear c17b1
                          try clear c18
                          try clear c18b0
                          try clear c18b1
                          try clear c22
                          try clear c22b0
                          try clear c24
                          try clear c24b0
                          try clear c25
                          try clear c25b0
                          try clear hcz12_0
                          try clear hcz12_1
                          try clear hcz12_2
                          try clear hcz12_3
                          try clear hcz14_0
                          try clear hcz14_1
                          try clear hcz14_2
                          try clear hcz14_3
                          try clear hcz15_0
                          try clear hcz15_1
                          try clear hcz15_2
                          try clear hcz15_3
                          try clear hcz19_0
                          try clear hcz19_1
                          try clear hcz19_2
                          try clear hcz19_3
                          try clear hcz21_0
                          try clear hcz21_1
                          try clear hcz21_2
                          try clear hcz21_3
                          try clear hcz26_0
                          try clear hcz26_1
                          try clear hcz26_2
                          try clear hcz26_3
                          try clear hcz9_0
                          try clear hcz9_1
                          try clear hcz9_2
                          try clear hcz9_3
                          try clear hfz12_0
                          try clear hfz12_1
                          try clear hfz12_2
                          try clear hfz12_3
                          try clear hfz14_0
                          try clear hfz14_1
                          try clear hfz14_2
                          try clear hfz14_3
                          try clear hfz15_0
                          try clear hfz15_1
                          try clear hfz15_2
                          try clear hfz15_3
                          try clear hfz19_0
                          try clear hfz19_1
                          try clear hfz19_2
                          try clear hfz19_3
                          try clear hfz21_0
                          try clear hfz21_1
                          try clear hfz21_2
                          try clear hfz21_3
                          try clear hfz26_0
                          try clear hfz26_1
                          try clear hfz26_2
                          try clear hfz26_3
                          try clear hfz9_0
                          try clear hfz9_1
                          try clear hfz9_2
                          try clear hfz9_3
                          try clear hx120_0
                          try clear hx120_1
                          try clear hx120_2
                          try clear hx120_3
                          try clear hx123_0
                          try clear hx123_1
                          try clear hx123_2
                          try clear hx123_3
                          try clear p1
                          try clear p12
                          try clear p120
                          try clear p123
                          try clear p2
                          try clear q1
                          try clear q12
                          try clear q120
                          try clear q123
                          obtain ⟨kq, x44_19, rfl, HA, HJ19, BK121, HB⟩ := hcut
                          cases kq with
                          | zero => exact absurd HA.out (by simp [course_Check.j2])
                          | succ kj19 =>
                            have H := HA.out
                            clear HA
                            simp only [course_Check.j2] at H
                            by_cases c27 : x44_19 = true
                            · subst c27
                              have H1 : (some 9) = some r := by rw [if_pos rfl] at H; exact H
                              clear H
                              have H := H1
                              clear H1
                              obtain rfl := Option.some.inj H
                              go_wp2
                              repeat (go_quiet (fail); try go_wp2)
                              go_ret
                              exact ⟨by first | rfl | (simp [errW_none, errW_some] <;> rfl) | (simp [*, errW_none, errW_some] <;> rfl), by repeat (first | (with_reducible first | exact HB.out | apply below_alloc | apply pw_below_drewN | apply below_drew1 | refine below_set ?_ GE121.out) | exact HB.out)⟩
                            · replace c27 := Bool.eq_false_iff.mpr c27
                              subst c27
                              have H1 : (if x11_1 > 0 then (if 0 ≤ (wrap64 (x11_1 - 1)) then (if (wrap64 (x11_1 - 1)) < (l0.length : Int) then (if ((rd_T46 l0 x11_1).f0) = ((rd_T46 l0 (wrap64 (x11_1 - 1))).f1) then (if (((rd_T46 l0 x11_1).f2.f0) == ((rd_T46 l0 (wrap64 (x11_1 - 1))).f2.f0) && (((rd_T46 l0 x11_1).f2.f1) == ((rd_T46 l0 (wrap64 (x11_1 - 1))).f2.f1))) = true then (some 3) else (course_Check.l0 kj19 l0 l0 (l0.length : Int) (wrap64 (x11_1 + 1)))) else (course_Check.l0 kj19 l0 l0 (l0.length : Int) (wrap64 (x11_1 + 1)))) else (none)) else (none)) else (course_Check.l0 kj19 l0 l0 (l0.length : Int) (wrap64 (x11_1 + 1)))) = some r := by rw [if_neg (show ¬ (false = true) by decide)] at H; exact H
                              clear H
                              have H := H1
                              clear H1
                              by_cases c28 : x11_1 > 0
                              · rw [if_pos c28] at H
                                have c28b0 : decide (0 < x11_1) = true := decide_eq_true c28
                                clear c28
                                obtain ⟨ji29, hji29⟩ : ∃ j_ : Int, (wrap64 (x11_1 - 1)) = j_ := ⟨_, rfl⟩
                                replace H : (if 0 ≤ (ji29) then (if (ji29) < (l0.length : Int) then (if ((rd_T46 l0 x11_1).f0) = ((rd_T46 l0 (ji29)).f1) then (if (((rd_T46 l0 x11_1).f2.f0) == ((rd_T46 l0 (ji29)).f2.f0) && (((rd_T46 l0 x11_1).f2.f1) == ((rd_T46 l0 (ji29)).f2.f1))) = true then (some 3) else (course_Check.l0 kj19 l0 l0 (l0.length : Int) (wrap64 (x11_1 + 1)))) else (course_Check.l0 kj19 l0 l0 (l0.length : Int) (wrap64 (x11_1 + 1)))) else (none)) else (none)) = some r := by first | (rw [hji29] at H; exact H) | (simp only [hji29] at H ⊢; exact H)
                                have hji29w : (IntKind.i64.wrap (x11_1 - 1)) = ji29 := (i64_w _).trans hji29
                                by_cases c30 : 0 ≤ (ji29)
                                · rw [if_pos c30] at H
                                  have c30b0 : decide (0 ≤ (ji29)) = true := decide_eq_true c30
                                  clear c30
                                  by_cases c31 : (ji29) < (l0.length : Int)
                                  · rw [if_pos c31] at H
                                    have c31b0 : decide ((ji29) < (l0.length : Int)) = true := decide_eq_true c31
                                    clear c31
                                    by_cases c32 : ((rd_T46 l0 x11_1).f0) = ((rd_T46 l0 (ji29)).f1)
                                    · rw [if_pos c32] at H
                                      have c32b0 : (((rd_T46 l0 x11_1).f0) == ((rd_T46 l0 (ji29)).f1)) = true := beq_iff_eq.mpr c32
                                      have c32b1 : (((rd_T46 l0 x11_1).f0) != ((rd_T46 l0 (ji29)).f1)) = false := bne_eq_false_iff_eq.mpr c32
                                      clear c32
                                      by_cases c33 : (((rd_T46 l0 x11_1).f2.f0) == ((rd_T46 l0 (ji29)).f2.f0) && (((rd_T46 l0 x11_1).f2.f1) == ((rd_T46 l0 (ji29)).f2.f1))) = true
                                      · rw [if_pos c33] at H
                                        have c33b0 : (((rd_T46 l0 x11_1).f2.f0) == ((rd_T46 l0 (ji29)).f2.f0) && (((rd_T46 l0 x11_1).f2.f1) == ((rd_T46 l0 (ji29)).f2.f1))) = true := c33
                                        (try (have c33b1 : decide (((rd_T46 l0 x11_1).f2.f0) = ((rd_T46 l0 (ji29)).f2.f0) && (((rd_T46 l0 x11_1).f2.f1) == ((rd_T46 l0 (ji29)).f2.f1))) = true := by simpa using c33))
                                        (try (have c33b2 : (((rd_T46 l0 x11_1).f2.f0) == ((rd_T46 l0 (ji29)).f2.f0) && (((rd_T46 l0 x11_1).f2.f1) == ((rd_T46 l0 (ji29)).f2.f1))) = true := by simpa using c33))
                                        clear c33
                                        obtain rfl := Option.some.inj H
                                        have hcz34_0 : wc.cell? ⟨gb121, 0, none⟩ = some (.int .i64 ((rd_T46 l0 x11_1).f0)) := (blk_cell BK121.out 0).trans rfl
                                        have hcz34_1 : wc.cell? ⟨gb121, 1, none⟩ = some (.int .i64 ((rd_T46 l0 x11_1).f1)) := (blk_cell BK121.out 1).trans rfl
                                        have hcz34_2 : wc.cell? ⟨gb121, 2, none⟩ = some (.int .i64 ((rd_T46 l0 x11_1).f2.f0)) := (blk_cell BK121.out 2).trans rfl
                                        have hcz34_3 : wc.cell? ⟨gb121, 3, none⟩ = some (.int .i64 ((rd_T46 l0 x11_1).f2.f1)) := (blk_cell BK121.out 3).trans rfl
                                        have hfz34_0 := blk_frozen BK121.out 0
                                        have hfz34_1 := blk_frozen BK121.out 1
                                        have hfz34_2 := blk_frozen BK121.out 2
                                        have hfz34_3 := blk_frozen BK121.out 3
                                        have p124 : 0 ≤ ((ji29) : Int) := of_decide_eq_true (by first | (with_reducible assumption) | assumption)
                                        have q124 : (ji29) < (l0.length : Int) := of_decide_eq_true (by first | (with_reducible assumption) | assumption)
                                        obtain ⟨ad124, e124, hx124_0, hx124_1, hx124_2, hx124_3⟩ := at_T46 HR0.out (ji29) p124 q124
                                        obtain rfl : ad120 = ad124 := (by injection e124)
                                        replace hx124_0 := (HB.out.cell (World.block_lt_of_cell? w _ hx124_0)).trans hx124_0
                                        replace hx124_1 := (HB.out.cell (World.block_lt_of_cell? w _ hx124_1)).trans hx124_1
                                        replace hx124_2 := (HB.out.cell (World.block_lt_of_cell? w _ hx124_2)).trans hx124_2
                                        replace hx124_3 := (HB.out.cell (World.block_lt_of_cell? w _ hx124_3)).trans hx124_3
                                        replace p124 := eq_true p124
                                        replace q124 := eq_true q124
                                        have p125 : 0 ≤ ((ji29) : Int) := of_decide_eq_true (by first | (with_reducible assumption) | assumption)
                                        have q125 : (ji29) < (l0.length : Int) := of_decide_eq_true (by first | (with_reducible assumption) | assumption)
                                        obtain ⟨ad125, e125, hx125_0, hx125_1, hx125_2, hx125_3⟩ := at_T46 HR0.out (ji29) p125 q125
                                        obtain rfl : ad120 = ad125 := (by injection e125)
                                        replace hx125_0 := (HB.out.cell (World.block_lt_of_cell? w _ hx125_0)).trans hx125_0
                                        replace hx125_1 := (HB.out.cell (World.block_lt_of_cell? w _ hx125_1)).trans hx125_1
                                        replace hx125_2 := (HB.out.cell (World.block_lt_of_cell? w _ hx125_2)).trans hx125_2
                                        replace hx125_3 := (HB.out.cell (World.block_lt_of_cell? w _ hx125_3)).trans hx125_3
                                        replace p125 := eq_true p125
                                        replace q125 := eq_true q125
                                        go_wp2
                                        repeat (go_quiet (fail); try go_wp2)
                                        go_ret
                                        exact ⟨by first | rfl | (simp [errW_none, errW_some] <;> rfl) | (simp only [← hji29]; first | rfl | (simp [errW_none, errW_some] <;> rfl)) | (simp [*, errW_none, errW_some] <;> rfl), by repeat (first | (with_reducible first | exact HB.out | apply below_alloc | apply pw_below_drewN | apply below_drew1 | refine below_set ?_ GE121.out) | exact HB.out)⟩
                                      · rw [if_neg c33] at H
                                        have c33b0 : (((rd_T46 l0 x11_1).f2.f0) == ((rd_T46 l0 (ji29)).f2.f0) && (((rd_T46 l0 x11_1).f2.f1) == ((rd_T46 l0 (ji29)).f2.f1))) = false := by simpa using c33
                                        (try (have c33b1 : decide (((rd_T46 l0 x11_1).f2.f0) = ((rd_T46 l0 (ji29)).f2.f0) && (((rd_T46 l0 x11_1).f2.f1) == ((rd_T46 l0 (ji29)).f2.f1))) = false := by simpa using c33))
                                        (try (have c33b2 : (((rd_T46 l0 x11_1).f2.f0) == ((rd_T46 l0 (ji29)).f2.f0) && (((rd_T46 l0 x11_1).f2.f1) == ((rd_T46 l0 (ji29)).f2.f1))) = false := by simpa using c33))
                                        (try (have c33b3 : ¬ (((rd_T46 l0 x11_1).f2.f0) = ((rd_T46 l0 (ji29)).f2.f0) && (((rd_T46 l0 x11_1).f2.f1) == ((rd_T46 l0 (ji29)).f2.f1))) := by simpa using c33))
                                        clear c33
                                        have H' := Aside0.mk H
                                        clear H
                                        have hcz35_0 : wc.cell? ⟨gb121, 0, none⟩ = some (.int .i64 ((rd_T46 l0 x11_1).f0)) := (blk_cell BK121.out 0).trans rfl
                                        have hcz35_1 : wc.cell? ⟨gb121, 1, none⟩ = some (.int .i64 ((rd_T46 l0 x11_1).f1)) := (blk_cell BK121.out 1).trans rfl
                                        have hcz35_2 : wc.cell? ⟨gb121, 2, none⟩ = some (.int .i64 ((rd_T46 l0 x11_1).f2.f0)) := (blk_cell BK121.out 2).trans rfl
                                        have hcz35_3 : wc.cell? ⟨gb121, 3, none⟩ = some (.int .i64 ((rd_T46 l0 x11_1).f2.f1)) := (blk_cell BK121.out 3).trans rfl
                                        have hfz35_0 := blk_frozen BK121.out 0
                                        have hfz35_1 := blk_frozen BK121.out 1
                                        have hfz35_2 := blk_frozen BK121.out 2
                                        have hfz35_3 := blk_frozen BK121.out 3
                                        have p124 : 0 ≤ ((ji29) : Int) := of_decide_eq_true (by first | (with_reducible assumption) | assumption)
                                        have q124 : (ji29) < (l0.length : Int) := of_decide_eq_true (by first | (with_reducible assumption) | assumption)
                                        obtain ⟨ad124, e124, hx124_0, hx124_1, hx124_2, hx124_3⟩ := at_T46 HR0.out (ji29) p124 q124
                                        obtain rfl : ad120 = ad124 := (by injection e124)
                                        replace hx124_0 := (HB.out.cell (World.block_lt_of_cell? w _ hx124_0)).trans hx124_0
                                        replace hx124_1 := (HB.out.cell (World.block_lt_of_cell? w _ hx124_1)).trans hx124_1
                                        replace hx124_2 := (HB.out.cell (World.block_lt_of_cell? w _ hx124_2)).trans hx124_2
                                        replace hx124_3 := (HB.out.cell (World.block_lt_of_cell? w _ hx124_3)).trans hx124_3
                                        replace p124 := eq_true p124
                                        replace q124 := eq_true q124
                                        have p125 : 0 ≤ ((ji29) : Int) := of_decide_eq_true (by first | (with_reducible assumption) | assumption)
                                        have q125 : (ji29) < (l0.length : Int) := of_decide_eq_true (by first | (with_reducible assumption) | assumption)
                                        obtain ⟨ad125, e125, hx125_0, hx125_1, hx125_2, hx125_3⟩ := at_T46 HR0.out (ji29) p125 q125
                                        obtain rfl : ad120 = ad125 := (by injection e125)
                                        replace hx125_0 := (HB.out.cell (World.block_lt_of_cell? w _ hx125_0)).trans hx125_0
                                        replace hx125_1 := (HB.out.cell (World.block_lt_of_cell? w _ hx125_1)).trans hx125_1
                                        replace hx125_2 := (HB.out.cell (World.block_lt_of_cell? w _ hx125_2)).trans hx125_2
                                        replace hx125_3 := (HB.out.cell (World.block_lt_of_cell? w _ hx125_3)).trans hx125_3
                                        replace p125 := eq_true p125
                                        replace q125 := eq_true q125
                                        go_wp2
                                        repeat (go_quiet (fail); try go_wp2)
                                        go_roundg kj19
                                        case measure => have := HK1.out; have := HJ6.out; have := HJ19.out; omega
                                        case rel => exact ⟨(wrap64 (x11_1 + 1)), (by first | rfl | (simp; done) | (simp [*]; done)), H', ⟨by have := HK1.out; have := HJ6.out; have := HJ19.out; omega⟩, ⟨by repeat (first | (with_reducible first | exact HB.out | apply below_alloc | apply pw_below_drewN | apply below_drew1 | refine below_set ?_ GE121.out) | exact HB.out)⟩⟩
                                    · rw [if_neg c32] at H
                                      have c32b0 : (((rd_T46 l0 x11_1).f0) == ((rd_T46 l0 (ji29)).f1)) = false := beq_eq_false_iff_ne.mpr c32
                                      have c32b1 : (((rd_T46 l0 x11_1).f0) != ((rd_T46 l0 (ji29)).f1)) = true := bne_iff_ne.mpr c32
                                      have H' := Aside0.mk H
                                      clear H
                                      have hcz36_0 : wc.cell? ⟨gb121, 0, none⟩ = some (.int .i64 ((rd_T46 l0 x11_1).f0)) := (blk_cell BK121.out 0).trans rfl
                                      have hcz36_1 : wc.cell? ⟨gb121, 1, none⟩ = some (.int .i64 ((rd_T46 l0 x11_1).f1)) := (blk_cell BK121.out 1).trans rfl
                                      have hcz36_2 : wc.cell? ⟨gb121, 2, none⟩ = some (.int .i64 ((rd_T46 l0 x11_1).f2.f0)) := (blk_cell BK121.out 2).trans rfl
                                      have hcz36_3 : wc.cell? ⟨gb121, 3, none⟩ = some (.int .i64 ((rd_T46 l0 x11_1).f2.f1)) := (blk_cell BK121.out 3).trans rfl
                                      have hfz36_0 := blk_frozen BK121.out 0
                                      have hfz36_1 := blk_frozen BK121.out 1
                                      have hfz36_2 := blk_frozen BK121.out 2
                                      have hfz36_3 := blk_frozen BK121.out 3
                                      have p124 : 0 ≤ ((ji29) : Int) := of_decide_eq_true (by first | (with_reducible assumption) | assumption)
                                      have q124 : (ji29) < (l0.length : Int) := of_decide_eq_true (by first | (with_reducible assumption) | assumption)
                                      obtain ⟨ad124, e124, hx124_0, hx124_1, hx124_2, hx124_3⟩ := at_T46 HR0.out (ji29) p124 q124
                                      obtain rfl : ad120 = ad124 := (by injection e124)
                                      replace hx124_0 := (HB.out.cell (World.block_lt_of_cell? w _ hx124_0)).trans hx124_0
                                      replace hx124_1 := (HB.out.cell (World.block_lt_of_cell? w _ hx124_1)).trans hx124_1
                                      replace hx124_2 := (HB.out.cell (World.block_lt_of_cell? w _ hx124_2)).trans hx124_2
                                      replace hx124_3 := (HB.out.cell (World.block_lt_of_cell? w _ hx124_3)).trans hx124_3
                                      replace p124 := eq_true p124
                                      replace q124 := eq_true q124
                                      go_wp2
                                      repeat (go_quiet (fail); try go_wp2)
                                      go_roundg kj19
                                      case measure => have := HK1.out; have := HJ6.out; have := HJ19.out; omega
                                      case rel => exact ⟨(wrap64 (x11_1 + 1)), (by first | rfl | (simp; done) | (simp [*]; done)), H', ⟨by have := HK1.out; have := HJ6.out; have := HJ19.out; omega⟩, ⟨by repeat (first | (with_reducible first | exact HB.out | apply below_alloc | apply pw_below_drewN | apply below_drew1 | refine below_set ?_ GE121.out) | exact HB.out)⟩⟩
                                  · rw [if_neg c31] at H
                                    exact absurd H (by simp)
                                · rw [if_neg c30] at H
                                  exact absurd H (by simp)
                              · rw [if_neg c28] at H
                                have c28b0 : decide (0 < x11_1) = false := decide_eq_false c28
                                clear c28
                                have H' := Aside0.mk H
                                clear H
                                go_wp2
                                repeat (go_quiet (fail); try go_wp2)
                                go_roundg kj19
                                case measure => have := HK1.out; have := HJ6.out; have := HJ19.out; omega
                                case rel => exact ⟨(wrap64 (x11_1 + 1)), (by first | rfl | (simp; done) | (simp [*]; done)), H', ⟨by have := HK1.out; have := HJ6.out; have := HJ19.out; omega⟩, ⟨by repeat (first | (with_reducible first | exact HB.out | apply below_alloc | apply pw_below_drewN | apply below_drew1 | refine below_set ?_ GE121.out) | exact HB.out)⟩⟩
                    · rw [if_neg c17] at H
                      have c17b0 : (t122 == 0) = false := beq_eq_false_iff_ne.mpr c17
                      have c17b1 : (t122 != 0) = true := bne_iff_ne.mpr c17
                      obtain rfl := Option.some.inj H
                      go_wp2
                      repeat (go_quiet (fail); try go_wp2)
                      go_ret
                      exact ⟨by first | rfl | (simp [errW_none, errW_some] <;> rfl) | (simp [*, errW_none, errW_some] <;> rfl), by repeat (first | (with_reducible first | exact HB.out | apply below_alloc | apply pw_below_drewN | apply below_drew1 | refine below_set ?_ GE121.out) | exact HB.out)⟩
            · rw [if_neg c5] at H
              exact absurd H (by simp)
          · rw [if_neg c4] at H
            exact absurd H (by simp)
        · rw [if_neg c3] at H
          have c3b0 : decide (x11_1 < (l0.length : Int)) = false := decide_eq_false c3
          clear c3
          obtain rfl := Option.some.inj H
          go_wp2
          repeat (go_quiet (fail); try go_wp2)
          go_ret
          exact ⟨by first | rfl | (simp [errW_none, errW_some] <;> rfl) | (simp [*, errW_none, errW_some] <;> rfl), by repeat (first | (with_reducible first | exact HB.out | apply below_alloc | apply pw_below_drewN | apply below_drew1) | exact HB.out)⟩

end Go.Proofs.Ytdajcnhhfgnbmaa.PCourseSum
