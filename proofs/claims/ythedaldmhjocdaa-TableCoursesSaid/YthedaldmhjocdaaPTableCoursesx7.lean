/- The machine side of a law, written by a program of this session (wip/mp). -/
import Derived.Test.YthedaldmhjocdaaPTableCoursesx0
import Derived.Test.YthedaldmhjocdaaPTableCoursesx1
import Derived.Test.YthedaldmhjocdaaPTableCoursesx6
namespace Go.Proofs.Ythedaldmhjocdaa.PTableCourses
open Go.RowKit Go.Proofs.YthedaldmhjocdaaW.PrintWords Go.Proofs.YthedaldmhjocdaaW.PrintLast Go.Proofs.YthedaldmhjocdaaW.PrintMore
attribute [local go_sem] max2_int min2_int max_two min_two max_three min_three max_four min_four   -- for this text's walks alone
set_option linter.unusedVariables false
set_option linter.unusedSimpArgs false

attribute [local go_sem high] eqA50
attribute [local go_sem] fld50_1
/-! ### course_Check: function 28 -/
mutual
def course_Check.l0 : Nat → List (S52) → List (S52) → Int → Int → Option (Int)
 | 0, _, _, _, _ => none
 | k + 1, x0, x9, x10, x11 => if x11 < x10 then (if 0 ≤ x11 then (if x11 < (x9.length : Int) then ((unit_Check.f ((rd_T52 x9 x11).f2.f0) ((rd_T52 x9 x11).f2.f1)).bind fun t204 => (if ((rd_T52 x9 x11).f0) < 0 then (course_Check.j1 k x0 x11 t204 x9 x10 x11 true ((rd_T52 x9 x11).f0) ((rd_T52 x9 x11).f1) ((rd_T52 x9 x11).f2.f0) ((rd_T52 x9 x11).f2.f1)) else (if ((rd_T52 x9 x11).f0) ≥ ((rd_T52 x9 x11).f1) then (course_Check.j1 k x0 x11 t204 x9 x10 x11 true ((rd_T52 x9 x11).f0) ((rd_T52 x9 x11).f1) ((rd_T52 x9 x11).f2.f0) ((rd_T52 x9 x11).f2.f1)) else (course_Check.j1 k x0 x11 t204 x9 x10 x11 (decide (((rd_T52 x9 x11).f1) > 1048576)) ((rd_T52 x9 x11).f0) ((rd_T52 x9 x11).f1) ((rd_T52 x9 x11).f2.f0) ((rd_T52 x9 x11).f2.f1))))) else (none)) else (none)) else (some 0)
def course_Check.j1 : Nat → List (S52) → Int → Int → List (S52) → Int → Int → Bool → Int → Int → Int → Int → Option (Int)
 | 0, _, _, _, _, _, _, _, _, _, _, _ => none
 | k + 1, x0, x3, x5, x9, x10, x11, x19, x204000, x204001, x204002, x204003 => if x19 = true then (some 1) else (if x5 = 0 then (if x204002 = 0 then (some 16) else (if x3 > 0 then (if 0 ≤ (wrap64 (x3 - 1)) then (if (wrap64 (x3 - 1)) < (x0.length : Int) then (course_Check.j2 k x0 x3 x9 x10 x11 (decide (x204000 < ((rd_T52 x0 (wrap64 (x3 - 1))).f1))) x204000 x204001 x204002 x204003) else (none)) else (none)) else (course_Check.j2 k x0 x3 x9 x10 x11 false x204000 x204001 x204002 x204003))) else (some x5))
def course_Check.j2 : Nat → List (S52) → Int → List (S52) → Int → Int → Bool → Int → Int → Int → Int → Option (Int)
 | 0, _, _, _, _, _, _, _, _, _, _ => none
 | k + 1, x0, x3, x9, x10, x11, x44, x204000, x204001, x204002, x204003 => if x44 = true then (some 9) else (if x3 > 0 then (if 0 ≤ (wrap64 (x3 - 1)) then (if (wrap64 (x3 - 1)) < (x0.length : Int) then (if x204000 = ((rd_T52 x0 (wrap64 (x3 - 1))).f1) then (if (x204002 == ((rd_T52 x0 (wrap64 (x3 - 1))).f2.f0) && (x204003 == ((rd_T52 x0 (wrap64 (x3 - 1))).f2.f1))) = true then (some 3) else (course_Check.l0 k x0 x9 x10 (wrap64 (x11 + 1)))) else (course_Check.l0 k x0 x9 x10 (wrap64 (x11 + 1)))) else (none)) else (none)) else (course_Check.l0 k x0 x9 x10 (wrap64 (x11 + 1))))
end
def course_Check.f (k : Nat) (l0 : List (S52)) : Option (Int) := if (l0.length : Int) > 1000 then (some 2) else (course_Check.l0 k l0 l0 (l0.length : Int) 0)
theorem course_Check.mono_l : ∀ k, (∀ y0 y1 y2 y3, LeO (course_Check.l0 k y0 y1 y2 y3) (course_Check.l0 (k + 1) y0 y1 y2 y3)) ∧ (∀ y0 y1 y2 y3 y4 y5 y6 y7 y8 y9 y10, LeO (course_Check.j1 k y0 y1 y2 y3 y4 y5 y6 y7 y8 y9 y10) (course_Check.j1 (k + 1) y0 y1 y2 y3 y4 y5 y6 y7 y8 y9 y10)) ∧ (∀ y0 y1 y2 y3 y4 y5 y6 y7 y8 y9, LeO (course_Check.j2 k y0 y1 y2 y3 y4 y5 y6 y7 y8 y9) (course_Check.j2 (k + 1) y0 y1 y2 y3 y4 y5 y6 y7 y8 y9))
 | 0 => ⟨fun _ _ _ _ r h => by simp [course_Check.l0] at h, fun _ _ _ _ _ _ _ _ _ _ _ r h => by simp [course_Check.j1] at h, fun _ _ _ _ _ _ _ _ _ _ r h => by simp [course_Check.j2] at h⟩
 | k + 1 => by
  obtain ⟨ih0, ih1, ih2⟩ := course_Check.mono_l k
  refine ⟨?_, ?_, ?_⟩
  ·intro y0 y1 y2 y3
   unfold course_Check.l0
   repeat' first
   | (with_reducible exact ih0 _ _ _ _)
   | (with_reducible exact ih1 _ _ _ _ _ _ _ _ _ _ _)
   | (with_reducible exact ih2 _ _ _ _ _ _ _ _ _ _)
   | (with_reducible exact LeO.refl _)
   | (with_reducible exact LeO.none _)
   | (with_reducible refine LeO.ite ?_ ?_)
   | (with_reducible refine LeO.bind ?_ (fun _ => ?_))
   | exact ih0 _ _ _ _
   | exact ih1 _ _ _ _ _ _ _ _ _ _ _
   | exact ih2 _ _ _ _ _ _ _ _ _ _
   | exact LeO.none _
   | refine LeO.ite ?_ ?_
   | refine LeO.bind ?_ (fun _ => ?_)
  ·intro y0 y1 y2 y3 y4 y5 y6 y7 y8 y9 y10
   unfold course_Check.j1
   repeat' first
   | (with_reducible exact ih0 _ _ _ _)
   | (with_reducible exact ih1 _ _ _ _ _ _ _ _ _ _ _)
   | (with_reducible exact ih2 _ _ _ _ _ _ _ _ _ _)
   | (with_reducible exact LeO.refl _)
   | (with_reducible exact LeO.none _)
   | (with_reducible refine LeO.ite ?_ ?_)
   | (with_reducible refine LeO.bind ?_ (fun _ => ?_))
   | exact ih0 _ _ _ _
   | exact ih1 _ _ _ _ _ _ _ _ _ _ _
   | exact ih2 _ _ _ _ _ _ _ _ _ _
   | exact LeO.none _
   | refine LeO.ite ?_ ?_
   | refine LeO.bind ?_ (fun _ => ?_)
  ·intro y0 y1 y2 y3 y4 y5 y6 y7 y8 y9
   unfold course_Check.j2
   repeat' first
   | (with_reducible exact ih0 _ _ _ _)
   | (with_reducible exact ih1 _ _ _ _ _ _ _ _ _ _ _)
   | (with_reducible exact ih2 _ _ _ _ _ _ _ _ _ _)
   | (with_reducible exact LeO.refl _)
   | (with_reducible exact LeO.none _)
   | (with_reducible refine LeO.ite ?_ ?_)
   | (with_reducible refine LeO.bind ?_ (fun _ => ?_))
   | exact ih0 _ _ _ _
   | exact ih1 _ _ _ _ _ _ _ _ _ _ _
   | exact ih2 _ _ _ _ _ _ _ _ _ _
   | exact LeO.none _
   | refine LeO.ite ?_ ?_
   | refine LeO.bind ?_ (fun _ => ?_)
theorem course_Check.mono : ∀ a0 k, LeO (course_Check.f k a0) (course_Check.f (k + 1) a0) := by
 intro a0 k; obtain ⟨ih0, ih1, ih2⟩ := course_Check.mono_l k; unfold course_Check.f; repeat' first
   | (with_reducible exact ih0 _ _ _ _)
   | (with_reducible exact ih1 _ _ _ _ _ _ _ _ _ _ _)
   | (with_reducible exact ih2 _ _ _ _ _ _ _ _ _ _)
   | (with_reducible exact LeO.refl _)
   | (with_reducible exact LeO.none _)
   | (with_reducible refine LeO.ite ?_ ?_)
   | (with_reducible refine LeO.bind ?_ (fun _ => ?_))
   | exact ih0 _ _ _ _
   | exact ih1 _ _ _ _ _ _ _ _ _ _ _
   | exact ih2 _ _ _ _ _ _ _ _ _ _
   | exact LeO.none _
   | refine LeO.ite ?_ ?_
   | refine LeO.bind ?_ (fun _ => ?_)
set_option maxHeartbeats 8000000 in
set_option maxRecDepth 100000 in
theorem course_Check.calls (k : Nat) (A0 : Option Addr) (c0 : Nat) (l0 : List (S52)) (r : Int) (w : World) (hr0 : Kd.C k52 w A0 l0.length l0) (hc0 : l0.length ≤ c0) (h : course_Check.f k l0 = some r) :
  Calls Try.prog 28 #[.slice A0 l0.length c0] w fun e w' => e = .returned (.int .i64 r) ∧ Below w.heap.size w w' := by
 have hu52 := Try.underlying52; have hu50 := Try.underlying50; have HR0 := Aside0.mk hr0; have HC0 := Aside0.mk hc0; clear hr0 hc0; have HB := Aside0.mk (Below.refl w.heap.size w); have H : (if (l0.length : Int) > 1000 then (some 2) else (course_Check.l0 k l0 l0 (l0.length : Int) 0)) = some r := h; clear h; by_cases c2 : (l0.length : Int) > 1000
 ·rw [if_pos c2] at H; have c2b0 : decide (1000 < (l0.length : Int)) = true := decide_eq_true c2; have c2b1 : decide (1000 < l0.length) = true := decide_eq_true (by omega); clear c2; obtain rfl := Option.some.inj H; go_enter Try.func28, Try.ntmps28; go_wp2; repeat (go_quiet (fail); try go_wp2)
  go_ret; exact ⟨by first | rfl | (simp [errW_none, errW_some] <;> rfl) | (simp [*, errW_none, errW_some] <;> rfl), by repeat (first | (with_reducible first | exact HB.out | apply below_alloc | apply pw_below_drewN | apply below_drew1) | exact HB.out)⟩
 ·rw [if_neg c2] at H; have c2b0 : decide (1000 < (l0.length : Int)) = false := decide_eq_false c2; have c2b1 : decide (1000 < l0.length) = false := decide_eq_false (by omega); clear c2; have H' := Aside0.mk H; clear H; go_enter Try.func28, Try.ntmps28; go_wp2; repeat (go_quiet (fail); try go_wp2)
  go_loopg [11] k (fun kq v11 w' => ∃ (x11_1 : Int), v11 = .int .i64 x11_1 ∧ Aside0 (course_Check.l0 kq l0 l0 (l0.length : Int) x11_1 = some r) ∧ Aside0 (kq ≤ k) ∧ Aside0 (Below w.heap.size w w'))
  case atStart => exact ⟨(0), (by first | rfl | (simp; done) | (simp [*]; done)), H', ⟨Nat.le_refl _⟩, ⟨by repeat (first | (with_reducible first | exact HB.out | apply below_alloc | apply pw_below_drewN | apply below_drew1) | exact HB.out)⟩⟩
  case round =>
   clear H'; (try clear c2); (try clear c2b0); (try clear c2b1); (try clear p2); obtain ⟨x11_1, rfl, HA, HK1, HB⟩ := hrel
   cases gk with
   | zero => exact absurd HA.out (by simp [course_Check.l0])
   | succ k1 =>
    have H := HA.out; clear HA; simp only [course_Check.l0] at H; by_cases c3 : x11_1 < (l0.length : Int)
    ·rw [if_pos c3] at H; have c3b0 : decide (x11_1 < (l0.length : Int)) = true := decide_eq_true c3; clear c3; by_cases c4 : 0 ≤ x11_1
     ·rw [if_pos c4] at H; have c4b0 : decide (0 ≤ x11_1) = true := decide_eq_true c4; clear c4; by_cases c5 : x11_1 < (l0.length : Int)
      ·rw [if_pos c5] at H; have c5b0 : decide (x11_1 < (l0.length : Int)) = true := decide_eq_true c5; clear c5; replace H := Option.bind_eq_some_iff.mp H; obtain ⟨t204, A60, H⟩ := H; replace H : (if ((rd_T52 l0 x11_1).f0) < 0 then (course_Check.j1 k1 l0 x11_1 t204 l0 (l0.length : Int) x11_1 true ((rd_T52 l0 x11_1).f0) ((rd_T52 l0 x11_1).f1) ((rd_T52 l0 x11_1).f2.f0) ((rd_T52 l0 x11_1).f2.f1)) else (if ((rd_T52 l0 x11_1).f0) ≥ ((rd_T52 l0 x11_1).f1) then (course_Check.j1 k1 l0 x11_1 t204 l0 (l0.length : Int) x11_1 true ((rd_T52 l0 x11_1).f0) ((rd_T52 l0 x11_1).f1) ((rd_T52 l0 x11_1).f2.f0) ((rd_T52 l0 x11_1).f2.f1)) else (course_Check.j1 k1 l0 x11_1 t204 l0 (l0.length : Int) x11_1 (decide (((rd_T52 l0 x11_1).f1) > 1048576)) ((rd_T52 l0 x11_1).f0) ((rd_T52 l0 x11_1).f1) ((rd_T52 l0 x11_1).f2.f0) ((rd_T52 l0 x11_1).f2.f1)))) = some r := H; have A6 := Aside0.mk A60; clear A60; have HC7 := Aside0.mk H; clear H; have p202 : 0 ≤ (x11_1 : Int) := of_decide_eq_true (by first | (with_reducible assumption) | assumption); have q202 : x11_1 < (l0.length : Int) := of_decide_eq_true (by first | (with_reducible assumption) | assumption); obtain ⟨ad202, e202, hx202_0, hx202_1, hx202_2, hx202_3⟩ := at_T52 HR0.out x11_1 p202 q202
       cases e202; replace hx202_0 := (HB.out.cell (World.block_lt_of_cell? w _ hx202_0)).trans hx202_0; replace hx202_1 := (HB.out.cell (World.block_lt_of_cell? w _ hx202_1)).trans hx202_1; replace hx202_2 := (HB.out.cell (World.block_lt_of_cell? w _ hx202_2)).trans hx202_2; replace hx202_3 := (HB.out.cell (World.block_lt_of_cell? w _ hx202_3)).trans hx202_3; replace p202 := eq_true p202; replace q202 := eq_true q202; go_upto_region 7 with (first | ((with_reducible refine gate_dst (N := 4) rfl ?_); refine box_event ?hg (N := 4) ?hd (cs := #[.int .i64 0, .int .i64 0, .int .i64 0, .int .i64 0]) (t := 52) ?hr ?_; (case hd => rfl); (case hg => rfl); (case hr => first | (go_simp; done) | (go_simp; rfl)); intro gb203 hg w8 hbox hb; have n0_ := Aside0.mk (below_step (by repeat (first | (with_reducible first | exact HB.out | apply below_alloc | apply pw_below_drewN | apply below_drew1) | exact HB.out)) hb); have n1_ := Aside0.mk (hbox); have n2_ := Aside0.mk ((by rw [hg]; exact (below_size (by repeat (first | (with_reducible first | exact HB.out | apply below_alloc | apply pw_below_drewN | apply below_drew1) | exact HB.out))) : w.heap.size ≤ gb203)); have n3_ := Aside0.mk ((by rw [hg]; exact (below_size (by repeat (first | (with_reducible first | exact HB.out | apply below_alloc | apply pw_below_drewN | apply below_drew1) | exact HB.out))) : w.heap.size ≤ gb203)); clear HB; have HB := n0_; have BK203 := n1_; have GW203 := n2_; have GE203 := n3_; clear n0_ n1_ n2_ n3_; clear hb hbox hg; have hcz9_0 : w8.cell? ⟨gb203, 0, none⟩ = some (.int .i64 0) := (blk_cell BK203.out 0).trans rfl; have hcz9_1 : w8.cell? ⟨gb203, 1, none⟩ = some (.int .i64 0) := (blk_cell BK203.out 1).trans rfl; have hcz9_2 : w8.cell? ⟨gb203, 2, none⟩ = some (.int .i64 0) := (blk_cell BK203.out 2).trans rfl; have hcz9_3 : w8.cell? ⟨gb203, 3, none⟩ = some (.int .i64 0) := (blk_cell BK203.out 3).trans rfl; have hfz9_0 := blk_frozen BK203.out 0; have hfz9_1 := blk_frozen BK203.out 1; have hfz9_2 := blk_frozen BK203.out 2; have hfz9_3 := blk_frozen BK203.out 3) | (go_at_call 66; (with_reducible refine (unit_Check.calls ((rd_T52 l0 x11_1).f2.f0) ((rd_T52 l0 x11_1).f2.f1) t204 _ A6.out).mono ?_); rintro e w10 ⟨rfl, hb⟩; have n0_ := Aside0.mk (blk_below (g := gb203) (o := .cells #[.int .i64 ((rd_T52 l0 x11_1).f0), .int .i64 ((rd_T52 l0 x11_1).f1), .int .i64 ((rd_T52 l0 x11_1).f2.f0), .int .i64 ((rd_T52 l0 x11_1).f2.f1)] 52 (0, 0)) (by (with_reducible repeat (first | refine blk_drewN ?_ _ | refine blk_drew ?_ | refine blk_alloc ?_ _)); refine blk_put (cs := #[.int .i64 ((rd_T52 l0 x11_1).f0), .int .i64 ((rd_T52 l0 x11_1).f1), .int .i64 ((rd_T52 l0 x11_1).f2.f0), .int .i64 0]) ?_ 3 _ rfl; (with_reducible repeat (first | refine blk_drewN ?_ _ | refine blk_drew ?_ | refine blk_alloc ?_ _)); refine blk_put (cs := #[.int .i64 ((rd_T52 l0 x11_1).f0), .int .i64 ((rd_T52 l0 x11_1).f1), .int .i64 0, .int .i64 0]) ?_ 2 _ rfl; (with_reducible repeat (first | refine blk_drewN ?_ _ | refine blk_drew ?_ | refine blk_alloc ?_ _)); refine blk_put (cs := #[.int .i64 ((rd_T52 l0 x11_1).f0), .int .i64 0, .int .i64 0, .int .i64 0]) ?_ 1 _ rfl; (with_reducible repeat (first | refine blk_drewN ?_ _ | refine blk_drew ?_ | refine blk_alloc ?_ _)); refine blk_put (cs := #[.int .i64 0, .int .i64 0, .int .i64 0, .int .i64 0]) ?_ 0 _ rfl; (with_reducible repeat (first | refine blk_drewN ?_ _ | refine blk_drew ?_ | refine blk_alloc ?_ _)); exact BK203.out) hb); have n1_ := Aside0.mk (below_step (by repeat (first | (with_reducible first | exact HB.out | apply below_alloc | apply pw_below_drewN | apply below_drew1 | refine below_set ?_ GE203.out) | exact HB.out)) hb); clear BK203; clear HB; have BK203 := n0_; have HB := n1_; clear n0_ n1_; (try clear hb); (try clear hb2); (try clear hk); (try clear hi))); repeat (go_quiet (first | ((with_reducible refine gate_dst (N := 4) rfl ?_); refine box_event ?hg (N := 4) ?hd (cs := #[.int .i64 0, .int .i64 0, .int .i64 0, .int .i64 0]) (t := 52) ?hr ?_; (case hd => rfl); (case hg => rfl); (case hr => first | (go_simp; done) | (go_simp; rfl)); intro gb203 hg w8 hbox hb; have n0_ := Aside0.mk (below_step (by repeat (first | (with_reducible first | exact HB.out | apply below_alloc | apply pw_below_drewN | apply below_drew1) | exact HB.out)) hb); have n1_ := Aside0.mk (hbox); have n2_ := Aside0.mk ((by rw [hg]; exact (below_size (by repeat (first | (with_reducible first | exact HB.out | apply below_alloc | apply pw_below_drewN | apply below_drew1) | exact HB.out))) : w.heap.size ≤ gb203)); have n3_ := Aside0.mk ((by rw [hg]; exact (below_size (by repeat (first | (with_reducible first | exact HB.out | apply below_alloc | apply pw_below_drewN | apply below_drew1) | exact HB.out))) : w.heap.size ≤ gb203)); clear HB; have HB := n0_; have BK203 := n1_; have GW203 := n2_; have GE203 := n3_; clear n0_ n1_ n2_ n3_; clear hb hbox hg; have hcz9_0 : w8.cell? ⟨gb203, 0, none⟩ = some (.int .i64 0) := (blk_cell BK203.out 0).trans rfl; have hcz9_1 : w8.cell? ⟨gb203, 1, none⟩ = some (.int .i64 0) := (blk_cell BK203.out 1).trans rfl; have hcz9_2 : w8.cell? ⟨gb203, 2, none⟩ = some (.int .i64 0) := (blk_cell BK203.out 2).trans rfl; have hcz9_3 : w8.cell? ⟨gb203, 3, none⟩ = some (.int .i64 0) := (blk_cell BK203.out 3).trans rfl; have hfz9_0 := blk_frozen BK203.out 0; have hfz9_1 := blk_frozen BK203.out 1; have hfz9_2 := blk_frozen BK203.out 2; have hfz9_3 := blk_frozen BK203.out 3) | (go_at_call 66; (with_reducible refine (unit_Check.calls ((rd_T52 l0 x11_1).f2.f0) ((rd_T52 l0 x11_1).f2.f1) t204 _ A6.out).mono ?_); rintro e w10 ⟨rfl, hb⟩; have n0_ := Aside0.mk (blk_below (g := gb203) (o := .cells #[.int .i64 ((rd_T52 l0 x11_1).f0), .int .i64 ((rd_T52 l0 x11_1).f1), .int .i64 ((rd_T52 l0 x11_1).f2.f0), .int .i64 ((rd_T52 l0 x11_1).f2.f1)] 52 (0, 0)) (by (with_reducible repeat (first | refine blk_drewN ?_ _ | refine blk_drew ?_ | refine blk_alloc ?_ _)); refine blk_put (cs := #[.int .i64 ((rd_T52 l0 x11_1).f0), .int .i64 ((rd_T52 l0 x11_1).f1), .int .i64 ((rd_T52 l0 x11_1).f2.f0), .int .i64 0]) ?_ 3 _ rfl; (with_reducible repeat (first | refine blk_drewN ?_ _ | refine blk_drew ?_ | refine blk_alloc ?_ _)); refine blk_put (cs := #[.int .i64 ((rd_T52 l0 x11_1).f0), .int .i64 ((rd_T52 l0 x11_1).f1), .int .i64 0, .int .i64 0]) ?_ 2 _ rfl; (with_reducible repeat (first | refine blk_drewN ?_ _ | refine blk_drew ?_ | refine blk_alloc ?_ _)); refine blk_put (cs := #[.int .i64 ((rd_T52 l0 x11_1).f0), .int .i64 0, .int .i64 0, .int .i64 0]) ?_ 1 _ rfl; (with_reducible repeat (first | refine blk_drewN ?_ _ | refine blk_drew ?_ | refine blk_alloc ?_ _)); refine blk_put (cs := #[.int .i64 0, .int .i64 0, .int .i64 0, .int .i64 0]) ?_ 0 _ rfl; (with_reducible repeat (first | refine blk_drewN ?_ _ | refine blk_drew ?_ | refine blk_alloc ?_ _)); exact BK203.out) hb); have n1_ := Aside0.mk (below_step (by repeat (first | (with_reducible first | exact HB.out | apply below_alloc | apply pw_below_drewN | apply below_drew1 | refine below_set ?_ GE203.out) | exact HB.out)) hb); clear BK203; clear HB; have BK203 := n0_; have HB := n1_; clear n0_ n1_; (try clear hb); (try clear hb2); (try clear hk); (try clear hi))); go_upto_region 7 with (first | ((with_reducible refine gate_dst (N := 4) rfl ?_); refine box_event ?hg (N := 4) ?hd (cs := #[.int .i64 0, .int .i64 0, .int .i64 0, .int .i64 0]) (t := 52) ?hr ?_; (case hd => rfl); (case hg => rfl); (case hr => first | (go_simp; done) | (go_simp; rfl)); intro gb203 hg w8 hbox hb; have n0_ := Aside0.mk (below_step (by repeat (first | (with_reducible first | exact HB.out | apply below_alloc | apply pw_below_drewN | apply below_drew1) | exact HB.out)) hb); have n1_ := Aside0.mk (hbox); have n2_ := Aside0.mk ((by rw [hg]; exact (below_size (by repeat (first | (with_reducible first | exact HB.out | apply below_alloc | apply pw_below_drewN | apply below_drew1) | exact HB.out))) : w.heap.size ≤ gb203)); have n3_ := Aside0.mk ((by rw [hg]; exact (below_size (by repeat (first | (with_reducible first | exact HB.out | apply below_alloc | apply pw_below_drewN | apply below_drew1) | exact HB.out))) : w.heap.size ≤ gb203)); clear HB; have HB := n0_; have BK203 := n1_; have GW203 := n2_; have GE203 := n3_; clear n0_ n1_ n2_ n3_; clear hb hbox hg; have hcz9_0 : w8.cell? ⟨gb203, 0, none⟩ = some (.int .i64 0) := (blk_cell BK203.out 0).trans rfl; have hcz9_1 : w8.cell? ⟨gb203, 1, none⟩ = some (.int .i64 0) := (blk_cell BK203.out 1).trans rfl; have hcz9_2 : w8.cell? ⟨gb203, 2, none⟩ = some (.int .i64 0) := (blk_cell BK203.out 2).trans rfl; have hcz9_3 : w8.cell? ⟨gb203, 3, none⟩ = some (.int .i64 0) := (blk_cell BK203.out 3).trans rfl; have hfz9_0 := blk_frozen BK203.out 0; have hfz9_1 := blk_frozen BK203.out 1; have hfz9_2 := blk_frozen BK203.out 2; have hfz9_3 := blk_frozen BK203.out 3) | (go_at_call 66; (with_reducible refine (unit_Check.calls ((rd_T52 l0 x11_1).f2.f0) ((rd_T52 l0 x11_1).f2.f1) t204 _ A6.out).mono ?_); rintro e w10 ⟨rfl, hb⟩; have n0_ := Aside0.mk (blk_below (g := gb203) (o := .cells #[.int .i64 ((rd_T52 l0 x11_1).f0), .int .i64 ((rd_T52 l0 x11_1).f1), .int .i64 ((rd_T52 l0 x11_1).f2.f0), .int .i64 ((rd_T52 l0 x11_1).f2.f1)] 52 (0, 0)) (by (with_reducible repeat (first | refine blk_drewN ?_ _ | refine blk_drew ?_ | refine blk_alloc ?_ _)); refine blk_put (cs := #[.int .i64 ((rd_T52 l0 x11_1).f0), .int .i64 ((rd_T52 l0 x11_1).f1), .int .i64 ((rd_T52 l0 x11_1).f2.f0), .int .i64 0]) ?_ 3 _ rfl; (with_reducible repeat (first | refine blk_drewN ?_ _ | refine blk_drew ?_ | refine blk_alloc ?_ _)); refine blk_put (cs := #[.int .i64 ((rd_T52 l0 x11_1).f0), .int .i64 ((rd_T52 l0 x11_1).f1), .int .i64 0, .int .i64 0]) ?_ 2 _ rfl; (with_reducible repeat (first | refine blk_drewN ?_ _ | refine blk_drew ?_ | refine blk_alloc ?_ _)); refine blk_put (cs := #[.int .i64 ((rd_T52 l0 x11_1).f0), .int .i64 0, .int .i64 0, .int .i64 0]) ?_ 1 _ rfl; (with_reducible repeat (first | refine blk_drewN ?_ _ | refine blk_drew ?_ | refine blk_alloc ?_ _)); refine blk_put (cs := #[.int .i64 0, .int .i64 0, .int .i64 0, .int .i64 0]) ?_ 0 _ rfl; (with_reducible repeat (first | refine blk_drewN ?_ _ | refine blk_drew ?_ | refine blk_alloc ?_ _)); exact BK203.out) hb); have n1_ := Aside0.mk (below_step (by repeat (first | (with_reducible first | exact HB.out | apply below_alloc | apply pw_below_drewN | apply below_drew1 | refine below_set ?_ GE203.out) | exact HB.out)) hb); clear BK203; clear HB; have BK203 := n0_; have HB := n1_; clear n0_ n1_; (try clear hb); (try clear hb2); (try clear hk); (try clear hi))))
       (try simp only [Act.put, List.setIfInBounds_toArray, List.set_cons_zero, List.set_cons_succ]); go_cut [19] (fun v19 wc => ∃ (kq : Nat) (x19_6 : Bool), v19 = .bool x19_6 ∧ Aside0 (course_Check.j1 kq l0 x11_1 t204 l0 (l0.length : Int) x11_1 x19_6 ((rd_T52 l0 x11_1).f0) ((rd_T52 l0 x11_1).f1) ((rd_T52 l0 x11_1).f2.f0) ((rd_T52 l0 x11_1).f2.f1) = some r) ∧ Aside0 (kq ≤ k1) ∧ Aside0 (wc.heap[gb203]? = some (.cells #[.int .i64 ((rd_T52 l0 x11_1).f0), .int .i64 ((rd_T52 l0 x11_1).f1), .int .i64 ((rd_T52 l0 x11_1).f2.f0), .int .i64 ((rd_T52 l0 x11_1).f2.f1)] 52 (0, 0))) ∧ Aside0 (Below w.heap.size w wc))
       case first =>
        have H := HC7.out; clear HC7; by_cases c11 : ((rd_T52 l0 x11_1).f0) < 0
        ·rw [if_pos c11] at H; have c11b0 : decide (((rd_T52 l0 x11_1).f0) < 0) = true := decide_eq_true c11; clear c11; (first | rw [c11b0] | (simp only [i64_w, i32_w]; rw [c11b0]) | skip); have H' := Aside0.mk H; clear H; have hcz12_0 : w10.cell? ⟨gb203, 0, none⟩ = some (.int .i64 ((rd_T52 l0 x11_1).f0)) := (blk_cell BK203.out 0).trans rfl; have hcz12_1 : w10.cell? ⟨gb203, 1, none⟩ = some (.int .i64 ((rd_T52 l0 x11_1).f1)) := (blk_cell BK203.out 1).trans rfl; have hcz12_2 : w10.cell? ⟨gb203, 2, none⟩ = some (.int .i64 ((rd_T52 l0 x11_1).f2.f0)) := (blk_cell BK203.out 2).trans rfl; have hcz12_3 : w10.cell? ⟨gb203, 3, none⟩ = some (.int .i64 ((rd_T52 l0 x11_1).f2.f1)) := (blk_cell BK203.out 3).trans rfl; have hfz12_0 := blk_frozen BK203.out 0; have hfz12_1 := blk_frozen BK203.out 1; have hfz12_2 := blk_frozen BK203.out 2; have hfz12_3 := blk_frozen BK203.out 3; go_wp2; repeat (go_quiet (fail); try go_wp2)
         go_meet
         case rel => exact ⟨_, (true), (by first | rfl | (simp; done) | (simp [*]; done)), H', ⟨by have := HK1.out; first | omega | exact Nat.le_refl _⟩, ⟨by (with_reducible repeat (first | refine blk_drewN ?_ _ | refine blk_drew ?_ | refine blk_alloc ?_ _)); exact BK203.out⟩, ⟨by repeat (first | (with_reducible first | exact HB.out | apply below_alloc | apply pw_below_drewN | apply below_drew1 | refine below_set ?_ GE203.out) | exact HB.out)⟩⟩
        ·rw [if_neg c11] at H; have c11b0 : decide (((rd_T52 l0 x11_1).f0) < 0) = false := decide_eq_false c11; clear c11; (first | rw [c11b0] | (simp only [i64_w, i32_w]; rw [c11b0]) | skip); by_cases c13 : ((rd_T52 l0 x11_1).f0) ≥ ((rd_T52 l0 x11_1).f1)
         ·rw [if_pos c13] at H; have c13b0 : decide (((rd_T52 l0 x11_1).f1) ≤ ((rd_T52 l0 x11_1).f0)) = true := decide_eq_true c13; clear c13; have H' := Aside0.mk H; clear H; have hcz14_0 : w10.cell? ⟨gb203, 0, none⟩ = some (.int .i64 ((rd_T52 l0 x11_1).f0)) := (blk_cell BK203.out 0).trans rfl; have hcz14_1 : w10.cell? ⟨gb203, 1, none⟩ = some (.int .i64 ((rd_T52 l0 x11_1).f1)) := (blk_cell BK203.out 1).trans rfl; have hcz14_2 : w10.cell? ⟨gb203, 2, none⟩ = some (.int .i64 ((rd_T52 l0 x11_1).f2.f0)) := (blk_cell BK203.out 2).trans rfl; have hcz14_3 : w10.cell? ⟨gb203, 3, none⟩ = some (.int .i64 ((rd_T52 l0 x11_1).f2.f1)) := (blk_cell BK203.out 3).trans rfl; have hfz14_0 := blk_frozen BK203.out 0; have hfz14_1 := blk_frozen BK203.out 1; have hfz14_2 := blk_frozen BK203.out 2; have hfz14_3 := blk_frozen BK203.out 3; go_wp2; repeat (go_quiet (fail); try go_wp2)
          go_meet
          case rel => exact ⟨_, (true), (by first | rfl | (simp; done) | (simp [*]; done)), H', ⟨by have := HK1.out; first | omega | exact Nat.le_refl _⟩, ⟨by (with_reducible repeat (first | refine blk_drewN ?_ _ | refine blk_drew ?_ | refine blk_alloc ?_ _)); exact BK203.out⟩, ⟨by repeat (first | (with_reducible first | exact HB.out | apply below_alloc | apply pw_below_drewN | apply below_drew1 | refine below_set ?_ GE203.out) | exact HB.out)⟩⟩
         ·rw [if_neg c13] at H; have c13b0 : decide (((rd_T52 l0 x11_1).f1) ≤ ((rd_T52 l0 x11_1).f0)) = false := decide_eq_false c13; clear c13; have H' := Aside0.mk H; clear H; have hcz15_0 : w10.cell? ⟨gb203, 0, none⟩ = some (.int .i64 ((rd_T52 l0 x11_1).f0)) := (blk_cell BK203.out 0).trans rfl; have hcz15_1 : w10.cell? ⟨gb203, 1, none⟩ = some (.int .i64 ((rd_T52 l0 x11_1).f1)) := (blk_cell BK203.out 1).trans rfl; have hcz15_2 : w10.cell? ⟨gb203, 2, none⟩ = some (.int .i64 ((rd_T52 l0 x11_1).f2.f0)) := (blk_cell BK203.out 2).trans rfl; have hcz15_3 : w10.cell? ⟨gb203, 3, none⟩ = some (.int .i64 ((rd_T52 l0 x11_1).f2.f1)) := (blk_cell BK203.out 3).trans rfl; have hfz15_0 := blk_frozen BK203.out 0; have hfz15_1 := blk_frozen BK203.out 1; have hfz15_2 := blk_frozen BK203.out 2; have hfz15_3 := blk_frozen BK203.out 3; go_wp2; repeat (go_quiet (fail); try go_wp2)
          go_meet
          case rel => exact ⟨_, (decide (((rd_T52 l0 x11_1).f1) > 1048576)), (by first | rfl | (simp; done) | (simp [*]; done)), H', ⟨by have := HK1.out; first | omega | exact Nat.le_refl _⟩, ⟨by (with_reducible repeat (first | refine blk_drewN ?_ _ | refine blk_drew ?_ | refine blk_alloc ?_ _)); exact BK203.out⟩, ⟨by repeat (first | (with_reducible first | exact HB.out | apply below_alloc | apply pw_below_drewN | apply below_drew1 | refine below_set ?_ GE203.out) | exact HB.out)⟩⟩
       case rest =>
        clear HC7; (try clear c1); (try clear c2); (try clear c2b0); (try clear c2b1); (try clear p2); (try clear q2); (try clear hx2); (try clear c3); (try clear c3b0); (try clear c4); (try clear c4b0); (try clear c5); (try clear c5b0); (try clear c11); (try clear c11b0); (try clear c13); (try clear c13b0); (try clear hcz12_0); (try clear hcz12_1); (try clear hcz12_2); (try clear hcz12_3); (try clear hcz14_0); (try clear hcz14_1); (try clear hcz14_2); (try clear hcz14_3); (try clear hcz15_0); (try clear hcz15_1); (try clear hcz15_2); (try clear hcz15_3); (try clear hcz9_0); (try clear hcz9_1); (try clear hcz9_2); (try clear hcz9_3); (try clear hfz12_0); (try clear hfz12_1); (try clear hfz12_2); (try clear hfz12_3); (try clear hfz14_0); (try clear hfz14_1); (try clear hfz14_2); (try clear hfz14_3); (try clear hfz15_0); (try clear hfz15_1); (try clear hfz15_2); (try clear hfz15_3); (try clear hfz9_0); (try clear hfz9_1); (try clear hfz9_2); (try clear hfz9_3); (try clear hx202_0); (try clear hx202_1); (try clear hx202_2); (try clear hx202_3); (try clear p2); (try clear p202); (try clear q202); obtain ⟨kq, x19_6, rfl, HA, HJ6, BK203, HB⟩ := hcut
        cases kq with
        | zero => exact absurd HA.out (by simp [course_Check.j1])
        | succ kj6 =>
         have H := HA.out; clear HA; simp only [course_Check.j1] at H; by_cases c16 : x19_6 = true
         ·subst c16; have H1 : (some 1) = some r := by rw [if_pos rfl] at H; exact H
          clear H; have H := H1; clear H1; obtain rfl := Option.some.inj H; go_wp2; repeat (go_quiet (fail); try go_wp2)
          go_ret; exact ⟨by first | rfl | (simp [errW_none, errW_some] <;> rfl) | (simp [*, errW_none, errW_some] <;> rfl), by repeat (first | (with_reducible first | exact HB.out | apply below_alloc | apply pw_below_drewN | apply below_drew1 | refine below_set ?_ GE203.out) | exact HB.out)⟩
         ·replace c16 := Bool.eq_false_iff.mpr c16; subst c16; have H1 : (if t204 = 0 then (if ((rd_T52 l0 x11_1).f2.f0) = 0 then (some 16) else (if x11_1 > 0 then (if 0 ≤ (wrap64 (x11_1 - 1)) then (if (wrap64 (x11_1 - 1)) < (l0.length : Int) then (course_Check.j2 kj6 l0 x11_1 l0 (l0.length : Int) x11_1 (decide (((rd_T52 l0 x11_1).f0) < ((rd_T52 l0 (wrap64 (x11_1 - 1))).f1))) ((rd_T52 l0 x11_1).f0) ((rd_T52 l0 x11_1).f1) ((rd_T52 l0 x11_1).f2.f0) ((rd_T52 l0 x11_1).f2.f1)) else (none)) else (none)) else (course_Check.j2 kj6 l0 x11_1 l0 (l0.length : Int) x11_1 false ((rd_T52 l0 x11_1).f0) ((rd_T52 l0 x11_1).f1) ((rd_T52 l0 x11_1).f2.f0) ((rd_T52 l0 x11_1).f2.f1)))) else (some t204)) = some r := by rw [if_neg (show ¬ (false = true) by decide)] at H; exact H
          clear H; have H := H1; clear H1; by_cases c17 : t204 = 0
          ·rw [if_pos c17] at H; have c17b0 : (t204 == 0) = true := beq_iff_eq.mpr c17; have c17b1 : (t204 != 0) = false := bne_eq_false_iff_eq.mpr c17; clear c17; by_cases c18 : ((rd_T52 l0 x11_1).f2.f0) = 0
           ·rw [if_pos c18] at H; have c18b0 : (((rd_T52 l0 x11_1).f2.f0) == 0) = true := beq_iff_eq.mpr c18; have c18b1 : (((rd_T52 l0 x11_1).f2.f0) != 0) = false := bne_eq_false_iff_eq.mpr c18; clear c18; obtain rfl := Option.some.inj H; have hcz19_0 : wc.cell? ⟨gb203, 0, none⟩ = some (.int .i64 ((rd_T52 l0 x11_1).f0)) := (blk_cell BK203.out 0).trans rfl; have hcz19_1 : wc.cell? ⟨gb203, 1, none⟩ = some (.int .i64 ((rd_T52 l0 x11_1).f1)) := (blk_cell BK203.out 1).trans rfl; have hcz19_2 : wc.cell? ⟨gb203, 2, none⟩ = some (.int .i64 ((rd_T52 l0 x11_1).f2.f0)) := (blk_cell BK203.out 2).trans rfl; have hcz19_3 : wc.cell? ⟨gb203, 3, none⟩ = some (.int .i64 ((rd_T52 l0 x11_1).f2.f1)) := (blk_cell BK203.out 3).trans rfl; have hfz19_0 := blk_frozen BK203.out 0; have hfz19_1 := blk_frozen BK203.out 1; have hfz19_2 := blk_frozen BK203.out 2; have hfz19_3 := blk_frozen BK203.out 3; go_wp2; repeat (go_quiet (fail); try go_wp2)
            go_ret; exact ⟨by first | rfl | (simp [errW_none, errW_some] <;> rfl) | (simp [*, errW_none, errW_some] <;> rfl), by repeat (first | (with_reducible first | exact HB.out | apply below_alloc | apply pw_below_drewN | apply below_drew1 | refine below_set ?_ GE203.out) | exact HB.out)⟩
           ·rw [if_neg c18] at H; have c18b0 : (((rd_T52 l0 x11_1).f2.f0) == 0) = false := beq_eq_false_iff_ne.mpr c18; have c18b1 : (((rd_T52 l0 x11_1).f2.f0) != 0) = true := bne_iff_ne.mpr c18; have HC20 := Aside0.mk H; clear H; have hcz21_0 : wc.cell? ⟨gb203, 0, none⟩ = some (.int .i64 ((rd_T52 l0 x11_1).f0)) := (blk_cell BK203.out 0).trans rfl; have hcz21_1 : wc.cell? ⟨gb203, 1, none⟩ = some (.int .i64 ((rd_T52 l0 x11_1).f1)) := (blk_cell BK203.out 1).trans rfl; have hcz21_2 : wc.cell? ⟨gb203, 2, none⟩ = some (.int .i64 ((rd_T52 l0 x11_1).f2.f0)) := (blk_cell BK203.out 2).trans rfl; have hcz21_3 : wc.cell? ⟨gb203, 3, none⟩ = some (.int .i64 ((rd_T52 l0 x11_1).f2.f1)) := (blk_cell BK203.out 3).trans rfl; have hfz21_0 := blk_frozen BK203.out 0; have hfz21_1 := blk_frozen BK203.out 1; have hfz21_2 := blk_frozen BK203.out 2; have hfz21_3 := blk_frozen BK203.out 3; go_upto_region 13 with (fail); repeat (go_quiet (fail); go_upto_region 13 with (fail))
            go_cut [44] (fun v44 wc => ∃ (kq : Nat) (x44_19 : Bool), v44 = .bool x44_19 ∧ Aside0 (course_Check.j2 kq l0 x11_1 l0 (l0.length : Int) x11_1 x44_19 ((rd_T52 l0 x11_1).f0) ((rd_T52 l0 x11_1).f1) ((rd_T52 l0 x11_1).f2.f0) ((rd_T52 l0 x11_1).f2.f1) = some r) ∧ Aside0 (kq ≤ kj6) ∧ Aside0 (wc.heap[gb203]? = some (.cells #[.int .i64 ((rd_T52 l0 x11_1).f0), .int .i64 ((rd_T52 l0 x11_1).f1), .int .i64 ((rd_T52 l0 x11_1).f2.f0), .int .i64 ((rd_T52 l0 x11_1).f2.f1)] 52 (0, 0))) ∧ Aside0 (Below w.heap.size w wc))
            case first =>
             have H := HC20.out; clear HC20; by_cases c22 : x11_1 > 0
             ·rw [if_pos c22] at H; have c22b0 : decide (0 < x11_1) = true := decide_eq_true c22; clear c22; (first | rw [c22b0] | (simp only [i64_w, i32_w]; rw [c22b0]) | skip); obtain ⟨ji23, hji23⟩ : ∃ j_ : Int, (wrap64 (x11_1 - 1)) = j_ := ⟨_, rfl⟩; replace H : (if 0 ≤ (ji23) then (if (ji23) < (l0.length : Int) then (course_Check.j2 kj6 l0 x11_1 l0 (l0.length : Int) x11_1 (decide (((rd_T52 l0 x11_1).f0) < ((rd_T52 l0 (ji23)).f1))) ((rd_T52 l0 x11_1).f0) ((rd_T52 l0 x11_1).f1) ((rd_T52 l0 x11_1).f2.f0) ((rd_T52 l0 x11_1).f2.f1)) else (none)) else (none)) = some r := by first | (rw [hji23] at H; exact H) | (simp only [hji23] at H ⊢; exact H)
              have hji23w : (IntKind.i64.wrap (x11_1 - 1)) = ji23 := (i64_w _).trans hji23; by_cases c24 : 0 ≤ (ji23)
              ·rw [if_pos c24] at H; have c24b0 : decide (0 ≤ (ji23)) = true := decide_eq_true c24; clear c24; by_cases c25 : (ji23) < (l0.length : Int)
               ·rw [if_pos c25] at H; have c25b0 : decide ((ji23) < (l0.length : Int)) = true := decide_eq_true c25; clear c25; have H' := Aside0.mk H; clear H; have hcz26_0 : wc.cell? ⟨gb203, 0, none⟩ = some (.int .i64 ((rd_T52 l0 x11_1).f0)) := (blk_cell BK203.out 0).trans rfl; have hcz26_1 : wc.cell? ⟨gb203, 1, none⟩ = some (.int .i64 ((rd_T52 l0 x11_1).f1)) := (blk_cell BK203.out 1).trans rfl; have hcz26_2 : wc.cell? ⟨gb203, 2, none⟩ = some (.int .i64 ((rd_T52 l0 x11_1).f2.f0)) := (blk_cell BK203.out 2).trans rfl; have hcz26_3 : wc.cell? ⟨gb203, 3, none⟩ = some (.int .i64 ((rd_T52 l0 x11_1).f2.f1)) := (blk_cell BK203.out 3).trans rfl; have hfz26_0 := blk_frozen BK203.out 0; have hfz26_1 := blk_frozen BK203.out 1; have hfz26_2 := blk_frozen BK203.out 2; have hfz26_3 := blk_frozen BK203.out 3; have p205 : 0 ≤ ((ji23) : Int) := of_decide_eq_true (by first | (with_reducible assumption) | assumption); have q205 : (ji23) < (l0.length : Int) := of_decide_eq_true (by first | (with_reducible assumption) | assumption); obtain ⟨ad205, e205, hx205_0, hx205_1, hx205_2, hx205_3⟩ := at_T52 HR0.out (ji23) p205 q205; obtain rfl : ad202 = ad205 := (by injection e205); replace hx205_0 := (HB.out.cell (World.block_lt_of_cell? w _ hx205_0)).trans hx205_0; replace hx205_1 := (HB.out.cell (World.block_lt_of_cell? w _ hx205_1)).trans hx205_1; replace hx205_2 := (HB.out.cell (World.block_lt_of_cell? w _ hx205_2)).trans hx205_2; replace hx205_3 := (HB.out.cell (World.block_lt_of_cell? w _ hx205_3)).trans hx205_3; replace p205 := eq_true p205; replace q205 := eq_true q205; go_wp2; repeat (go_quiet (fail); try go_wp2)
                go_meet
                case rel => exact ⟨_, (decide (((rd_T52 l0 x11_1).f0) < ((rd_T52 l0 (ji23)).f1))), (by first | rfl | (simp; done) | (simp only [← hji23] <;> (first | rfl | simp)) | (simp [*]; done)), H', ⟨by have := HK1.out; have := HJ6.out; first | omega | exact Nat.le_refl _⟩, ⟨by (with_reducible repeat (first | refine blk_drewN ?_ _ | refine blk_drew ?_ | refine blk_alloc ?_ _)); exact BK203.out⟩, ⟨by repeat (first | (with_reducible first | exact HB.out | apply below_alloc | apply pw_below_drewN | apply below_drew1 | refine below_set ?_ GE203.out) | exact HB.out)⟩⟩
               ·rw [if_neg c25] at H; exact absurd H (by simp)
              ·rw [if_neg c24] at H; exact absurd H (by simp)
             ·rw [if_neg c22] at H; have c22b0 : decide (0 < x11_1) = false := decide_eq_false c22; clear c22; (first | rw [c22b0] | (simp only [i64_w, i32_w]; rw [c22b0]) | skip); have H' := Aside0.mk H; clear H; go_wp2; repeat (go_quiet (fail); try go_wp2)
              go_meet
              case rel => exact ⟨_, (false), (by first | rfl | (simp; done) | (simp [*]; done)), H', ⟨by have := HK1.out; have := HJ6.out; first | omega | exact Nat.le_refl _⟩, ⟨by (with_reducible repeat (first | refine blk_drewN ?_ _ | refine blk_drew ?_ | refine blk_alloc ?_ _)); exact BK203.out⟩, ⟨by repeat (first | (with_reducible first | exact HB.out | apply below_alloc | apply pw_below_drewN | apply below_drew1 | refine below_set ?_ GE203.out) | exact HB.out)⟩⟩
            case rest =>
             clear HC20; (try clear c1); (try clear c2); (try clear c2b0); (try clear c2b1); (try clear p2); (try clear q2); (try clear hx2); (try clear c3); (try clear c3b0); (try clear c4); (try clear c4b0); (try clear c5); (try clear c5b0); (try clear p6); (try clear c11); (try clear c11b0); (try clear c13); (try clear c13b0); (try clear c16); (try clear c17); (try clear c17b0); (try clear c17b1); (try clear c18); (try clear c18b0); (try clear c18b1); (try clear p20); (try clear q20); (try clear hx20); (try clear c22); (try clear c22b0); (try clear c24); (try clear c24b0); (try clear c25); (try clear c25b0); (try clear hcz12_0); (try clear hcz12_1); (try clear hcz12_2); (try clear hcz12_3); (try clear hcz14_0); (try clear hcz14_1); (try clear hcz14_2); (try clear hcz14_3); (try clear hcz15_0); (try clear hcz15_1); (try clear hcz15_2); (try clear hcz15_3); (try clear hcz19_0); (try clear hcz19_1); (try clear hcz19_2); (try clear hcz19_3); (try clear hcz21_0); (try clear hcz21_1); (try clear hcz21_2); (try clear hcz21_3); (try clear hcz26_0); (try clear hcz26_1); (try clear hcz26_2); (try clear hcz26_3); (try clear hcz9_0); (try clear hcz9_1); (try clear hcz9_2); (try clear hcz9_3); (try clear hfz12_0); (try clear hfz12_1); (try clear hfz12_2); (try clear hfz12_3); (try clear hfz14_0); (try clear hfz14_1); (try clear hfz14_2); (try clear hfz14_3); (try clear hfz15_0); (try clear hfz15_1); (try clear hfz15_2); (try clear hfz15_3); (try clear hfz19_0); (try clear hfz19_1); (try clear hfz19_2); (try clear hfz19_3); (try clear hfz21_0); (try clear hfz21_1); (try clear hfz21_2); (try clear hfz21_3); (try clear hfz26_0); (try clear hfz26_1); (try clear hfz26_2); (try clear hfz26_3); (try clear hfz9_0); (try clear hfz9_1); (try clear hfz9_2); (try clear hfz9_3); (try clear hx202_0); (try clear hx202_1); (try clear hx202_2); (try clear hx202_3); (try clear hx205_0); (try clear hx205_1); (try clear hx205_2); (try clear hx205_3); (try clear p2); (try clear p202); (try clear p205); (try clear q2); (try clear q202); (try clear q205); obtain ⟨kq, x44_19, rfl, HA, HJ19, BK203, HB⟩ := hcut
             cases kq with
             | zero => exact absurd HA.out (by simp [course_Check.j2])
             | succ kj19 =>
              have H := HA.out; clear HA; simp only [course_Check.j2] at H; by_cases c27 : x44_19 = true
              ·subst c27; have H1 : (some 9) = some r := by rw [if_pos rfl] at H; exact H
               clear H; have H := H1; clear H1; obtain rfl := Option.some.inj H; go_wp2; repeat (go_quiet (fail); try go_wp2)
               go_ret; exact ⟨by first | rfl | (simp [errW_none, errW_some] <;> rfl) | (simp [*, errW_none, errW_some] <;> rfl), by repeat (first | (with_reducible first | exact HB.out | apply below_alloc | apply pw_below_drewN | apply below_drew1 | refine below_set ?_ GE203.out) | exact HB.out)⟩
              ·replace c27 := Bool.eq_false_iff.mpr c27; subst c27; have H1 : (if x11_1 > 0 then (if 0 ≤ (wrap64 (x11_1 - 1)) then (if (wrap64 (x11_1 - 1)) < (l0.length : Int) then (if ((rd_T52 l0 x11_1).f0) = ((rd_T52 l0 (wrap64 (x11_1 - 1))).f1) then (if (((rd_T52 l0 x11_1).f2.f0) == ((rd_T52 l0 (wrap64 (x11_1 - 1))).f2.f0) && (((rd_T52 l0 x11_1).f2.f1) == ((rd_T52 l0 (wrap64 (x11_1 - 1))).f2.f1))) = true then (some 3) else (course_Check.l0 kj19 l0 l0 (l0.length : Int) (wrap64 (x11_1 + 1)))) else (course_Check.l0 kj19 l0 l0 (l0.length : Int) (wrap64 (x11_1 + 1)))) else (none)) else (none)) else (course_Check.l0 kj19 l0 l0 (l0.length : Int) (wrap64 (x11_1 + 1)))) = some r := by rw [if_neg (show ¬ (false = true) by decide)] at H; exact H
               clear H; have H := H1; clear H1; by_cases c28 : x11_1 > 0
               ·rw [if_pos c28] at H; have c28b0 : decide (0 < x11_1) = true := decide_eq_true c28; clear c28; obtain ⟨ji29, hji29⟩ : ∃ j_ : Int, (wrap64 (x11_1 - 1)) = j_ := ⟨_, rfl⟩; replace H : (if 0 ≤ (ji29) then (if (ji29) < (l0.length : Int) then (if ((rd_T52 l0 x11_1).f0) = ((rd_T52 l0 (ji29)).f1) then (if (((rd_T52 l0 x11_1).f2.f0) == ((rd_T52 l0 (ji29)).f2.f0) && (((rd_T52 l0 x11_1).f2.f1) == ((rd_T52 l0 (ji29)).f2.f1))) = true then (some 3) else (course_Check.l0 kj19 l0 l0 (l0.length : Int) (wrap64 (x11_1 + 1)))) else (course_Check.l0 kj19 l0 l0 (l0.length : Int) (wrap64 (x11_1 + 1)))) else (none)) else (none)) = some r := by first | (rw [hji29] at H; exact H) | (simp only [hji29] at H ⊢; exact H)
                have hji29w : (IntKind.i64.wrap (x11_1 - 1)) = ji29 := (i64_w _).trans hji29; by_cases c30 : 0 ≤ (ji29)
                ·rw [if_pos c30] at H; have c30b0 : decide (0 ≤ (ji29)) = true := decide_eq_true c30; clear c30; by_cases c31 : (ji29) < (l0.length : Int)
                 ·rw [if_pos c31] at H; have c31b0 : decide ((ji29) < (l0.length : Int)) = true := decide_eq_true c31; clear c31; by_cases c32 : ((rd_T52 l0 x11_1).f0) = ((rd_T52 l0 (ji29)).f1)
                  ·rw [if_pos c32] at H; have c32b0 : (((rd_T52 l0 x11_1).f0) == ((rd_T52 l0 (ji29)).f1)) = true := beq_iff_eq.mpr c32; have c32b1 : (((rd_T52 l0 x11_1).f0) != ((rd_T52 l0 (ji29)).f1)) = false := bne_eq_false_iff_eq.mpr c32; clear c32; by_cases c33 : (((rd_T52 l0 x11_1).f2.f0) == ((rd_T52 l0 (ji29)).f2.f0) && (((rd_T52 l0 x11_1).f2.f1) == ((rd_T52 l0 (ji29)).f2.f1))) = true
                   ·rw [if_pos c33] at H; have c33b0 : (((rd_T52 l0 x11_1).f2.f0) == ((rd_T52 l0 (ji29)).f2.f0) && (((rd_T52 l0 x11_1).f2.f1) == ((rd_T52 l0 (ji29)).f2.f1))) = true := c33; (try (have c33b1 : decide (((rd_T52 l0 x11_1).f2.f0) = ((rd_T52 l0 (ji29)).f2.f0) && (((rd_T52 l0 x11_1).f2.f1) == ((rd_T52 l0 (ji29)).f2.f1))) = true := by simpa using c33)); (try (have c33b2 : (((rd_T52 l0 x11_1).f2.f0) == ((rd_T52 l0 (ji29)).f2.f0) && (((rd_T52 l0 x11_1).f2.f1) == ((rd_T52 l0 (ji29)).f2.f1))) = true := by simpa using c33)); clear c33; obtain rfl := Option.some.inj H; have hcz34_0 : wc.cell? ⟨gb203, 0, none⟩ = some (.int .i64 ((rd_T52 l0 x11_1).f0)) := (blk_cell BK203.out 0).trans rfl; have hcz34_1 : wc.cell? ⟨gb203, 1, none⟩ = some (.int .i64 ((rd_T52 l0 x11_1).f1)) := (blk_cell BK203.out 1).trans rfl; have hcz34_2 : wc.cell? ⟨gb203, 2, none⟩ = some (.int .i64 ((rd_T52 l0 x11_1).f2.f0)) := (blk_cell BK203.out 2).trans rfl; have hcz34_3 : wc.cell? ⟨gb203, 3, none⟩ = some (.int .i64 ((rd_T52 l0 x11_1).f2.f1)) := (blk_cell BK203.out 3).trans rfl; have hfz34_0 := blk_frozen BK203.out 0; have hfz34_1 := blk_frozen BK203.out 1; have hfz34_2 := blk_frozen BK203.out 2; have hfz34_3 := blk_frozen BK203.out 3; have p206 : 0 ≤ ((ji29) : Int) := of_decide_eq_true (by first | (with_reducible assumption) | assumption); have q206 : (ji29) < (l0.length : Int) := of_decide_eq_true (by first | (with_reducible assumption) | assumption); obtain ⟨ad206, e206, hx206_0, hx206_1, hx206_2, hx206_3⟩ := at_T52 HR0.out (ji29) p206 q206; obtain rfl : ad202 = ad206 := (by injection e206); replace hx206_0 := (HB.out.cell (World.block_lt_of_cell? w _ hx206_0)).trans hx206_0; replace hx206_1 := (HB.out.cell (World.block_lt_of_cell? w _ hx206_1)).trans hx206_1; replace hx206_2 := (HB.out.cell (World.block_lt_of_cell? w _ hx206_2)).trans hx206_2; replace hx206_3 := (HB.out.cell (World.block_lt_of_cell? w _ hx206_3)).trans hx206_3; replace p206 := eq_true p206; replace q206 := eq_true q206; have p207 : 0 ≤ ((ji29) : Int) := of_decide_eq_true (by first | (with_reducible assumption) | assumption); have q207 : (ji29) < (l0.length : Int) := of_decide_eq_true (by first | (with_reducible assumption) | assumption); obtain ⟨ad207, e207, hx207_0, hx207_1, hx207_2, hx207_3⟩ := at_T52 HR0.out (ji29) p207 q207; obtain rfl : ad202 = ad207 := (by injection e207); replace hx207_0 := (HB.out.cell (World.block_lt_of_cell? w _ hx207_0)).trans hx207_0; replace hx207_1 := (HB.out.cell (World.block_lt_of_cell? w _ hx207_1)).trans hx207_1; replace hx207_2 := (HB.out.cell (World.block_lt_of_cell? w _ hx207_2)).trans hx207_2; replace hx207_3 := (HB.out.cell (World.block_lt_of_cell? w _ hx207_3)).trans hx207_3; replace p207 := eq_true p207; replace q207 := eq_true q207; go_wp2; repeat (go_quiet (fail); try go_wp2)
                    go_ret; exact ⟨by first | rfl | (simp [errW_none, errW_some] <;> rfl) | (simp only [← hji29]; first | rfl | (simp [errW_none, errW_some] <;> rfl)) | (simp [*, errW_none, errW_some] <;> rfl), by repeat (first | (with_reducible first | exact HB.out | apply below_alloc | apply pw_below_drewN | apply below_drew1 | refine below_set ?_ GE203.out) | exact HB.out)⟩
                   ·rw [if_neg c33] at H; have c33b0 : (((rd_T52 l0 x11_1).f2.f0) == ((rd_T52 l0 (ji29)).f2.f0) && (((rd_T52 l0 x11_1).f2.f1) == ((rd_T52 l0 (ji29)).f2.f1))) = false := by simpa using c33
                    (try (have c33b1 : decide (((rd_T52 l0 x11_1).f2.f0) = ((rd_T52 l0 (ji29)).f2.f0) && (((rd_T52 l0 x11_1).f2.f1) == ((rd_T52 l0 (ji29)).f2.f1))) = false := by simpa using c33)); (try (have c33b2 : (((rd_T52 l0 x11_1).f2.f0) == ((rd_T52 l0 (ji29)).f2.f0) && (((rd_T52 l0 x11_1).f2.f1) == ((rd_T52 l0 (ji29)).f2.f1))) = false := by simpa using c33)); (try (have c33b3 : ¬ (((rd_T52 l0 x11_1).f2.f0) = ((rd_T52 l0 (ji29)).f2.f0) && (((rd_T52 l0 x11_1).f2.f1) == ((rd_T52 l0 (ji29)).f2.f1))) := by simpa using c33)); clear c33; have H' := Aside0.mk H; clear H; have hcz35_0 : wc.cell? ⟨gb203, 0, none⟩ = some (.int .i64 ((rd_T52 l0 x11_1).f0)) := (blk_cell BK203.out 0).trans rfl; have hcz35_1 : wc.cell? ⟨gb203, 1, none⟩ = some (.int .i64 ((rd_T52 l0 x11_1).f1)) := (blk_cell BK203.out 1).trans rfl; have hcz35_2 : wc.cell? ⟨gb203, 2, none⟩ = some (.int .i64 ((rd_T52 l0 x11_1).f2.f0)) := (blk_cell BK203.out 2).trans rfl; have hcz35_3 : wc.cell? ⟨gb203, 3, none⟩ = some (.int .i64 ((rd_T52 l0 x11_1).f2.f1)) := (blk_cell BK203.out 3).trans rfl; have hfz35_0 := blk_frozen BK203.out 0; have hfz35_1 := blk_frozen BK203.out 1; have hfz35_2 := blk_frozen BK203.out 2; have hfz35_3 := blk_frozen BK203.out 3; have p206 : 0 ≤ ((ji29) : Int) := of_decide_eq_true (by first | (with_reducible assumption) | assumption); have q206 : (ji29) < (l0.length : Int) := of_decide_eq_true (by first | (with_reducible assumption) | assumption); obtain ⟨ad206, e206, hx206_0, hx206_1, hx206_2, hx206_3⟩ := at_T52 HR0.out (ji29) p206 q206; obtain rfl : ad202 = ad206 := (by injection e206); replace hx206_0 := (HB.out.cell (World.block_lt_of_cell? w _ hx206_0)).trans hx206_0; replace hx206_1 := (HB.out.cell (World.block_lt_of_cell? w _ hx206_1)).trans hx206_1; replace hx206_2 := (HB.out.cell (World.block_lt_of_cell? w _ hx206_2)).trans hx206_2; replace hx206_3 := (HB.out.cell (World.block_lt_of_cell? w _ hx206_3)).trans hx206_3; replace p206 := eq_true p206; replace q206 := eq_true q206; have p207 : 0 ≤ ((ji29) : Int) := of_decide_eq_true (by first | (with_reducible assumption) | assumption); have q207 : (ji29) < (l0.length : Int) := of_decide_eq_true (by first | (with_reducible assumption) | assumption); obtain ⟨ad207, e207, hx207_0, hx207_1, hx207_2, hx207_3⟩ := at_T52 HR0.out (ji29) p207 q207; obtain rfl : ad202 = ad207 := (by injection e207); replace hx207_0 := (HB.out.cell (World.block_lt_of_cell? w _ hx207_0)).trans hx207_0; replace hx207_1 := (HB.out.cell (World.block_lt_of_cell? w _ hx207_1)).trans hx207_1; replace hx207_2 := (HB.out.cell (World.block_lt_of_cell? w _ hx207_2)).trans hx207_2; replace hx207_3 := (HB.out.cell (World.block_lt_of_cell? w _ hx207_3)).trans hx207_3; replace p207 := eq_true p207; replace q207 := eq_true q207; go_wp2; repeat (go_quiet (fail); try go_wp2)
                    go_roundg kj19
                    case measure => have := HK1.out; have := HJ6.out; have := HJ19.out; omega
                    case rel => exact ⟨(wrap64 (x11_1 + 1)), (by first | rfl | (simp; done) | (simp [*]; done)), H', ⟨by have := HK1.out; have := HJ6.out; have := HJ19.out; omega⟩, ⟨by repeat (first | (with_reducible first | exact HB.out | apply below_alloc | apply pw_below_drewN | apply below_drew1 | refine below_set ?_ GE203.out) | exact HB.out)⟩⟩
                  ·rw [if_neg c32] at H; have c32b0 : (((rd_T52 l0 x11_1).f0) == ((rd_T52 l0 (ji29)).f1)) = false := beq_eq_false_iff_ne.mpr c32; have c32b1 : (((rd_T52 l0 x11_1).f0) != ((rd_T52 l0 (ji29)).f1)) = true := bne_iff_ne.mpr c32; have H' := Aside0.mk H; clear H; have hcz36_0 : wc.cell? ⟨gb203, 0, none⟩ = some (.int .i64 ((rd_T52 l0 x11_1).f0)) := (blk_cell BK203.out 0).trans rfl; have hcz36_1 : wc.cell? ⟨gb203, 1, none⟩ = some (.int .i64 ((rd_T52 l0 x11_1).f1)) := (blk_cell BK203.out 1).trans rfl; have hcz36_2 : wc.cell? ⟨gb203, 2, none⟩ = some (.int .i64 ((rd_T52 l0 x11_1).f2.f0)) := (blk_cell BK203.out 2).trans rfl; have hcz36_3 : wc.cell? ⟨gb203, 3, none⟩ = some (.int .i64 ((rd_T52 l0 x11_1).f2.f1)) := (blk_cell BK203.out 3).trans rfl; have hfz36_0 := blk_frozen BK203.out 0; have hfz36_1 := blk_frozen BK203.out 1; have hfz36_2 := blk_frozen BK203.out 2; have hfz36_3 := blk_frozen BK203.out 3; have p206 : 0 ≤ ((ji29) : Int) := of_decide_eq_true (by first | (with_reducible assumption) | assumption); have q206 : (ji29) < (l0.length : Int) := of_decide_eq_true (by first | (with_reducible assumption) | assumption); obtain ⟨ad206, e206, hx206_0, hx206_1, hx206_2, hx206_3⟩ := at_T52 HR0.out (ji29) p206 q206; obtain rfl : ad202 = ad206 := (by injection e206); replace hx206_0 := (HB.out.cell (World.block_lt_of_cell? w _ hx206_0)).trans hx206_0; replace hx206_1 := (HB.out.cell (World.block_lt_of_cell? w _ hx206_1)).trans hx206_1; replace hx206_2 := (HB.out.cell (World.block_lt_of_cell? w _ hx206_2)).trans hx206_2; replace hx206_3 := (HB.out.cell (World.block_lt_of_cell? w _ hx206_3)).trans hx206_3; replace p206 := eq_true p206; replace q206 := eq_true q206; go_wp2; repeat (go_quiet (fail); try go_wp2)
                   go_roundg kj19
                   case measure => have := HK1.out; have := HJ6.out; have := HJ19.out; omega
                   case rel => exact ⟨(wrap64 (x11_1 + 1)), (by first | rfl | (simp; done) | (simp [*]; done)), H', ⟨by have := HK1.out; have := HJ6.out; have := HJ19.out; omega⟩, ⟨by repeat (first | (with_reducible first | exact HB.out | apply below_alloc | apply pw_below_drewN | apply below_drew1 | refine below_set ?_ GE203.out) | exact HB.out)⟩⟩
                 ·rw [if_neg c31] at H; exact absurd H (by simp)
                ·rw [if_neg c30] at H; exact absurd H (by simp)
               ·rw [if_neg c28] at H; have c28b0 : decide (0 < x11_1) = false := decide_eq_false c28; clear c28; have H' := Aside0.mk H; clear H; go_wp2; repeat (go_quiet (fail); try go_wp2)
                go_roundg kj19
                case measure => have := HK1.out; have := HJ6.out; have := HJ19.out; omega
                case rel => exact ⟨(wrap64 (x11_1 + 1)), (by first | rfl | (simp; done) | (simp [*]; done)), H', ⟨by have := HK1.out; have := HJ6.out; have := HJ19.out; omega⟩, ⟨by repeat (first | (with_reducible first | exact HB.out | apply below_alloc | apply pw_below_drewN | apply below_drew1 | refine below_set ?_ GE203.out) | exact HB.out)⟩⟩
          ·rw [if_neg c17] at H; have c17b0 : (t204 == 0) = false := beq_eq_false_iff_ne.mpr c17; have c17b1 : (t204 != 0) = true := bne_iff_ne.mpr c17; obtain rfl := Option.some.inj H; go_wp2; repeat (go_quiet (fail); try go_wp2)
           go_ret; exact ⟨by first | rfl | (simp [errW_none, errW_some] <;> rfl) | (simp [*, errW_none, errW_some] <;> rfl), by repeat (first | (with_reducible first | exact HB.out | apply below_alloc | apply pw_below_drewN | apply below_drew1 | refine below_set ?_ GE203.out) | exact HB.out)⟩
      ·rw [if_neg c5] at H; exact absurd H (by simp)
     ·rw [if_neg c4] at H; exact absurd H (by simp)
    ·rw [if_neg c3] at H; have c3b0 : decide (x11_1 < (l0.length : Int)) = false := decide_eq_false c3; clear c3; obtain rfl := Option.some.inj H; go_wp2; repeat (go_quiet (fail); try go_wp2)
     go_ret; exact ⟨by first | rfl | (simp [errW_none, errW_some] <;> rfl) | (simp [*, errW_none, errW_some] <;> rfl), by repeat (first | (with_reducible first | exact HB.out | apply below_alloc | apply pw_below_drewN | apply below_drew1) | exact HB.out)⟩

/-! ### slices_Sort_int_int: function 70 (by hand) -/

def slices_Sort_int_int.f (l0 : List Int) : Option (List Int) := if l0.length ≤ 1000000 then some (l0.mergeSort fun x y => decide (x ≤ y)) else none
def slices_Sort_int_int.ren : Go.Shelf.Ren := ⟨fun | 189 => 70 | 125 => 93 | 257 => 92 | 128 => 114 | 129 => 102 | 294 => 105 | 295 => 106 | 296 => 107 | 297 => 108 | 298 => 109 | 299 => 110 | 216 => 111 | 300 => 112 | 301 => 113 | 328 => 118 | 329 => 119 | 330 => 120 | 331 => 121 | 332 => 122 | 215 => 123 | 343 => 133 | n => n, fun | 28 => 22 | 3 => 3 | 46 => 135 | 0 => 0 | 51 => 158 | 53 => 104 | 4 => 4 | 183 => 151 | 182 => 150 | 131 => 155 | 5 => 5 | 9 => 9 | 218 => 161 | 222 => 165 | 228 => 172 | 229 => 133 | n => n, fun | n => n⟩
theorem slices_Sort_int_int.lays : Go.Proofs.Lays.n189 Try.prog slices_Sort_int_int.ren := {
 mixed := by kernel_rfl
 f125 := Try.func93.trans (congrArg some (by kernel_rfl))
 f128 := Try.func114.trans (congrArg some (by kernel_rfl))
 f129 := Try.func102.trans (congrArg some (by kernel_rfl))
 f189 := Try.func70.trans (congrArg some (by kernel_rfl))
 f215 := Try.func123.trans (congrArg some (by kernel_rfl))
 f216 := Try.func111.trans (congrArg some (by kernel_rfl))
 f257 := Try.func92.trans (congrArg some (by kernel_rfl))
 f294 := Try.func105.trans (congrArg some (by kernel_rfl))
 f295 := Try.func106.trans (congrArg some (by kernel_rfl))
 f296 := Try.func107.trans (congrArg some (by kernel_rfl))
 f297 := Try.func108.trans (congrArg some (by kernel_rfl))
 f298 := Try.func109.trans (congrArg some (by kernel_rfl))
 f299 := Try.func110.trans (congrArg some (by kernel_rfl))
 f300 := Try.func112.trans (congrArg some (by kernel_rfl))
 f301 := Try.func113.trans (congrArg some (by kernel_rfl))
 f328 := Try.func118.trans (congrArg some (by kernel_rfl))
 f329 := Try.func119.trans (congrArg some (by kernel_rfl))
 f330 := Try.func120.trans (congrArg some (by kernel_rfl))
 f331 := Try.func121.trans (congrArg some (by kernel_rfl))
 f332 := Try.func122.trans (congrArg some (by kernel_rfl))
 f343 := Try.func133.trans (congrArg some (by kernel_rfl))
 t0 := Try.underlying0
 a0 := Try.isAgg0
 z0 := Try.sizeOf0
 v0 := Try.zeroValue0
 t3 := Try.underlying3
 a3 := Try.isAgg3
 z3 := Try.sizeOf3
 v3 := Try.zeroValue3
 t4 := Try.underlying4
 a4 := Try.isAgg4
 z4 := Try.sizeOf4
 v4 := Try.zeroValue4
 t5 := Try.underlying5
 a5 := Try.isAgg5
 z5 := Try.sizeOf5
 v5 := Try.zeroValue5
 t9 := Try.underlying9
 a9 := Try.isAgg9
 z9 := Try.sizeOf9
 v9 := Try.zeroValue9
 t28 := Try.underlying22
 a28 := Try.isAgg22
 z28 := Try.sizeOf22
 v28 := Try.zeroValue22
 t46 := Try.underlying135
 a46 := Try.isAgg135
 z46 := Try.sizeOf135
 v46 := Try.zeroValue135
 t51 := Try.underlying158
 a51 := Try.isAgg158
 z51 := Try.sizeOf158
 v51 := Try.zeroValue158
 t53 := Try.underlying104
 a53 := Try.isAgg104
 z53 := Try.sizeOf104
 v53 := Try.zeroValue104
 t131 := Try.underlying155
 a131 := Try.isAgg155
 z131 := Try.sizeOf155
 v131 := Try.zeroValue155
 t182 := Try.underlying150
 a182 := Try.isAgg150
 z182 := Try.sizeOf150
 v182 := Try.zeroValue150
 t183 := Try.underlying151
 a183 := Try.isAgg151
 z183 := Try.sizeOf151
 v183 := Try.zeroValue151
 t218 := Try.underlying161
 a218 := Try.isAgg161
 z218 := Try.sizeOf161
 v218 := Try.zeroValue161
 t222 := Try.underlying165
 a222 := Try.isAgg165
 z222 := Try.sizeOf165
 v222 := Try.zeroValue165
 t228 := Try.underlying172
 a228 := Try.isAgg172
 z228 := Try.sizeOf172
 v228 := Try.zeroValue172
 t229 := Try.underlying133
 a229 := Try.isAgg133
 z229 := Try.sizeOf133
 v229 := Try.zeroValue133 }
set_option maxHeartbeats 8000000 in
theorem slices_Sort_int_int.calls (P0_ : Nat → Prop) (u9000_ : Value) (l0 : List Int) (r : List Int) (w0 w : World) (hB : Below w0.heap.size w0 w) (ho0 : Kd.R (Kd.int .i64) 3 w w0.heap.size P0_ u9000_ l0) (h : slices_Sort_int_int.f l0 = some r) :
  Calls Try.prog 70 #[u9000_] w fun e w' => e = .returned (.tuple #[]) ∧ Kd.R (Kd.int .i64) 3 w' w0.heap.size (fun k_ => (P0_ k_ ∨ w.heap.size ≤ k_)) u9000_ r ∧ Below w0.heap.size w0 w' ∧ Kept w w' (fun k_ => P0_ k_) := by
 unfold slices_Sort_int_int.f at h; by_cases hl : l0.length ≤ 1000000
 ·rw [if_pos hl] at h; obtain rfl := Option.some.inj h; have hown := Kd.own_of_R (enc := Value.int .i64) (h1 := fun _ => rfl) ho0; rcases hown.2 with ⟨_, hn0⟩ | ⟨g, cap, cur, hu, hbase, hb, h1, h2, h3, h4⟩
  ·obtain rfl := List.eq_nil_of_length_eq_zero hn0; have hro := Kd.R_mono (ok' := fun k_ => (P0_ k_ ∨ w.heap.size ≤ k_)) ho0 (fun k hk => .inl hk); obtain ⟨A, c, rfl⟩ := Kd.R_slice ho0; refine (Any.slices_Sort_int_none slices_Sort_int_int.lays A c w).mono ?_; rintro e w' ⟨rfl, rfl⟩; have e0 : ([] : List Int).mergeSort (fun x y => decide (x ≤ y)) = [] := by simp [List.mergeSort]
   rw [e0]; exact ⟨rfl, hro, hB, Kept.refl _ _⟩
  ·subst hu; have hP : P0_ g := ho0.1 g rfl; have hgs : g < w.heap.size := (Array.getElem?_eq_some_iff.1 hb).1; have hH : Sort.Holds (Value.int .i64) w g 0 l0.toArray := holds_of_blockI hb (by rw [← Nat.mul_one l0.length, h4]; rfl); have hlen : (l0.mergeSort fun x y => decide (x ≤ y)).length = l0.length := List.length_mergeSort ..; refine (Any.slices_Sort_int slices_Sort_int_int.lays g 0 cap l0 w hH hgs (by omega)).mono ?_; rintro e w' ⟨rfl, n, os, rfl⟩; refine ⟨rfl, ?_, hB.grown (grownBy_sortedI _) hB.size (fun k hk => by cases hk; exact hbase), ⟨(grownBy_sortedI _).size, fun i hi hn => (grownBy_sortedI _).block i hi (fun e => hn (by rw [Option.some.inj e]; exact hP))⟩⟩; refine Kd.R_mono (ok := P0_) (Kd.R_of_own (enc := Value.int .i64) (h1 := fun _ => rfl) ?_ (fun k hk => by cases hk; exact hP)) (fun k hk => .inl hk); have hq := ownsRow_sortedI (os := os) (n := n) hlen hbase hb h1 h2 h3; rw [hlen]; exact hq
 ·rw [if_neg hl] at h
  cases h

/-! ### slices_Compact_int_int: function 71 (by hand) -/

def slices_Compact_int_int.f (l0 : List Int) : Option (List Int) := if l0.length ≤ 1000000 then some (Lib.compact l0) else none
def slices_Compact_int_int.ren : Go.Shelf.Ren := ⟨fun | 20 => 71 | n => n, fun | 22 => 22 | 3 => 3 | 4 => 4 | 0 => 0 | n => n, fun | n => n⟩
theorem slices_Compact_int_int.lays : Go.Proofs.Lays2.n20 Try.prog slices_Compact_int_int.ren := {
 mixed := by kernel_rfl
 f20 := Try.func71.trans (congrArg some (by kernel_rfl))
 t0 := Try.underlying0
 a0 := Try.isAgg0
 z0 := Try.sizeOf0
 v0 := Try.zeroValue0
 t3 := Try.underlying3
 a3 := Try.isAgg3
 z3 := Try.sizeOf3
 v3 := Try.zeroValue3
 t4 := Try.underlying4
 a4 := Try.isAgg4
 z4 := Try.sizeOf4
 v4 := Try.zeroValue4
 t22 := Try.underlying22
 a22 := Try.isAgg22
 z22 := Try.sizeOf22
 v22 := Try.zeroValue22
 i3 := by kernel_rfl }
theorem slices_Compact_int_int.le (l0 : List Int) : (Lib.compact l0).length ≤ l0.length := by
 unfold Lib.compact Lib.compactUpTo; rw [List.length_map]; exact Nat.le_trans (List.length_filter_le ..) (by simp)
set_option maxHeartbeats 8000000 in
theorem slices_Compact_int_int.calls (P0_ : Nat → Prop) (u9000_ : Value) (l0 : List Int) (r : List Int) (w0 w : World) (hB : Below w0.heap.size w0 w) (ho0 : Kd.R (Kd.int .i64) 3 w w0.heap.size P0_ u9000_ l0) (h : slices_Compact_int_int.f l0 = some r) :
  Calls Try.prog 71 #[u9000_] w fun e w' => ∃ v0_ : Value, e = .returned (v0_) ∧ Kd.R (Kd.int .i64) 3 w' w0.heap.size (fun k_ => (P0_ k_ ∨ w.heap.size ≤ k_)) v0_ r ∧ Below w0.heap.size w0 w' ∧ Kept w w' (fun k_ => P0_ k_) := by
 unfold slices_Compact_int_int.f at h; by_cases hl : l0.length ≤ 1000000
 ·rw [if_pos hl] at h; obtain rfl := Option.some.inj h; have hown := Kd.own_of_R (enc := Value.int .i64) (h1 := fun _ => rfl) ho0; rcases hown.2 with ⟨_, hn0⟩ | ⟨g, cap, cur, hu, hbase, hb, h1, h2, h3, h4⟩
  ·obtain rfl := List.eq_nil_of_length_eq_zero hn0; have hro := Kd.R_mono (ok' := fun k_ => (P0_ k_ ∨ w.heap.size ≤ k_)) ho0 (fun k hk => .inl hk); obtain ⟨A, c, rfl⟩ := Kd.R_slice ho0; refine (Any.slices_Compact_int_empty slices_Compact_int_int.lays A c w).mono ?_; rintro e w' ⟨rfl, rfl⟩; exact ⟨_, rfl, hro, hB, Kept.refl _ _⟩
  ·subst hu; have hP : P0_ g := ho0.1 g rfl; have hgs : g < w.heap.size := (Array.getElem?_eq_some_iff.1 hb).1; have hH : Sort.Holds (Value.int .i64) w g 0 l0.toArray := holds_of_blockI hb (by rw [← Nat.mul_one l0.length, h4]; rfl); have hlen := slices_Compact_int_int.le l0; refine (Any.slices_Compact_int slices_Compact_int_int.lays g 0 cap l0 w hH (by omega) h1).mono ?_; rintro e w' ⟨rfl, n, hw⟩; rw [← Sort.grow_empty (Sort.putRow _ _ _ _ _)] at hw; subst hw; refine ⟨_, rfl, ?_, hB.grown (grownBy_sortedI _) hB.size (fun k hk => by cases hk; exact hbase), ⟨(grownBy_sortedI _).size, fun i hi hn => (grownBy_sortedI _).block i hi (fun e => hn (by rw [Option.some.inj e]; exact hP))⟩⟩; refine Kd.R_mono (ok := P0_) (Kd.R_of_own (enc := Value.int .i64) (h1 := fun _ => rfl) ?_ (fun k hk => by cases hk; exact hP)) (fun k hk => .inl hk); obtain ⟨ts, hts⟩ : ∃ ts, ts = Lib.compact l0 ++ List.replicate (l0.length - (Lib.compact l0).length) 0 := ⟨_, rfl⟩; rw [← hts]; have htl : ts.length = l0.length := by rw [hts, List.length_append, List.length_replicate]; omega
   have hq := (ownsRow_sortedI (os := #[]) (n := n) htl hbase hb h1 h2 h3).2; rcases hq with ⟨hq0, _⟩ | ⟨g2, cap2, cur2, hv2, hb2, hc2, k1, k2, k3, k4⟩
   ·cases hq0
   ·cases hv2; refine ⟨by simp [encs], .inr ⟨g, cap, cur2, rfl, hb2, hc2, by omega, k2, k3, ?_⟩⟩; have h5 : cur2.toList.take (Lib.compact l0).length = (cur2.toList.take l0.length).take (Lib.compact l0).length := by rw [List.take_take, Nat.min_eq_left hlen]
    rw [Nat.mul_one] at k4 ⊢; rw [h5, k4, hts, List.map_append, List.take_left' (by simp)]; rfl
 ·rw [if_neg hl] at h
  cases h

end Go.Proofs.Ythedaldmhjocdaa.PTableCourses
