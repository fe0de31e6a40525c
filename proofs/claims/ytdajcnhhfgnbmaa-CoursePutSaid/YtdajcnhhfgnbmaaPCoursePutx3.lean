/- The machine side of a law, written by a program of this session (wip/mp). -/
import Derived.Test.YtdajcnhhfgnbmaaPCoursePutx0
import Derived.Test.YtdajcnhhfgnbmaaPCoursePutx1
import Derived.Test.YtdajcnhhfgnbmaaPCoursePutx2
namespace Go.Proofs.Ytdajcnhhfgnbmaa.PCoursePut
open Go.RowKit Go.Proofs.YtdajcnhhfgnbmaaW.PrintWords Go.Proofs.YtdajcnhhfgnbmaaW.PrintLast Go.Proofs.YtdajcnhhfgnbmaaW.PrintMore
attribute [local go_sem] max2_int min2_int max_two min_two max_three min_three max_four min_four   -- for this text's walks alone
set_option linter.unusedVariables false
set_option linter.unusedSimpArgs false

attribute [local go_sem high] eqA43
attribute [local go_sem] fld43_1
/-! ### course_Check: function 41 -/
mutual
def course_Check.l0 : Nat → List (S46) → List (S46) → Int → Int → Option (Int)
  | 0, _, _, _, _ => none
  | k + 1, x0, x9, x10, x11 => if x11 < x10 then (if 0 ≤ x11 then (if x11 < (x9.length : Int) then ((unit_Check.f ((rd_T46 x9 x11).f2.f0) ((rd_T46 x9 x11).f2.f1)).bind fun t125 => (if ((rd_T46 x9 x11).f0) < 0 then (course_Check.j1 k x0 x11 t125 x9 x10 x11 true ((rd_T46 x9 x11).f0) ((rd_T46 x9 x11).f1) ((rd_T46 x9 x11).f2.f0) ((rd_T46 x9 x11).f2.f1)) else (if ((rd_T46 x9 x11).f0) ≥ ((rd_T46 x9 x11).f1) then (course_Check.j1 k x0 x11 t125 x9 x10 x11 true ((rd_T46 x9 x11).f0) ((rd_T46 x9 x11).f1) ((rd_T46 x9 x11).f2.f0) ((rd_T46 x9 x11).f2.f1)) else (course_Check.j1 k x0 x11 t125 x9 x10 x11 (decide (((rd_T46 x9 x11).f1) > 1048576)) ((rd_T46 x9 x11).f0) ((rd_T46 x9 x11).f1) ((rd_T46 x9 x11).f2.f0) ((rd_T46 x9 x11).f2.f1))))) else (none)) else (none)) else (some 0)
def course_Check.j1 : Nat → List (S46) → Int → Int → List (S46) → Int → Int → Bool → Int → Int → Int → Int → Option (Int)
  | 0, _, _, _, _, _, _, _, _, _, _, _ => none
  | k + 1, x0, x3, x5, x9, x10, x11, x19, x125000, x125001, x125002, x125003 => if x19 = true then (some 1) else (if x5 = 0 then (if x125002 = 0 then (some 16) else (if x3 > 0 then (if 0 ≤ (wrap64 (x3 - 1)) then (if (wrap64 (x3 - 1)) < (x0.length : Int) then (course_Check.j2 k x0 x3 x9 x10 x11 (decide (x125000 < ((rd_T46 x0 (wrap64 (x3 - 1))).f1))) x125000 x125001 x125002 x125003) else (none)) else (none)) else (course_Check.j2 k x0 x3 x9 x10 x11 false x125000 x125001 x125002 x125003))) else (some x5))
def course_Check.j2 : Nat → List (S46) → Int → List (S46) → Int → Int → Bool → Int → Int → Int → Int → Option (Int)
  | 0, _, _, _, _, _, _, _, _, _, _ => none
  | k + 1, x0, x3, x9, x10, x11, x44, x125000, x125001, x125002, x125003 => if x44 = true then (some 9) else (if x3 > 0 then (if 0 ≤ (wrap64 (x3 - 1)) then (if (wrap64 (x3 - 1)) < (x0.length : Int) then (if x125000 = ((rd_T46 x0 (wrap64 (x3 - 1))).f1) then (if (x125002 == ((rd_T46 x0 (wrap64 (x3 - 1))).f2.f0) && (x125003 == ((rd_T46 x0 (wrap64 (x3 - 1))).f2.f1))) = true then (some 3) else (course_Check.l0 k x0 x9 x10 (wrap64 (x11 + 1)))) else (course_Check.l0 k x0 x9 x10 (wrap64 (x11 + 1)))) else (none)) else (none)) else (course_Check.l0 k x0 x9 x10 (wrap64 (x11 + 1))))
end
def course_Check.f (k : Nat) (l0 : List (S46)) : Option (Int) := if (l0.length : Int) > 1000 then (some 2) else (course_Check.l0 k l0 l0 (l0.length : Int) 0)
theorem course_Check.mono_l : ∀ k, (∀ y0 y1 y2 y3, LeO (course_Check.l0 k y0 y1 y2 y3) (course_Check.l0 (k + 1) y0 y1 y2 y3)) ∧ (∀ y0 y1 y2 y3 y4 y5 y6 y7 y8 y9 y10, LeO (course_Check.j1 k y0 y1 y2 y3 y4 y5 y6 y7 y8 y9 y10) (course_Check.j1 (k + 1) y0 y1 y2 y3 y4 y5 y6 y7 y8 y9 y10)) ∧ (∀ y0 y1 y2 y3 y4 y5 y6 y7 y8 y9, LeO (course_Check.j2 k y0 y1 y2 y3 y4 y5 y6 y7 y8 y9) (course_Check.j2 (k + 1) y0 y1 y2 y3 y4 y5 y6 y7 y8 y9))
  | 0 => ⟨fun _ _ _ _ r h => by simp [course_Check.l0] at h, fun _ _ _ _ _ _ _ _ _ _ _ r h => by simp [course_Check.j1] at h, fun _ _ _ _ _ _ _ _ _ _ r h => by simp [course_Check.j2] at h⟩
  | k + 1 => by
    obtain ⟨ih0, ih1, ih2⟩ := course_Check.mono_l k
    refine ⟨?_, ?_, ?_⟩
    · intro y0 y1 y2 y3
      unfold course_Check.l0
      repeat' first
      | (with_reducible exact ih0 _ _ _ _)
      | (with_reducible exact ih1 _ _ _ _ _ _ _ _ _ _ _)
      | (with_reducible exact ih2 _ _ _ _ _ _ _ _ _ _)
      | (with_reducible exact LeO.refl _)
      | (with_reducible exact LeO.none _)
      | (with_reducible refine LeO.ite ?_ ?_)
      | (with_reducible refine LeO.bind ?_ (fun _ => ?_))
      | exact ih0 _ _ _ _
      | exact ih1 _ _ _ _ _ _ _ _ _ _ _
      | exact ih2 _ _ _ _ _ _ _ _ _ _
      | exact LeO.none _
      | refine LeO.ite ?_ ?_
      | refine LeO.bind ?_ (fun _ => ?_)
    · intro y0 y1 y2 y3 y4 y5 y6 y7 y8 y9 y10
      unfold course_Check.j1
      repeat' first
      | (with_reducible exact ih0 _ _ _ _)
      | (with_reducible exact ih1 _ _ _ _ _ _ _ _ _ _ _)
      | (with_reducible exact ih2 _ _ _ _ _ _ _ _ _ _)
      | (with_reducible exact LeO.refl _)
      | (with_reducible exact LeO.none _)
      | (with_reducible refine LeO.ite ?_ ?_)
      | (with_reducible refine LeO.bind ?_ (fun _ => ?_))
      | exact ih0 _ _ _ _
      | exact ih1 _ _ _ _ _ _ _ _ _ _ _
      | exact ih2 _ _ _ _ _ _ _ _ _ _
      | exact LeO.none _
      | refine LeO.ite ?_ ?_
      | refine LeO.bind ?_ (fun _ => ?_)
    · intro y0 y1 y2 y3 y4 y5 y6 y7 y8 y9
      unfold course_Check.j2
      repeat' first
      | (with_reducible exact ih0 _ _ _ _)
      | (with_reducible exact ih1 _ _ _ _ _ _ _ _ _ _ _)
      | (with_reducible exact ih2 _ _ _ _ _ _ _ _ _ _)
      | (with_reducible exact LeO.refl _)
      | (with_reducible exact LeO.none _)
      | (with_reducible refine LeO.ite ?_ ?_)
      | (with_reducible refine LeO.bind ?_ (fun _ => ?_))
      | exact ih0 _ _ _ _
      | exact ih1 _ _ _ _ _ _ _ _ _ _ _
      | exact ih2 _ _ _ _ _ _ _ _ _ _
      | exact LeO.none _
      | refine LeO.ite ?_ ?_
      | refine LeO.bind ?_ (fun _ => ?_)
theorem course_Check.mono : ∀ a0 k, LeO (course_Check.f k a0) (course_Check.f (k + 1) a0) := by
  intro a0 k
  obtain ⟨ih0, ih1, ih2⟩ := course_Check.mono_l k
  unfold course_Check.f
  repeat' first
      | (with_reducible exact ih0 _ _ _ _)
      | (with_reducible exact ih1 _ _ _ _ _ _ _ _ _ _ _)
      | (with_reducible exact ih2 _ _ _ _ _ _ _ _ _ _)
      | (with_reducible exact LeO.refl _)
      | (with_reducible exact LeO.none _)
      | (with_reducible refine LeO.ite ?_ ?_)
      | (with_reducible refine LeO.bind ?_ (fun _ => ?_))
      | exact ih0 _ _ _ _
      | exact ih1 _ _ _ _ _ _ _ _ _ _ _
      | exact ih2 _ _ _ _ _ _ _ _ _ _
      | exact LeO.none _
      | refine LeO.ite ?_ ?_
      | refine LeO.bind ?_ (fun _ => ?_)
set_option maxHeartbeats 8000000 in
set_option maxRecDepth 100000 in
theorem course_Check.calls (k : Nat) (A0 : Option Addr) (c0 : Nat) (l0 : List (S46)) (r : Int) (w : World) (hr0 : Kd.C k46 w A0 l0.length l0) (hc0 : l0.length ≤ c0) (h : course_Check.f k l0 = some r) :
    Calls Try.prog 41 #[.slice A0 l0.length c0] w fun e w' => e = .returned (.int .i64 r) ∧ Below w.heap.size w w' := by
  have hu46 := Try.underlying46
  have hu43 := Try.underlying43
  have HR0 := Aside0.mk hr0
  have HC0 := Aside0.mk hc0
  clear hr0 hc0
  have HB := Aside0.mk (Below.refl w.heap.size w)
  have H : (if (l0.length : Int) > 1000 then (some 2) else (course_Check.l0 k l0 l0 (l0.length : Int) 0)) = some r := h
  clear h
  by_cases c2 : (l0.length : Int) > 1000
  · rw [if_pos c2] at H
    have c2b0 : decide (1000 < (l0.length : Int)) = true := decide_eq_true c2
    have c2b1 : decide (1000 < l0.length) = true := decide_eq_true (by omega)
    clear c2
    obtain rfl := Option.some.inj H
    go_enter Try.func41, Try.ntmps41
    go_wp2
    repeat (go_quiet (fail); try go_wp2)
    go_ret
    exact ⟨by first | rfl | (simp [errW_none, errW_some] <;> rfl) | (simp [*, errW_none, errW_some] <;> rfl), by repeat (first | (with_reducible first | exact HB.out | apply below_alloc | apply pw_below_drewN | apply below_drew1) | exact HB.out)⟩
  · rw [if_neg c2] at H
    have c2b0 : decide (1000 < (l0.length : Int)) = false := decide_eq_false c2
    have c2b1 : decide (1000 < l0.length) = false := decide_eq_false (by omega)
    clear c2
    have H' := Aside0.mk H
    clear H
    go_enter Try.func41, Try.ntmps41
    go_wp2
    repeat (go_quiet (fail); try go_wp2)
    go_loopg [11] k (fun kq v11 w' => ∃ (x11_1 : Int), v11 = .int .i64 x11_1 ∧ Aside0 (course_Check.l0 kq l0 l0 (l0.length : Int) x11_1 = some r) ∧ Aside0 (kq ≤ k) ∧ Aside0 (Below w.heap.size w w'))
    case atStart => exact ⟨(0), (by first | rfl | (simp; done) | (simp [*]; done)), H', ⟨Nat.le_refl _⟩, ⟨by repeat (first | (with_reducible first | exact HB.out | apply below_alloc | apply pw_below_drewN | apply below_drew1) | exact HB.out)⟩⟩
    case round =>
      clear H'
      try clear c2
      try clear c2b0
      try clear c2b1
      try clear p2
      obtain ⟨x11_1, rfl, HA, HK1, HB⟩ := hrel
      cases gk with
      | zero => exact absurd HA.out (by simp [course_Check.l0])
      | succ k1 =>
        have H := HA.out
        clear HA
        simp only [course_Check.l0] at H
        by_cases c3 : x11_1 < (l0.length : Int)
        · rw [if_pos c3] at H
          have c3b0 : decide (x11_1 < (l0.length : Int)) = true := decide_eq_true c3
          clear c3
          by_cases c4 : 0 ≤ x11_1
          · rw [if_pos c4] at H
            have c4b0 : decide (0 ≤ x11_1) = true := decide_eq_true c4
            clear c4
            by_cases c5 : x11_1 < (l0.length : Int)
            · rw [if_pos c5] at H
              have c5b0 : decide (x11_1 < (l0.length : Int)) = true := decide_eq_true c5
              clear c5
              replace H := Option.bind_eq_some_iff.mp H
              obtain ⟨t125, A60, H⟩ := H
              replace H : (if ((rd_T46 l0 x11_1).f0) < 0 then (course_Check.j1 k1 l0 x11_1 t125 l0 (l0.length : Int) x11_1 true ((rd_T46 l0 x11_1).f0) ((rd_T46 l0 x11_1).f1) ((rd_T46 l0 x11_1).f2.f0) ((rd_T46 l0 x11_1).f2.f1)) else (if ((rd_T46 l0 x11_1).f0) ≥ ((rd_T46 l0 x11_1).f1) then (course_Check.j1 k1 l0 x11_1 t125 l0 (l0.length : Int) x11_1 true ((rd_T46 l0 x11_1).f0) ((rd_T46 l0 x11_1).f1) ((rd_T46 l0 x11_1).f2.f0) ((rd_T46 l0 x11_1).f2.f1)) else (course_Check.j1 k1 l0 x11_1 t125 l0 (l0.length : Int) x11_1 (decide (((rd_T46 l0 x11_1).f1) > 1048576)) ((rd_T46 l0 x11_1).f0) ((rd_T46 l0 x11_1).f1) ((rd_T46 l0 x11_1).f2.f0) ((rd_T46 l0 x11_1).f2.f1)))) = some r := H
              have A6 := Aside0.mk A60
              clear A60
              have HC7 := Aside0.mk H
              clear H
              have p123 : 0 ≤ (x11_1 : Int) := of_decide_eq_true (by first | (with_reducible assumption) | assumption)
              have q123 : x11_1 < (l0.length : Int) := of_decide_eq_true (by first | (with_reducible assumption) | assumption)
              obtain ⟨ad123, e123, hx123_0, hx123_1, hx123_2, hx123_3⟩ := at_T46 HR0.out x11_1 p123 q123
              cases e123
              replace hx123_0 := (HB.out.cell (World.block_lt_of_cell? w _ hx123_0)).trans hx123_0
              replace hx123_1 := (HB.out.cell (World.block_lt_of_cell? w _ hx123_1)).trans hx123_1
              replace hx123_2 := (HB.out.cell (World.block_lt_of_cell? w _ hx123_2)).trans hx123_2
              replace hx123_3 := (HB.out.cell (World.block_lt_of_cell? w _ hx123_3)).trans hx123_3
              replace p123 := eq_true p123
              replace q123 := eq_true q123
              go_upto_region 7 with (first | ((with_reducible refine gate_dst (N := 4) rfl ?_); refine box_event ?hg (N := 4) ?hd (cs := #[.int .i64 0, .int .i64 0, .int .i64 0, .int .i64 0]) (t := 46) ?hr ?_; (case hd => rfl); (case hg => rfl); (case hr => first | (go_simp; done) | (go_simp; rfl)); intro gb124 hg w8 hbox hb; have n0_ := Aside0.mk (below_step (by repeat (first | (with_reducible first | exact HB.out | apply below_alloc | apply pw_below_drewN | apply below_drew1) | exact HB.out)) hb); have n1_ := Aside0.mk (hbox); have n2_ := Aside0.mk ((by rw [hg]; exact (below_size (by repeat (first | (with_reducible first | exact HB.out | apply below_alloc | apply pw_below_drewN | apply below_drew1) | exact HB.out))) : w.heap.size ≤ gb124)); have n3_ := Aside0.mk ((by rw [hg]; exact (below_size (by repeat (first | (with_reducible first | exact HB.out | apply below_alloc | apply pw_below_drewN | apply below_drew1) | exact HB.out))) : w.heap.size ≤ gb124)); clear HB; have HB := n0_; have BK124 := n1_; have GW124 := n2_; have GE124 := n3_; clear n0_ n1_ n2_ n3_; clear hb hbox hg; have hcz9_0 : w8.cell? ⟨gb124, 0, none⟩ = some (.int .i64 0) := (blk_cell BK124.out 0).trans rfl; have hcz9_1 : w8.cell? ⟨gb124, 1, none⟩ = some (.int .i64 0) := (blk_cell BK124.out 1).trans rfl; have hcz9_2 : w8.cell? ⟨gb124, 2, none⟩ = some (.int .i64 0) := (blk_cell BK124.out 2).trans rfl; have hcz9_3 : w8.cell? ⟨gb124, 3, none⟩ = some (.int .i64 0) := (blk_cell BK124.out 3).trans rfl; have hfz9_0 := blk_frozen BK124.out 0; have hfz9_1 := blk_frozen BK124.out 1; have hfz9_2 := blk_frozen BK124.out 2; have hfz9_3 := blk_frozen BK124.out 3) | (go_at_call 59; (with_reducible refine (unit_Check.calls ((rd_T46 l0 x11_1).f2.f0) ((rd_T46 l0 x11_1).f2.f1) t125 _ A6.out).mono ?_); rintro e w10 ⟨rfl, hb⟩; have n0_ := Aside0.mk (blk_below (g := gb124) (o := .cells #[.int .i64 ((rd_T46 l0 x11_1).f0), .int .i64 ((rd_T46 l0 x11_1).f1), .int .i64 ((rd_T46 l0 x11_1).f2.f0), .int .i64 ((rd_T46 l0 x11_1).f2.f1)] 46 (0, 0)) (by (with_reducible repeat (first | refine blk_drewN ?_ _ | refine blk_drew ?_ | refine blk_alloc ?_ _)); refine blk_put (cs := #[.int .i64 ((rd_T46 l0 x11_1).f0), .int .i64 ((rd_T46 l0 x11_1).f1), .int .i64 ((rd_T46 l0 x11_1).f2.f0), .int .i64 0]) ?_ 3 _ rfl; (with_reducible repeat (first | refine blk_drewN ?_ _ | refine blk_drew ?_ | refine blk_alloc ?_ _)); refine blk_put (cs := #[.int .i64 ((rd_T46 l0 x11_1).f0), .int .i64 ((rd_T46 l0 x11_1).f1), .int .i64 0, .int .i64 0]) ?_ 2 _ rfl; (with_reducible repeat (first | refine blk_drewN ?_ _ | refine blk_drew ?_ | refine blk_alloc ?_ _)); refine blk_put (cs := #[.int .i64 ((rd_T46 l0 x11_1).f0), .int .i64 0, .int .i64 0, .int .i64 0]) ?_ 1 _ rfl; (with_reducible repeat (first | refine blk_drewN ?_ _ | refine blk_drew ?_ | refine blk_alloc ?_ _)); refine blk_put (cs := #[.int .i64 0, .int .i64 0, .int .i64 0, .int .i64 0]) ?_ 0 _ rfl; (with_reducible repeat (first | refine blk_drewN ?_ _ | refine blk_drew ?_ | refine blk_alloc ?_ _)); exact BK124.out) hb); have n1_ := Aside0.mk (below_step (by repeat (first | (with_reducible first | exact HB.out | apply below_alloc | apply pw_below_drewN | apply below_drew1 | refine below_set ?_ GE124.out) | exact HB.out)) hb); clear BK124; clear HB; have BK124 := n0_; have HB := n1_; clear n0_ n1_; (try clear hb); (try clear hb2); (try clear hk); (try clear hi)))
              repeat (go_quiet (first | ((with_reducible refine gate_dst (N := 4) rfl ?_); refine box_event ?hg (N := 4) ?hd (cs := #[.int .i64 0, .int .i64 0, .int .i64 0, .int .i64 0]) (t := 46) ?hr ?_; (case hd => rfl); (case hg => rfl); (case hr => first | (go_simp; done) | (go_simp; rfl)); intro gb124 hg w8 hbox hb; have n0_ := Aside0.mk (below_step (by repeat (first | (with_reducible first | exact HB.out | apply below_alloc | apply pw_below_drewN | apply below_drew1) | exact HB.out)) hb); have n1_ := Aside0.mk (hbox); have n2_ := Aside0.mk ((by rw [hg]; exact (below_size (by repeat (first | (with_reducible first | exact HB.out | apply below_alloc | apply pw_below_drewN | apply below_drew1) | exact HB.out))) : w.heap.size ≤ gb124)); have n3_ := Aside0.mk ((by rw [hg]; exact (below_size (by repeat (first | (with_reducible first | exact HB.out | apply below_alloc | apply pw_below_drewN | apply below_drew1) | exact HB.out))) : w.heap.size ≤ gb124)); clear HB; have HB := n0_; have BK124 := n1_; have GW124 := n2_; have GE124 := n3_; clear n0_ n1_ n2_ n3_; clear hb hbox hg; have hcz9_0 : w8.cell? ⟨gb124, 0, none⟩ = some (.int .i64 0) := (blk_cell BK124.out 0).trans rfl; have hcz9_1 : w8.cell? ⟨gb124, 1, none⟩ = some (.int .i64 0) := (blk_cell BK124.out 1).trans rfl; have hcz9_2 : w8.cell? ⟨gb124, 2, none⟩ = some (.int .i64 0) := (blk_cell BK124.out 2).trans rfl; have hcz9_3 : w8.cell? ⟨gb124, 3, none⟩ = some (.int .i64 0) := (blk_cell BK124.out 3).trans rfl; have hfz9_0 := blk_frozen BK124.out 0; have hfz9_1 := blk_frozen BK124.out 1; have hfz9_2 := blk_frozen BK124.out 2; have hfz9_3 := blk_frozen BK124.out 3) | (go_at_call 59; (with_reducible refine (unit_Check.calls ((rd_T46 l0 x11_1).f2.f0) ((rd_T46 l0 x11_1).f2.f1) t125 _ A6.out).mono ?_); rintro e w10 ⟨rfl, hb⟩; have n0_ := Aside0.mk (blk_below (g := gb124) (o := .cells #[.int .i64 ((rd_T46 l0 x11_1).f0), .int .i64 ((rd_T46 l0 x11_1).f1), .int .i64 ((rd_T46 l0 x11_1).f2.f0), .int .i64 ((rd_T46 l0 x11_1).f2.f1)] 46 (0, 0)) (by (with_reducible repeat (first | refine blk_drewN ?_ _ | refine blk_drew ?_ | refine blk_alloc ?_ _)); refine blk_put (cs := #[.int .i64 ((rd_T46 l0 x11_1).f0), .int .i64 ((rd_T46 l0 x11_1).f1), .int .i64 ((rd_T46 l0 x11_1).f2.f0), .int .i64 0]) ?_ 3 _ rfl; (with_reducible repeat (first | refine blk_drewN ?_ _ | refine blk_drew ?_ | refine blk_alloc ?_ _)); refine blk_put (cs := #[.int .i64 ((rd_T46 l0 x11_1).f0), .int .i64 ((rd_T46 l0 x11_1).f1), .int .i64 0, .int .i64 0]) ?_ 2 _ rfl; (with_reducible repeat (first | refine blk_drewN ?_ _ | refine blk_drew ?_ | refine blk_alloc ?_ _)); refine blk_put (cs := #[.int .i64 ((rd_T46 l0 x11_1).f0), .int .i64 0, .int .i64 0, .int .i64 0]) ?_ 1 _ rfl; (with_reducible repeat (first | refine blk_drewN ?_ _ | refine blk_drew ?_ | refine blk_alloc ?_ _)); refine blk_put (cs := #[.int .i64 0, .int .i64 0, .int .i64 0, .int .i64 0]) ?_ 0 _ rfl; (with_reducible repeat (first | refine blk_drewN ?_ _ | refine blk_drew ?_ | refine blk_alloc ?_ _)); exact BK124.out) hb); have n1_ := Aside0.mk (below_step (by repeat (first | (with_reducible first | exact HB.out | apply below_alloc | apply pw_below_drewN | apply below_drew1 | refine below_set ?_ GE124.out) | exact HB.out)) hb); clear BK124; clear HB; have BK124 := n0_; have HB := n1_; clear n0_ n1_; (try clear hb); (try clear hb2); (try clear hk); (try clear hi))); go_upto_region 7 with (first | ((with_reducible refine gate_dst (N := 4) rfl ?_); refine box_event ?hg (N := 4) ?hd (cs := #[.int .i64 0, .int .i64 0, .int .i64 0, .int .i64 0]) (t := 46) ?hr ?_; (case hd => rfl); (case hg => rfl); (case hr => first | (go_simp; done) | (go_simp; rfl)); intro gb124 hg w8 hbox hb; have n0_ := Aside0.mk (below_step (by repeat (first | (with_reducible first | exact HB.out | apply below_alloc | apply pw_below_drewN | apply below_drew1) | exact HB.out)) hb); have n1_ := Aside0.mk (hbox); have n2_ := Aside0.mk ((by rw [hg]; exact (below_size (by repeat (first | (with_reducible first | exact HB.out | apply below_alloc | apply pw_below_drewN | apply below_drew1) | exact HB.out))) : w.heap.size ≤ gb124)); have n3_ := Aside0.mk ((by rw [hg]; exact (below_size (by repeat (first | (with_reducible first | exact HB.out | apply below_alloc | apply pw_below_drewN | apply below_drew1) | exact HB.out))) : w.heap.size ≤ gb124)); clear HB; have HB := n0_; have BK124 := n1_; have GW124 := n2_; have GE124 := n3_; clear n0_ n1_ n2_ n3_; clear hb hbox hg; have hcz9_0 : w8.cell? ⟨gb124, 0, none⟩ = some (.int .i64 0) := (blk_cell BK124.out 0).trans rfl; have hcz9_1 : w8.cell? ⟨gb124, 1, none⟩ = some (.int .i64 0) := (blk_cell BK124.out 1).trans rfl; have hcz9_2 : w8.cell? ⟨gb124, 2, none⟩ = some (.int .i64 0) := (blk_cell BK124.out 2).trans rfl; have hcz9_3 : w8.cell? ⟨gb124, 3, none⟩ = some (.int .i64 0) := (blk_cell BK124.out 3).trans rfl; have hfz9_0 := blk_frozen BK124.out 0; have hfz9_1 := blk_frozen BK124.out 1; have hfz9_2 := blk_frozen BK124.out 2; have hfz9_3 := blk_frozen BK124.out 3) | (go_at_call 59; (with_reducible refine (unit_Check.calls ((rd_T46 l0 x11_1).f2.f0) ((rd_T46 l0 x11_1).f2.f1) t125 _ A6.out).mono ?_); rintro e w10 ⟨rfl, hb⟩; have n0_ := Aside0.mk (blk_below (g := gb124) (o := .cells #[.int .i64 ((rd_T46 l0 x11_1).f0), .int .i64 ((rd_T46 l0 x11_1).f1), .int .i64 ((rd_T46 l0 x11_1).f2.f0), .int .i64 ((rd_T46 l0 x11_1).f2.f1)] 46 (0, 0)) (by (with_reducible repeat (first | refine blk_drewN ?_ _ | refine blk_drew ?_ | refine blk_alloc ?_ _)); refine blk_put (cs := #[.int .i64 ((rd_T46 l0 x11_1).f0), .int .i64 ((rd_T46 l0 x11_1).f1), .int .i64 ((rd_T46 l0 x11_1).f2.f0), .int .i64 0]) ?_ 3 _ rfl; (with_reducible repeat (first | refine blk_drewN ?_ _ | refine blk_drew ?_ | refine blk_alloc ?_ _)); refine blk_put (cs := #[.int .i64 ((rd_T46 l0 x11_1).f0), .int .i64 ((rd_T46 l0 x11_1).f1), .int .i64 0, .int .i64 0]) ?_ 2 _ rfl; (with_reducible repeat (first | refine blk_drewN ?_ _ | refine blk_drew ?_ | refine blk_alloc ?_ _)); refine blk_put (cs := #[.int .i64 ((rd_T46 l0 x11_1).f0), .int .i64 0, .int .i64 0, .int .i64 0]) ?_ 1 _ rfl; (with_reducible repeat (first | refine blk_drewN ?_ _ | refine blk_drew ?_ | refine blk_alloc ?_ _)); refine blk_put (cs := #[.int .i64 0, .int .i64 0, .int .i64 0, .int .i64 0]) ?_ 0 _ rfl; (with_reducible repeat (first | refine blk_drewN ?_ _ | refine blk_drew ?_ | refine blk_alloc ?_ _)); exact BK124.out) hb); have n1_ := Aside0.mk (below_step (by repeat (first | (with_reducible first | exact HB.out | apply below_alloc | apply pw_below_drewN | apply below_drew1 | refine below_set ?_ GE124.out) | exact HB.out)) hb); clear BK124; clear HB; have BK124 := n0_; have HB := n1_; clear n0_ n1_; (try clear hb); (try clear hb2); (try clear hk); (try clear hi))))
              (try simp only [Act.put, List.setIfInBounds_toArray, List.set_cons_zero, List.set_cons_succ])
              go_cut [19] (fun v19 wc => ∃ (kq : Nat) (x19_6 : Bool), v19 = .bool x19_6 ∧ Aside0 (course_Check.j1 kq l0 x11_1 t125 l0 (l0.length : Int) x11_1 x19_6 ((rd_T46 l0 x11_1).f0) ((rd_T46 l0 x11_1).f1) ((rd_T46 l0 x11_1).f2.f0) ((rd_T46 l0 x11_1).f2.f1) = some r) ∧ Aside0 (kq ≤ k1) ∧ Aside0 (wc.heap[gb124]? = some (.cells #[.int .i64 ((rd_T46 l0 x11_1).f0), .int .i64 ((rd_T46 l0 x11_1).f1), .int .i64 ((rd_T46 l0 x11_1).f2.f0), .int .i64 ((rd_T46 l0 x11_1).f2.f1)] 46 (0, 0))) ∧ Aside0 (Below w.heap.size w wc))
              case first =>
                have H := HC7.out
                clear HC7
                by_cases c11 : ((rd_T46 l0 x11_1).f0) < 0
                · rw [if_pos c11] at H
                  have c11b0 : decide (((rd_T46 l0 x11_1).f0) < 0) = true := decide_eq_true c11
                  clear c11
                  (first | rw [c11b0] | (simp only [i64_w, i32_w]; rw [c11b0]) | skip)
                  have H' := Aside0.mk H
                  clear H
                  have hcz12_0 : w10.cell? ⟨gb124, 0, none⟩ = some (.int .i64 ((rd_T46 l0 x11_1).f0)) := (blk_cell BK124.out 0).trans rfl
                  have hcz12_1 : w10.cell? ⟨gb124, 1, none⟩ = some (.int .i64 ((rd_T46 l0 x11_1).f1)) := (blk_cell BK124.out 1).trans rfl
                  have hcz12_2 : w10.cell? ⟨gb124, 2, none⟩ = some (.int .i64 ((rd_T46 l0 x11_1).f2.f0)) := (blk_cell BK124.out 2).trans rfl
                  have hcz12_3 : w10.cell? ⟨gb124, 3, none⟩ = some (.int .i64 ((rd_T46 l0 x11_1).f2.f1)) := (blk_cell BK124.out 3).trans rfl
                  have hfz12_0 := blk_frozen BK124.out 0
                  have hfz12_1 := blk_frozen BK124.out 1
                  have hfz12_2 := blk_frozen BK124.out 2
                  have hfz12_3 := blk_frozen BK124.out 3
                  go_wp2
                  repeat (go_quiet (fail); try go_wp2)
                  go_meet
                  case rel => exact ⟨_, (true), (by first | rfl | (simp; done) | (simp [*]; done)), H', ⟨by have := HK1.out; first | omega | exact Nat.le_refl _⟩, ⟨by (with_reducible repeat (first | refine blk_drewN ?_ _ | refine blk_drew ?_ | refine blk_alloc ?_ _)); exact BK124.out⟩, ⟨by repeat (first | (with_reducible first | exact HB.out | apply below_alloc | apply pw_below_drewN | apply below_drew1 | refine below_set ?_ GE124.out) | exact HB.out)⟩⟩
                · rw [if_neg c11] at H
                  have c11b0 : decide (((rd_T46 l0 x11_1).f0) < 0) = false := decide_eq_false c11
                  clear c11
                  (first | rw [c11b0] | (simp only [i64_w, i32_w]; rw [c11b0]) | skip)
                  by_cases c13 : ((rd_T46 l0 x11_1).f0) ≥ ((rd_T46 l0 x11_1).f1)
                  · rw [if_pos c13] at H
                    have c13b0 : decide (((rd_T46 l0 x11_1).f1) ≤ ((rd_T46 l0 x11_1).f0)) = true := decide_eq_true c13
                    clear c13
                    have H' := Aside0.mk H
                    clear H
                    have hcz14_0 : w10.cell? ⟨gb124, 0, none⟩ = some (.int .i64 ((rd_T46 l0 x11_1).f0)) := (blk_cell BK124.out 0).trans rfl
                    have hcz14_1 : w10.cell? ⟨gb124, 1, none⟩ = some (.int .i64 ((rd_T46 l0 x11_1).f1)) := (blk_cell BK124.out 1).trans rfl
                    have hcz14_2 : w10.cell? ⟨gb124, 2, none⟩ = some (.int .i64 ((rd_T46 l0 x11_1).f2.f0)) := (blk_cell BK124.out 2).trans rfl
                    have hcz14_3 : w10.cell? ⟨gb124, 3, none⟩ = some (.int .i64 ((rd_T46 l0 x11_1).f2.f1)) := (blk_cell BK124.out 3).trans rfl
                    have hfz14_0 := blk_frozen BK124.out 0
                    have hfz14_1 := blk_frozen BK124.out 1
                    have hfz14_2 := blk_frozen BK124.out 2
                    have hfz14_3 := blk_frozen BK124.out 3
                    go_wp2
                    repeat (go_quiet (fail); try go_wp2)
                    go_meet
                    case rel => exact ⟨_, (true), (by first | rfl | (simp; done) | (simp [*]; done)), H', ⟨by have := HK1.out; first | omega | exact Nat.le_refl _⟩, ⟨by (with_reducible repeat (first | refine blk_drewN ?_ _ | refine blk_drew ?_ | refine blk_alloc ?_ _)); exact BK124.out⟩, ⟨by repeat (first | (with_reducible first | exact HB.out | apply below_alloc | apply pw_below_drewN | apply below_drew1 | refine below_set ?_ GE124.out) | exact HB.out)⟩⟩
                  · rw [if_neg c13] at H
                    have c13b0 : decide (((rd_T46 l0 x11_1).f1) ≤ ((rd_T46 l0 x11_1).f0)) = false := decide_eq_false c13
                    clear c13
                    have H' := Aside0.mk H
                    clear H
                    have hcz15_0 : w10.cell? ⟨gb124, 0, none⟩ = some (.int .i64 ((rd_T46 l0 x11_1).f0)) := (blk_cell BK124.out 0).trans rfl
                    have hcz15_1 : w10.cell? ⟨gb124, 1, none⟩ = some (.int .i64 ((rd_T46 l0 x11_1).f1)) := (blk_cell BK124.out 1).trans rfl
                    have hcz15_2 : w10.cell? ⟨gb124, 2, none⟩ = some (.int .i64 ((rd_T46 l0 x11_1).f2.f0)) := (blk_cell BK124.out 2).trans rfl
                    have hcz15_3 : w10.cell? ⟨gb124, 3, none⟩ = some (.int .i64 ((rd_T46 l0 x11_1).f2.f1)) := (blk_cell BK124.out 3).trans rfl
                    have hfz15_0 := blk_frozen BK124.out 0
                    have hfz15_1 := blk_frozen BK124.out 1
                    have hfz15_2 := blk_frozen BK124.out 2
                    have hfz15_3 := blk_frozen BK124.out 3
                    go_wp2
                    repeat (go_quiet (fail); try go_wp2)
                    go_meet
                    case rel => exact ⟨_, (decide (((rd_T46 l0 x11_1).f1) > 1048576)), (by first | rfl | (simp; done) | (simp [*]; done)), H', ⟨by have := HK1.out; first | omega | exact Nat.le_refl _⟩, ⟨by (with_reducible repeat (first | refine blk_drewN ?_ _ | refine blk_drew ?_ | refine blk_alloc ?_ _)); exact BK124.out⟩, ⟨by repeat (first | (with_reducible first | exact HB.out | apply below_alloc | apply pw_below_drewN | apply below_drew1 | refine below_set ?_ GE124.out) | exact HB.out)⟩⟩
              case rest =>
                clear HC7
                try clear c1
                try clear p1
                try clear q1
                try clear hx1
                try clear c2
                try clear c2b0
                try clear c2b1
                try clear p2
                try clear c3
                try clear c3b0
                try clear c4
                try clear c4b0
                try clear c5
                try clear c5b0
                try clear c11
                try clear c11b0
                try clear p12
                try clear q12
                try clear hx12
                try clear c13
                try clear c13b0
                try clear hcz12_0
                try clear hcz12_1
                try clear hcz12_2
                try clear hcz12_3
                try clear hcz14_0
                try clear hcz14_1
                try clear hcz14_2
                try clear hcz14_3
                try clear hcz15_0
                try clear hcz15_1
                try clear hcz15_2
                try clear hcz15_3
                try clear hcz9_0
                try clear hcz9_1
                try clear hcz9_2
                try clear hcz9_3
                try clear hfz12_0
                try clear hfz12_1
                try clear hfz12_2
                try clear hfz12_3
                try clear hfz14_0
                try clear hfz14_1
                try clear hfz14_2
                try clear hfz14_3
                try clear hfz15_0
                try clear hfz15_1
                try clear hfz15_2
                try clear hfz15_3
                try clear hfz9_0
                try clear hfz9_1
                try clear hfz9_2
                try clear hfz9_3
                try clear hx123_0
                try clear hx123_1
                try clear hx123_2
                try clear hx123_3
                try clear p123
                try clear p2
                try clear q123
                obtain ⟨kq, x19_6, rfl, HA, HJ6, BK124, HB⟩ := hcut
                cases kq with
                | zero => exact absurd HA.out (by simp [course_Check.j1])
                | succ kj6 =>
                  have H := HA.out
                  clear HA
                  simp only [course_Check.j1] at H
                  by_cases c16 : x19_6 = true
                  · subst c16
                    have H1 : (some 1) = some r := by rw [if_pos rfl] at H; exact H
                    clear H
                    have H := H1
                    clear H1
                    obtain rfl := Option.some.inj H
                    go_wp2
                    repeat (go_quiet (fail); try go_wp2)
                    go_ret
                    exact ⟨by first | rfl | (simp [errW_none, errW_some] <;> rfl) | (simp [*, errW_none, errW_some] <;> rfl), by repeat (first | (with_reducible first | exact HB.out | apply below_alloc | apply pw_below_drewN | apply below_drew1 | refine below_set ?_ GE124.out) | exact HB.out)⟩
                  · replace c16 := Bool.eq_false_iff.mpr c16
                    subst c16
                    have H1 : (if t125 = 0 then (if ((rd_T46 l0 x11_1).f2.f0) = 0 then (some 16) else (if x11_1 > 0 then (if 0 ≤ (wrap64 (x11_1 - 1)) then (if (wrap64 (x11_1 - 1)) < (l0.length : Int) then (course_Check.j2 kj6 l0 x11_1 l0 (l0.length : Int) x11_1 (decide (((rd_T46 l0 x11_1).f0) < ((rd_T46 l0 (wrap64 (x11_1 - 1))).f1))) ((rd_T46 l0 x11_1).f0) ((rd_T46 l0 x11_1).f1) ((rd_T46 l0 x11_1).f2.f0) ((rd_T46 l0 x11_1).f2.f1)) else (none)) else (none)) else (course_Check.j2 kj6 l0 x11_1 l0 (l0.length : Int) x11_1 false ((rd_T46 l0 x11_1).f0) ((rd_T46 l0 x11_1).f1) ((rd_T46 l0 x11_1).f2.f0) ((rd_T46 l0 x11_1).f2.f1)))) else (some t125)) = some r := by rw [if_neg (show ¬ (false = true) by decide)] at H; exact H
                    clear H
                    have H := H1
                    clear H1
                    by_cases c17 : t125 = 0
                    · rw [if_pos c17] at H
                      have c17b0 : (t125 == 0) = true := beq_iff_eq.mpr c17
                      have c17b1 : (t125 != 0) = false := bne_eq_false_iff_eq.mpr c17
                      clear c17
                      by_cases c18 : ((rd_T46 l0 x11_1).f2.f0) = 0
                      · rw [if_pos c18] at H
                        have c18b0 : (((rd_T46 l0 x11_1).f2.f0) == 0) = true := beq_iff_eq.mpr c18
                        have c18b1 : (((rd_T46 l0 x11_1).f2.f0) != 0) = false := bne_eq_false_iff_eq.mpr c18
                        clear c18
                        obtain rfl := Option.some.inj H
                        have hcz19_0 : wc.cell? ⟨gb124, 0, none⟩ = some (.int .i64 ((rd_T46 l0 x11_1).f0)) := (blk_cell BK124.out 0).trans rfl
                        have hcz19_1 : wc.cell? ⟨gb124, 1, none⟩ = some (.int .i64 ((rd_T46 l0 x11_1).f1)) := (blk_cell BK124.out 1).trans rfl
                        have hcz19_2 : wc.cell? ⟨gb124, 2, none⟩ = some (.int .i64 ((rd_T46 l0 x11_1).f2.f0)) := (blk_cell BK124.out 2).trans rfl
                        have hcz19_3 : wc.cell? ⟨gb124, 3, none⟩ = some (.int .i64 ((rd_T46 l0 x11_1).f2.f1)) := (blk_cell BK124.out 3).trans rfl
                        have hfz19_0 := blk_frozen BK124.out 0
                        have hfz19_1 := blk_frozen BK124.out 1
                        have hfz19_2 := blk_frozen BK124.out 2
                        have hfz19_3 := blk_frozen BK124.out 3
                        go_wp2
                        repeat (go_quiet (fail); try go_wp2)
                        go_ret
                        exact ⟨by first | rfl | (simp [errW_none, errW_some] <;> rfl) | (simp [*, errW_none, errW_some] <;> rfl), by repeat (first | (with_reducible first | exact HB.out | apply below_alloc | apply pw_below_drewN | apply below_drew1 | refine below_set ?_ GE124.out) | exact HB.out)⟩
                      · rw [if_neg c18] at H
                        have c18b0 : (((rd_T46 l0 x11_1).f2.f0) == 0) = false := beq_eq_false_iff_ne.mpr c18
                        have c18b1 : (((rd_T46 l0 x11_1).f2.f0) != 0) = true := bne_iff_ne.mpr c18
                        have HC20 := Aside0.mk H
                        clear H
                        have hcz21_0 : wc.cell? ⟨gb124, 0, none⟩ = some (.int .i64 ((rd_T46 l0 x11_1).f0)) := (blk_cell BK124.out 0).trans rfl
                        have hcz21_1 : wc.cell? ⟨gb124, 1, none⟩ = some (.int .i64 ((rd_T46 l0 x11_1).f1)) := (blk_cell BK124.out 1).trans rfl
                        have hcz21_2 : wc.cell? ⟨gb124, 2, none⟩ = some (.int .i64 ((rd_T46 l0 x11_1).f2.f0)) := (blk_cell BK124.out 2).trans rfl
                        have hcz21_3 : wc.cell? ⟨gb124, 3, none⟩ = some (.int .i64 ((rd_T46 l0 x11_1).f2.f1)) := (blk_cell BK124.out 3).trans rfl
                        have hfz21_0 := blk_frozen BK124.out 0
                        have hfz21_1 := blk_frozen BK124.out 1
                        have hfz21_2 := blk_frozen BK124.out 2
                        have hfz21_3 := blk_frozen BK124.out 3
                        go_upto_region 13 with (fail)
                        repeat (go_quiet (fail); go_upto_region 13 with (fail))
                        go_cut [44] (fun v44 wc => ∃ (kq : Nat) (x44_19 : Bool), v44 = .bool x44_19 ∧ Aside0 (course_Check.j2 kq l0 x11_1 l0 (l0.length : Int) x11_1 x44_19 ((rd_T46 l0 x11_1).f0) ((rd_T46 l0 x11_1).f1) ((rd_T46 l0 x11_1).f2.f0) ((rd_T46 l0 x11_1).f2.f1) = some r) ∧ Aside0 (kq ≤ kj6) ∧ Aside0 (wc.heap[gb124]? = some (.cells #[.int .i64 ((rd_T46 l0 x11_1).f0), .int .i64 ((rd_T46 l0 x11_1).f1), .int .i64 ((rd_T46 l0 x11_1).f2.f0), .int .i64 ((rd_T46 l0 x11_1).f2.f1)] 46 (0, 0))) ∧ Aside0 (Below w.heap.size w wc))
                        case first =>
                          have H := HC20.out
                          clear HC20
                          by_cases c22 : x11_1 > 0
                          · rw [if_pos c22] at H
                            have c22b0 : decide (0 < x11_1) = true := decide_eq_true c22
                            clear c22
                            (first | rw [c22b0] | (simp only [i64_w, i32_w]; rw [c22b0]) | skip)
                            obtain ⟨ji23, hji23⟩ : ∃ j_ : Int, (wrap64 (x11_1 - 1)) = j_ := ⟨_, rfl⟩
                            replace H : (if 0 ≤ (ji23) then (if (ji23) < (l0.length : Int) then (course_Check.j2 kj6 l0 x11_1 l0 (l0.length : Int) x11_1 (decide (((rd_T46 l0 x11_1).f0) < ((rd_T46 l0 (ji23)).f1))) ((rd_T46 l0 x11_1).f0) ((rd_T46 l0 x11_1).f1) ((rd_T46 l0 x11_1).f2.f0) ((rd_T46 l0 x11_1).f2.f1)) else (none)) else (none)) = some r := by first | (rw [hji23] at H; exact H) | (simp only [hji23] at H ⊢; exact H)
                            have hji23w : (IntKind.i64.wrap (x11_1 - 1)) = ji23 := (i64_w _).trans hji23
                            by_cases c24 : 0 ≤ (ji23)
                            · rw [if_pos c24] at H
                              have c24b0 : decide (0 ≤ (ji23)) = true := decide_eq_true c24
                              clear c24
                              by_cases c25 : (ji23) < (l0.length : Int)
                              · rw [if_pos c25] at H
                                have c25b0 : decide ((ji23) < (l0.length : Int)) = true := decide_eq_true c25
                                clear c25
                                have H' := Aside0.mk H
                                clear H
                                have hcz26_0 : wc.cell? ⟨gb124, 0, none⟩ = some (.int .i64 ((rd_T46 l0 x11_1).f0)) := (blk_cell BK124.out 0).trans rfl
                                have hcz26_1 : wc.cell? ⟨gb124, 1, none⟩ = some (.int .i64 ((rd_T46 l0 x11_1).f1)) := (blk_cell BK124.out 1).trans rfl
                                have hcz26_2 : wc.cell? ⟨gb124, 2, none⟩ = some (.int .i64 ((rd_T46 l0 x11_1).f2.f0)) := (blk_cell BK124.out 2).trans rfl
                                have hcz26_3 : wc.cell? ⟨gb124, 3, none⟩ = some (.int .i64 ((rd_T46 l0 x11_1).f2.f1)) := (blk_cell BK124.out 3).trans rfl
                                have hfz26_0 := blk_frozen BK124.out 0
                                have hfz26_1 := blk_frozen BK124.out 1
                                have hfz26_2 := blk_frozen BK124.out 2
                                have hfz26_3 := blk_frozen BK124.out 3
                                have p126 : 0 ≤ ((ji23) : Int) := of_decide_eq_true (by first | (with_reducible assumption) | assumption)
                                have q126 : (ji23) < (l0.length : Int) := of_decide_eq_true (by first | (with_reducible assumption) | assumption)
                                obtain ⟨ad126, e126, hx126_0, hx126_1, hx126_2, hx126_3⟩ := at_T46 HR0.out (ji23) p126 q126
                                obtain rfl : ad123 = ad126 := (by injection e126)
                                replace hx126_0 := (HB.out.cell (World.block_lt_of_cell? w _ hx126_0)).trans hx126_0
                                replace hx126_1 := (HB.out.cell (World.block_lt_of_cell? w _ hx126_1)).trans hx126_1
                                replace hx126_2 := (HB.out.cell (World.block_lt_of_cell? w _ hx126_2)).trans hx126_2
                                replace hx126_3 := (HB.out.cell (World.block_lt_of_cell? w _ hx126_3)).trans hx126_3
                                replace p126 := eq_true p126
                                replace q126 := eq_true q126
                                go_wp2
                                repeat (go_quiet (fail); try go_wp2)
                                go_meet
                                case rel => exact ⟨_, (decide (((rd_T46 l0 x11_1).f0) < ((rd_T46 l0 (ji23)).f1))), (by first | rfl | (simp; done) | (simp only [← hji23] <;> (first | rfl | simp)) | (simp [*]; done)), H', ⟨by have := HK1.out; have := HJ6.out; first | omega | exact Nat.le_refl _⟩, ⟨by (with_reducible repeat (first | refine blk_drewN ?_ _ | refine blk_drew ?_ | refine blk_alloc ?_ _)); exact BK124.out⟩, ⟨by repeat (first | (with_reducible first | exact HB.out | apply below_alloc | apply pw_below_drewN | apply below_drew1 | refine below_set ?_ GE124.out) | exact HB.out)⟩⟩
                              · rw [if_neg c25] at H
                                exact absurd H (by simp)
                            · rw [if_neg c24] at H
                              exact absurd H (by simp)
                          · rw [if_neg c22] at H
                            have c22b0 : decide (0 < x11_1) = false := decide_eq_false c22
                            clear c22
                            (first | rw [c22b0] | (simp only [i64_w, i32_w]; rw [c22b0]) | skip)
                            have H' := Aside0.mk H
                            clear H
                            go_wp2
                            repeat (go_quiet (fail); try go_wp2)
                            go_meet
                            case rel => exact ⟨_, (false), (by first | rfl | (simp; done) | (simp [*]; done)), H', ⟨by have := HK1.out; have := HJ6.out; first | omega | exact Nat.le_refl _⟩, ⟨by (with_reducible repeat (first | refine blk_drewN ?_ _ | refine blk_drew ?_ | refine blk_alloc ?_ _)); exact BK124.out⟩, ⟨by repeat (first | (with_reducible first | exact HB.out | apply below_alloc | apply pw_below_drewN | apply below_drew1 | refine below_set ?_ GE124.out) | exact HB.out)⟩⟩
                        case rest =>
                          clear HC20
                          try clear c1
                          try clear p1
                          try clear q1
                          try clear hx1
                          try clear c2
                          try clear c2b0
                          try clear c2b1
                          try clear p2
                          try clear c3
                          try clear c3b0
                          try clear c4
                          try clear c4b0
                          try clear c5
                          try clear c5b0
                          try clear p6
                          try clear c11
                          try clear c11b0
                          try clear p12
                          try clear q12
                          try clear hx12
                          try clear c13
                          try clear c13b0
                          try clear c16
                          try clear c17
                          try clear c17b0
                          try clear c17b1
                          try clear c18
                          try clear c18b0
                          try clear c18b1
                          try clear c22
                          try clear c22b0
                          try clear c24
                          try clear c24b0
                          try clear c25
                          try clear c25b0
                          try clear hcz12_0
                          try clear hcz12_1
                          try clear hcz12_2
                          try clear hcz12_3
                          try clear hcz14_0
                          try clear hcz14_1
                          try clear hcz14_2
                          try clear hcz14_3
                          try clear hcz15_0
                          try clear hcz15_1
                          try clear hcz15_2
                          try clear hcz15_3
                          try clear hcz19_0
                          try clear hcz19_1
                          try clear hcz19_2
                          try clear hcz19_3
                          try clear hcz21_0
                          try clear hcz21_1
                          try clear hcz21_2
                          try clear hcz21_3
                          try clear hcz26_0
                          try clear hcz26_1
                          try clear hcz26_2
                          try clear hcz26_3
                          try clear hcz9_0
                          try clear hcz9_1
                          try clear hcz9_2
                          try clear hcz9_3
                          try clear hfz12_0
                          try clear hfz12_1
                          try clear hfz12_2
                          try clear hfz12_3
                          try clear hfz14_0
                          try clear hfz14_1
                          try clear hfz14_2
                          try clear hfz14_3
                          try clear hfz15_0
                          try clear hfz15_1
                          try clear hfz15_2
                          try clear hfz15_3
                          try clear hfz19_0
                          try clear hfz19_1
                          try clear hfz19_2
                          try clear hfz19_3
                          try clear hfz21_0
                          try clear hfz21_1
                          try clear hfz21_2
                          try clear hfz21_3
                          try clear hfz26_0
                          try clear hfz26_1
                          try clear hfz26_2
                          try clear hfz26_3
                          try clear hfz9_0
                          try clear hfz9_1
                          try clear hfz9_2
                          try clear hfz9_3
                          try clear hx123_0
                          try clear hx123_1
                          try clear hx123_2
                          try clear hx123_3
                          try clear hx126_0
                          try clear hx126_1
                          try clear hx126_2
                          try clear hx126_3
                          try clear p1
                          try clear p12
                          try clear p123
                          try clear p126
                          try clear p2
                          try clear q1
                          try clear q12
                          try clear q123
                          try clear q126
                          obtain ⟨kq, x44_19, rfl, HA, HJ19, BK124, HB⟩ := hcut
                          cases kq with
                          | zero => exact absurd HA.out (by simp [course_Check.j2])
                          | succ kj19 =>
                            have H := HA.out
                            clear HA
                            simp only [course_Check.j2] at H
                            by_cases c27 : x44_19 = true
                            · subst c27
                              have H1 : (some 9) = some r := by rw [if_pos rfl] at H; exact H
                              clear H
                              have H := H1
                              clear H1
                              obtain rfl := Option.some.inj H
                              go_wp2
                              repeat (go_quiet (fail); try go_wp2)
                              go_ret
                              exact ⟨by first | rfl | (simp [errW_none, errW_some] <;> rfl) | (simp [*, errW_none, errW_some] <;> rfl), by repeat (first | (with_reducible first | exact HB.out | apply below_alloc | apply pw_below_drewN | apply below_drew1 | refine below_set ?_ GE124.out) | exact HB.out)⟩
                            · replace c27 := Bool.eq_false_iff.mpr c27
                              subst c27
                              have H1 : (if x11_1 > 0 then (if 0 ≤ (wrap64 (x11_1 - 1)) then (if (wrap64 (x11_1 - 1)) < (l0.length : Int) then (if ((rd_T46 l0 x11_1).f0) = ((rd_T46 l0 (wrap64 (x11_1 - 1))).f1) then (if (((rd_T46 l0 x11_1).f2.f0) == ((rd_T46 l0 (wrap64 (x11_1 - 1))).f2.f0) && (((rd_T46 l0 x11_1).f2.f1) == ((rd_T46 l0 (wrap64 (x11_1 - 1))).f2.f1))) = true then (some 3) else (course_Check.l0 kj19 l0 l0 (l0.length : Int) (wrap64 (x11_1 + 1)))) else (course_Check.l0 kj19 l0 l0 (l0.length : Int) (wrap64 (x11_1 + 1)))) else (none)) else (none)) else (course_Check.l0 kj19 l0 l0 (l0.length : Int) (wrap64 (x11_1 + 1)))) = some r := by rw [if_neg (show ¬ (false = true) by decide)] at H; exact H
                              clear H
                              have H := H1
                              clear H1
                              by_cases c28 : x11_1 > 0
                              · rw [if_pos c28] at H
                                have c28b0 : decide (0 < x11_1) = true := decide_eq_true c28
                                clear c28
                                obtain ⟨ji29, hji29⟩ : ∃ j_ : Int, (wrap64 (x11_1 - 1)) = j_ := ⟨_, rfl⟩
                                replace H : (if 0 ≤ (ji29) then (if (ji29) < (l0.length : Int) then (if ((rd_T46 l0 x11_1).f0) = ((rd_T46 l0 (ji29)).f1) then (if (((rd_T46 l0 x11_1).f2.f0) == ((rd_T46 l0 (ji29)).f2.f0) && (((rd_T46 l0 x11_1).f2.f1) == ((rd_T46 l0 (ji29)).f2.f1))) = true then (some 3) else (course_Check.l0 kj19 l0 l0 (l0.length : Int) (wrap64 (x11_1 + 1)))) else (course_Check.l0 kj19 l0 l0 (l0.length : Int) (wrap64 (x11_1 + 1)))) else (none)) else (none)) = some r := by first | (rw [hji29] at H; exact H) | (simp only [hji29] at H ⊢; exact H)
                                have hji29w : (IntKind.i64.wrap (x11_1 - 1)) = ji29 := (i64_w _).trans hji29
                                by_cases c30 : 0 ≤ (ji29)
                                · rw [if_pos c30] at H
                                  have c30b0 : decide (0 ≤ (ji29)) = true := decide_eq_true c30
                                  clear c30
                                  by_cases c31 : (ji29) < (l0.length : Int)
                                  · rw [if_pos c31] at H
                                    have c31b0 : decide ((ji29) < (l0.length : Int)) = true := decide_eq_true c31
                                    clear c31
                                    by_cases c32 : ((rd_T46 l0 x11_1).f0) = ((rd_T46 l0 (ji29)).f1)
                                    · rw [if_pos c32] at H
                                      have c32b0 : (((rd_T46 l0 x11_1).f0) == ((rd_T46 l0 (ji29)).f1)) = true := beq_iff_eq.mpr c32
                                      have c32b1 : (((rd_T46 l0 x11_1).f0) != ((rd_T46 l0 (ji29)).f1)) = false := bne_eq_false_iff_eq.mpr c32
                                      clear c32
                                      by_cases c33 : (((rd_T46 l0 x11_1).f2.f0) == ((rd_T46 l0 (ji29)).f2.f0) && (((rd_T46 l0 x11_1).f2.f1) == ((rd_T46 l0 (ji29)).f2.f1))) = true
                                      · rw [if_pos c33] at H
                                        have c33b0 : (((rd_T46 l0 x11_1).f2.f0) == ((rd_T46 l0 (ji29)).f2.f0) && (((rd_T46 l0 x11_1).f2.f1) == ((rd_T46 l0 (ji29)).f2.f1))) = true := c33
                                        (try (have c33b1 : decide (((rd_T46 l0 x11_1).f2.f0) = ((rd_T46 l0 (ji29)).f2.f0) && (((rd_T46 l0 x11_1).f2.f1) == ((rd_T46 l0 (ji29)).f2.f1))) = true := by simpa using c33))
                                        (try (have c33b2 : (((rd_T46 l0 x11_1).f2.f0) == ((rd_T46 l0 (ji29)).f2.f0) && (((rd_T46 l0 x11_1).f2.f1) == ((rd_T46 l0 (ji29)).f2.f1))) = true := by simpa using c33))
                                        clear c33
                                        obtain rfl := Option.some.inj H
                                        have hcz34_0 : wc.cell? ⟨gb124, 0, none⟩ = some (.int .i64 ((rd_T46 l0 x11_1).f0)) := (blk_cell BK124.out 0).trans rfl
                                        have hcz34_1 : wc.cell? ⟨gb124, 1, none⟩ = some (.int .i64 ((rd_T46 l0 x11_1).f1)) := (blk_cell BK124.out 1).trans rfl
                                        have hcz34_2 : wc.cell? ⟨gb124, 2, none⟩ = some (.int .i64 ((rd_T46 l0 x11_1).f2.f0)) := (blk_cell BK124.out 2).trans rfl
                                        have hcz34_3 : wc.cell? ⟨gb124, 3, none⟩ = some (.int .i64 ((rd_T46 l0 x11_1).f2.f1)) := (blk_cell BK124.out 3).trans rfl
                                        have hfz34_0 := blk_frozen BK124.out 0
                                        have hfz34_1 := blk_frozen BK124.out 1
                                        have hfz34_2 := blk_frozen BK124.out 2
                                        have hfz34_3 := blk_frozen BK124.out 3
                                        have p127 : 0 ≤ ((ji29) : Int) := of_decide_eq_true (by first | (with_reducible assumption) | assumption)
                                        have q127 : (ji29) < (l0.length : Int) := of_decide_eq_true (by first | (with_reducible assumption) | assumption)
                                        obtain ⟨ad127, e127, hx127_0, hx127_1, hx127_2, hx127_3⟩ := at_T46 HR0.out (ji29) p127 q127
                                        obtain rfl : ad123 = ad127 := (by injection e127)
                                        replace hx127_0 := (HB.out.cell (World.block_lt_of_cell? w _ hx127_0)).trans hx127_0
                                        replace hx127_1 := (HB.out.cell (World.block_lt_of_cell? w _ hx127_1)).trans hx127_1
                                        replace hx127_2 := (HB.out.cell (World.block_lt_of_cell? w _ hx127_2)).trans hx127_2
                                        replace hx127_3 := (HB.out.cell (World.block_lt_of_cell? w _ hx127_3)).trans hx127_3
                                        replace p127 := eq_true p127
                                        replace q127 := eq_true q127
                                        have p128 : 0 ≤ ((ji29) : Int) := of_decide_eq_true (by first | (with_reducible assumption) | assumption)
                                        have q128 : (ji29) < (l0.length : Int) := of_decide_eq_true (by first | (with_reducible assumption) | assumption)
                                        obtain ⟨ad128, e128, hx128_0, hx128_1, hx128_2, hx128_3⟩ := at_T46 HR0.out (ji29) p128 q128
                                        obtain rfl : ad123 = ad128 := (by injection e128)
                                        replace hx128_0 := (HB.out.cell (World.block_lt_of_cell? w _ hx128_0)).trans hx128_0
                                        replace hx128_1 := (HB.out.cell (World.block_lt_of_cell? w _ hx128_1)).trans hx128_1
                                        replace hx128_2 := (HB.out.cell (World.block_lt_of_cell? w _ hx128_2)).trans hx128_2
                                        replace hx128_3 := (HB.out.cell (World.block_lt_of_cell? w _ hx128_3)).trans hx128_3
                                        replace p128 := eq_true p128
                                        replace q128 := eq_true q128
                                        go_wp2
                                        repeat (go_quiet (fail); try go_wp2)
                                        go_ret
                                        exact ⟨by first | rfl | (simp [errW_none, errW_some] <;> rfl) | (simp only [← hji29]; first | rfl | (simp [errW_none, errW_some] <;> rfl)) | (simp [*, errW_none, errW_some] <;> rfl), by repeat (first | (with_reducible first | exact HB.out | apply below_alloc | apply pw_below_drewN | apply below_drew1 | refine below_set ?_ GE124.out) | exact HB.out)⟩
                                      · rw [if_neg c33] at H
                                        have c33b0 : (((rd_T46 l0 x11_1).f2.f0) == ((rd_T46 l0 (ji29)).f2.f0) && (((rd_T46 l0 x11_1).f2.f1) == ((rd_T46 l0 (ji29)).f2.f1))) = false := by simpa using c33
                                        (try (have c33b1 : decide (((rd_T46 l0 x11_1).f2.f0) = ((rd_T46 l0 (ji29)).f2.f0) && (((rd_T46 l0 x11_1).f2.f1) == ((rd_T46 l0 (ji29)).f2.f1))) = false := by simpa using c33))
                                        (try (have c33b2 : (((rd_T46 l0 x11_1).f2.f0) == ((rd_T46 l0 (ji29)).f2.f0) && (((rd_T46 l0 x11_1).f2.f1) == ((rd_T46 l0 (ji29)).f2.f1))) = false := by simpa using c33))
                                        (try (have c33b3 : ¬ (((rd_T46 l0 x11_1).f2.f0) = ((rd_T46 l0 (ji29)).f2.f0) && (((rd_T46 l0 x11_1).f2.f1) == ((rd_T46 l0 (ji29)).f2.f1))) := by simpa using c33))
                                        clear c33
                                        have H' := Aside0.mk H
                                        clear H
                                        have hcz35_0 : wc.cell? ⟨gb124, 0, none⟩ = some (.int .i64 ((rd_T46 l0 x11_1).f0)) := (blk_cell BK124.out 0).trans rfl
                                        have hcz35_1 : wc.cell? ⟨gb124, 1, none⟩ = some (.int .i64 ((rd_T46 l0 x11_1).f1)) := (blk_cell BK124.out 1).trans rfl
                                        have hcz35_2 : wc.cell? ⟨gb124, 2, none⟩ = some (.int .i64 ((rd_T46 l0 x11_1).f2.f0)) := (blk_cell BK124.out 2).trans rfl
                                        have hcz35_3 : wc.cell? ⟨gb124, 3, none⟩ = some (.int .i64 ((rd_T46 l0 x11_1).f2.f1)) := (blk_cell BK124.out 3).trans rfl
                                        have hfz35_0 := blk_frozen BK124.out 0
                                        have hfz35_1 := blk_frozen BK124.out 1
                                        have hfz35_2 := blk_frozen BK124.out 2
                                        have hfz35_3 := blk_frozen BK124.out 3
                                        have p127 : 0 ≤ ((ji29) : Int) := of_decide_eq_true (by first | (with_reducible assumption) | assumption)
                                        have q127 : (ji29) < (l0.length : Int) := of_decide_eq_true (by first | (with_reducible assumption) | assumption)
                                        obtain ⟨ad127, e127, hx127_0, hx127_1, hx127_2, hx127_3⟩ := at_T46 HR0.out (ji29) p127 q127
                                        obtain rfl : ad123 = ad127 := (by injection e127)
                                        replace hx127_0 := (HB.out.cell (World.block_lt_of_cell? w _ hx127_0)).trans hx127_0
                                        replace hx127_1 := (HB.out.cell (World.block_lt_of_cell? w _ hx127_1)).trans hx127_1
                                        replace hx127_2 := (HB.out.cell (World.block_lt_of_cell? w _ hx127_2)).trans hx127_2
                                        replace hx127_3 := (HB.out.cell (World.block_lt_of_cell? w _ hx127_3)).trans hx127_3
                                        replace p127 := eq_true p127
                                        replace q127 := eq_true q127
                                        have p128 : 0 ≤ ((ji29) : Int) := of_decide_eq_true (by first | (with_reducible assumption) | assumption)
                                        have q128 : (ji29) < (l0.length : Int) := of_decide_eq_true (by first | (with_reducible assumption) | assumption)
                                        obtain ⟨ad128, e128, hx128_0, hx128_1, hx128_2, hx128_3⟩ := at_T46 HR0.out (ji29) p128 q128
                                        obtain rfl : ad123 = ad128 := (by injection e128)
                                        replace hx128_0 := (HB.out.cell (World.block_lt_of_cell? w _ hx128_0)).trans hx128_0
                                        replace hx128_1 := (HB.out.cell (World.block_lt_of_cell? w _ hx128_1)).trans hx128_1
                                        replace hx128_2 := (HB.out.cell (World.block_lt_of_cell? w _ hx128_2)).trans hx128_2
                                        replace hx128_3 := (HB.out.cell (World.block_lt_of_cell? w _ hx128_3)).trans hx128_3
                                        replace p128 := eq_true p128
                                        replace q128 := eq_true q128
                                        go_wp2
                                        repeat (go_quiet (fail); try go_wp2)
                                        go_roundg kj19
                                        case measure => have := HK1.out; have := HJ6.out; have := HJ19.out; omega
                                        case rel => exact ⟨(wrap64 (x11_1 + 1)), (by first | rfl | (simp; done) | (simp [*]; done)), H', ⟨by have := HK1.out; have := HJ6.out; have := HJ19.out; omega⟩, ⟨by repeat (first | (with_reducible first | exact HB.out | apply below_alloc | apply pw_below_drewN | apply below_drew1 | refine below_set ?_ GE124.out) | exact HB.out)⟩⟩
                                    · rw [if_neg c32] at H
                                      have c32b0 : (((rd_T46 l0 x11_1).f0) == ((rd_T46 l0 (ji29)).f1)) = false := beq_eq_false_iff_ne.mpr c32
                                      have c32b1 : (((rd_T46 l0 x11_1).f0) != ((rd_T46 l0 (ji29)).f1)) = true := bne_iff_ne.mpr c32
                                      have H' := Aside0.mk H
                                      clear H
                                      have hcz36_0 : wc.cell? ⟨gb124, 0, none⟩ = some (.int .i64 ((rd_T46 l0 x11_1).f0)) := (blk_cell BK124.out 0).trans rfl
                                      have hcz36_1 : wc.cell? ⟨gb124, 1, none⟩ = some (.int .i64 ((rd_T46 l0 x11_1).f1)) := (blk_cell BK124.out 1).trans rfl
                                      have hcz36_2 : wc.cell? ⟨gb124, 2, none⟩ = some (.int .i64 ((rd_T46 l0 x11_1).f2.f0)) := (blk_cell BK124.out 2).trans rfl
                                      have hcz36_3 : wc.cell? ⟨gb124, 3, none⟩ = some (.int .i64 ((rd_T46 l0 x11_1).f2.f1)) := (blk_cell BK124.out 3).trans rfl
                                      have hfz36_0 := blk_frozen BK124.out 0
                                      have hfz36_1 := blk_frozen BK124.out 1
                                      have hfz36_2 := blk_frozen BK124.out 2
                                      have hfz36_3 := blk_frozen BK124.out 3
                                      have p127 : 0 ≤ ((ji29) : Int) := of_decide_eq_true (by first | (with_reducible assumption) | assumption)
                                      have q127 : (ji29) < (l0.length : Int) := of_decide_eq_true (by first | (with_reducible assumption) | assumption)
                                      obtain ⟨ad127, e127, hx127_0, hx127_1, hx127_2, hx127_3⟩ := at_T46 HR0.out (ji29) p127 q127
                                      obtain rfl : ad123 = ad127 := (by injection e127)
                                      replace hx127_0 := (HB.out.cell (World.block_lt_of_cell? w _ hx127_0)).trans hx127_0
                                      replace hx127_1 := (HB.out.cell (World.block_lt_of_cell? w _ hx127_1)).trans hx127_1
                                      replace hx127_2 := (HB.out.cell (World.block_lt_of_cell? w _ hx127_2)).trans hx127_2
                                      replace hx127_3 := (HB.out.cell (World.block_lt_of_cell? w _ hx127_3)).trans hx127_3
                                      replace p127 := eq_true p127
                                      replace q127 := eq_true q127
                                      go_wp2
                                      repeat (go_quiet (fail); try go_wp2)
                                      go_roundg kj19
                                      case measure => have := HK1.out; have := HJ6.out; have := HJ19.out; omega
                                      case rel => exact ⟨(wrap64 (x11_1 + 1)), (by first | rfl | (simp; done) | (simp [*]; done)), H', ⟨by have := HK1.out; have := HJ6.out; have := HJ19.out; omega⟩, ⟨by repeat (first | (with_reducible first | exact HB.out | apply below_alloc | apply pw_below_drewN | apply below_drew1 | refine below_set ?_ GE124.out) | exact HB.out)⟩⟩
                                  · rw [if_neg c31] at H
                                    exact absurd H (by simp)
                                · rw [if_neg c30] at H
                                  exact absurd H (by simp)
                              · rw [if_neg c28] at H
                                have c28b0 : decide (0 < x11_1) = false := decide_eq_false c28
                                clear c28
                                have H' := Aside0.mk H
                                clear H
                                go_wp2
                                repeat (go_quiet (fail); try go_wp2)
                                go_roundg kj19
                                case measure => have := HK1.out; have := HJ6.out; have := HJ19.out; omega
                                case rel => exact ⟨(wrap64 (x11_1 + 1)), (by first | rfl | (simp; done) | (simp [*]; done)), H', ⟨by have := HK1.out; have := HJ6.out; have := HJ19.out; omega⟩, ⟨by repeat (first | (with_reducible first | exact HB.out | apply below_alloc | apply pw_below_drewN | apply below_drew1 | refine below_set ?_ GE124.out) | exact HB.out)⟩⟩
                    · rw [if_neg c17] at H
                      have c17b0 : (t125 == 0) = false := beq_eq_false_iff_ne.mpr c17
                      have c17b1 : (t125 != 0) = true := bne_iff_ne.mpr c17
                      obtain rfl := Option.some.inj H
                      go_wp2
                      repeat (go_quiet (fail); try go_wp2)
                      go_ret
                      exact ⟨by first | rfl | (simp [errW_none, errW_some] <;> rfl) | (simp [*, errW_none, errW_some] <;> rfl), by repeat (first | (with_reducible first | exact HB.out | apply below_alloc | apply pw_below_drewN | apply below_drew1 | refine below_set ?_ GE124.out) | exact HB.out)⟩
            · rw [if_neg c5] at H
              exact absurd H (by simp)
          · rw [if_neg c4] at H
            exact absurd H (by simp)
        · rw [if_neg c3] at H
          have c3b0 : decide (x11_1 < (l0.length : Int)) = false := decide_eq_false c3
          clear c3
          obtain rfl := Option.some.inj H
          go_wp2
          repeat (go_quiet (fail); try go_wp2)
          go_ret
          exact ⟨by first | rfl | (simp [errW_none, errW_some] <;> rfl) | (simp [*, errW_none, errW_some] <;> rfl), by repeat (first | (with_reducible first | exact HB.out | apply below_alloc | apply pw_below_drewN | apply below_drew1) | exact HB.out)⟩

/-! ### mootkeep1_courses: function 38 -/
def mootkeep1_courses.f (k : Nat)  : Option (Bool) := (some (([(⟨5, 7, (⟨5, 4⟩ : S43)⟩ : S46)] : List (S46)) : List (S46))).bind fun y129 => ((course_Check.f k y129).bind fun t132 => (if t132 = 0 then ((course_At.f k y129 6).bind fun bt133 => (some (bt133.2 == 4))) else (some false)))
theorem mootkeep1_courses.mono : ∀ k, LeO (mootkeep1_courses.f k ) (mootkeep1_courses.f (k + 1) ) := by
  intro  k
  unfold mootkeep1_courses.f
  repeat' first
      | (with_reducible exact course_At.mono _ _ _)
      | (with_reducible exact course_Check.mono _ _)
      | (with_reducible exact LeO.refl _)
      | (with_reducible exact LeO.none _)
      | (with_reducible refine LeO.ite ?_ ?_)
      | (with_reducible refine LeO.bind ?_ (fun _ => ?_))
      | exact course_At.mono _ _ _
      | exact course_Check.mono _ _
      | exact LeO.none _
      | refine LeO.ite ?_ ?_
      | refine LeO.bind ?_ (fun _ => ?_)
set_option maxHeartbeats 8000000 in
set_option maxRecDepth 100000 in
theorem mootkeep1_courses.calls (k : Nat)  (r : Bool) (w : World) (h : mootkeep1_courses.f k  = some r) :
    Calls Try.prog 38 #[] w fun e w' => e = .returned (.bool r) ∧ Below w.heap.size w w' := by
  have hu43 := Try.underlying43
  have hu46 := Try.underlying46
  have HB := Aside0.mk (Below.refl w.heap.size w)
  have H : ((some (([(⟨5, 7, (⟨5, 4⟩ : S43)⟩ : S46)] : List (S46)) : List (S46))).bind fun y129 => ((course_Check.f k y129).bind fun t132 => (if t132 = 0 then ((course_At.f k y129 6).bind fun bt133 => (some (bt133.2 == 4))) else (some false)))) = some r := h
  clear h
  obtain ⟨y129, hy129⟩ : ∃ y_ : List (S46), y_ = (([(⟨5, 7, (⟨5, 4⟩ : S43)⟩ : S46)] : List (S46))) := ⟨_, rfl⟩
  replace H : ((course_Check.f k y129).bind fun t132 => (if t132 = 0 then ((course_At.f k y129 6).bind fun bt133 => (some (bt133.2 == 4))) else (some false))) = some r := by first | (rw [hy129]; with_reducible exact H) | (have H2_ := (Option.bind_some _ _).symm.trans H; rw [hy129]; with_reducible exact H2_) | (have H2_ := (Option.bind_some _ _).symm.trans H; with_reducible exact H2_) | with_reducible exact H | (rw [hy129]; exact H) | exact H
  have Ny129 := Aside0.mk hy129
  clear hy129
  replace H := Option.bind_eq_some_iff.mp H
  obtain ⟨t132, A10, H⟩ := H
  replace H : (if t132 = 0 then ((course_At.f k y129 6).bind fun bt133 => (some (bt133.2 == 4))) else (some false)) = some r := H
  have A1 := Aside0.mk A10
  clear A10
  by_cases c2 : t132 = 0
  · rw [if_pos c2] at H
    have c2b0 : (t132 == 0) = true := beq_iff_eq.mpr c2
    have c2b1 : (t132 != 0) = false := bne_eq_false_iff_eq.mpr c2
    clear c2
    replace H := Option.bind_eq_some_iff.mp H
    obtain ⟨⟨t133, t134⟩, A30, H⟩ := H
    replace H : (some (t134 == 4)) = some r := H
    have A3 := Aside0.mk A30
    clear A30
    obtain rfl := Option.some.inj H
    go_enter Try.func38, Try.ntmps38
    go_wp2_with (first | ((with_reducible refine gate_dst (N := 4) rfl ?_); refine Kd.R_lit k46 _ 46 ?hg (N := 4) ?hd (xs := ([(⟨5, 7, (⟨5, 4⟩ : S43)⟩ : S46)] : List (S46))) (inner := [.int .i64 5, .int .i64 7, .int .i64 5, .int .i64 4]) (ok := fun _ => True) (okp := fun _ => True) ?hr ?hp (fun _ hk => hk) trivial (Below.refl _ _) (Nat.le_refl _) (by simp) ?_; (case hd => rfl); (case hg => rfl); (case hr => first | (go_simp; done) | (go_simp; rfl)); (case hp => exact (Reps.c4 (show Kd.M k46 _ _ _ (⟨5, 7, (⟨5, 4⟩ : S43)⟩ : S46) [.int .i64 5, .int .i64 7, .int .i64 5, .int .i64 4] from (k46_mkM _ _ _ (⟨5, 7, (⟨5, 4⟩ : S43)⟩ : S46) )) (Reps.none _ _))); intro v130 w4 ho5 hb hg_ hnew_; clear hg_ hnew_; (first | rw [← Ny129.out] at ho5 | (simp only [Int.reduceToNat] at ho5; rw [← Ny129.out] at ho5)); have n0_ := Aside0.mk (Kd.R_lower ho5 (below_size (by repeat (first | (with_reducible first | exact HB.out | apply below_alloc | apply pw_below_drewN | apply below_drew1) | exact HB.out)))); have n1_ := Aside0.mk (below_step (by repeat (first | (with_reducible first | exact HB.out | apply below_alloc | apply pw_below_drewN | apply below_drew1) | exact HB.out)) hb); clear HB; have HO131 := n0_; have HB := n1_; clear n0_ n1_; clear hb ho5; obtain ⟨Ao6, co6, eo6⟩ := Kd.R_slice HO131.out; subst eo6) | ((with_reducible refine gate_callee (f := 41) rfl ?_); refine goesL_ (some 6) rfl rfl Try.func41 (by kernel_rfl) rfl #[.slice Ao6 y129.length co6] rfl (by (try simp only [List.map_toArray, List.map_cons, List.map_nil]); first | done | rfl | (simp only [List.length_drop, List.length_take]; rfl)) ?_; (with_reducible refine (course_Check.calls k _ _ y129 t132 _ ?side1 ?side2 A1.out).mono ?_); (case side1 => repeat (first | exact (Kd.R_reads' HO131.out).2.2 | (with_reducible refine Kd.C_alloc ?_ _) | (with_reducible refine Kd.C_drewN ?_ _) | (with_reducible refine Kd.C_drew ?_))); (case side2 => exact (Kd.R_reads' HO131.out).2.1); rintro e w7 ⟨rfl, hb⟩; refine ⟨_, rfl, ?_⟩; have n0_ := Aside0.mk (Kd.R_below (by (with_reducible repeat (first | apply Kd.R_alloc | apply Kd.R_drewN | apply Kd.R_drew)); exact HO131.out) hb); have n1_ := Aside0.mk (below_step (by repeat (first | (with_reducible first | exact HB.out | apply below_alloc | apply pw_below_drewN | apply below_drew1) | exact HB.out)) hb); clear HO131; clear HB; have HO131 := n0_; have HB := n1_; clear n0_ n1_; (try clear hb); (try clear hb2); (try clear hk); (try clear hi)) | (go_at_call 39; (with_reducible refine (course_At.calls k _ _ y129 6 t133 t134 _ ?side1 ?side2 A3.out).mono ?_); (case side1 => repeat (first | exact (Kd.R_reads' HO131.out).2.2 | (with_reducible refine Kd.C_alloc ?_ _) | (with_reducible refine Kd.C_drewN ?_ _) | (with_reducible refine Kd.C_drew ?_))); (case side2 => exact (Kd.R_reads' HO131.out).2.1); rintro e w8 ⟨rfl, hb⟩; have n0_ := Aside0.mk (Kd.R_below (by (with_reducible repeat (first | apply Kd.R_alloc | apply Kd.R_drewN | apply Kd.R_drew)); exact HO131.out) hb); have n1_ := Aside0.mk (below_step (by repeat (first | (with_reducible first | exact HB.out | apply below_alloc | apply pw_below_drewN | apply below_drew1) | exact HB.out)) hb); clear HO131; clear HB; have HO131 := n0_; have HB := n1_; clear n0_ n1_; (try clear hb); (try clear hb2); (try clear hk); (try clear hi)))
    go_ret
    exact ⟨by first | rfl | (simp [errW_none, errW_some] <;> rfl) | (simp [*, errW_none, errW_some] <;> rfl), by repeat (first | (with_reducible first | exact HB.out | apply below_alloc | apply pw_below_drewN | apply below_drew1) | exact HB.out)⟩
  · rw [if_neg c2] at H
    have c2b0 : (t132 == 0) = false := beq_eq_false_iff_ne.mpr c2
    have c2b1 : (t132 != 0) = true := bne_iff_ne.mpr c2
    obtain rfl := Option.some.inj H
    go_enter Try.func38, Try.ntmps38
    go_wp2_with (first | ((with_reducible refine gate_dst (N := 4) rfl ?_); refine Kd.R_lit k46 _ 46 ?hg (N := 4) ?hd (xs := ([(⟨5, 7, (⟨5, 4⟩ : S43)⟩ : S46)] : List (S46))) (inner := [.int .i64 5, .int .i64 7, .int .i64 5, .int .i64 4]) (ok := fun _ => True) (okp := fun _ => True) ?hr ?hp (fun _ hk => hk) trivial (Below.refl _ _) (Nat.le_refl _) (by simp) ?_; (case hd => rfl); (case hg => rfl); (case hr => first | (go_simp; done) | (go_simp; rfl)); (case hp => exact (Reps.c4 (show Kd.M k46 _ _ _ (⟨5, 7, (⟨5, 4⟩ : S43)⟩ : S46) [.int .i64 5, .int .i64 7, .int .i64 5, .int .i64 4] from (k46_mkM _ _ _ (⟨5, 7, (⟨5, 4⟩ : S43)⟩ : S46) )) (Reps.none _ _))); intro v130 w9 ho10 hb hg_ hnew_; clear hg_ hnew_; (first | rw [← Ny129.out] at ho10 | (simp only [Int.reduceToNat] at ho10; rw [← Ny129.out] at ho10)); have n0_ := Aside0.mk (Kd.R_lower ho10 (below_size (by repeat (first | (with_reducible first | exact HB.out | apply below_alloc | apply pw_below_drewN | apply below_drew1) | exact HB.out)))); have n1_ := Aside0.mk (below_step (by repeat (first | (with_reducible first | exact HB.out | apply below_alloc | apply pw_below_drewN | apply below_drew1) | exact HB.out)) hb); clear HB; have HO131 := n0_; have HB := n1_; clear n0_ n1_; clear hb ho10; obtain ⟨Ao11, co11, eo11⟩ := Kd.R_slice HO131.out; subst eo11) | ((with_reducible refine gate_callee (f := 41) rfl ?_); refine goesL_ (some 6) rfl rfl Try.func41 (by kernel_rfl) rfl #[.slice Ao11 y129.length co11] rfl (by (try simp only [List.map_toArray, List.map_cons, List.map_nil]); first | done | rfl | (simp only [List.length_drop, List.length_take]; rfl)) ?_; (with_reducible refine (course_Check.calls k _ _ y129 t132 _ ?side1 ?side2 A1.out).mono ?_); (case side1 => repeat (first | exact (Kd.R_reads' HO131.out).2.2 | (with_reducible refine Kd.C_alloc ?_ _) | (with_reducible refine Kd.C_drewN ?_ _) | (with_reducible refine Kd.C_drew ?_))); (case side2 => exact (Kd.R_reads' HO131.out).2.1); rintro e w12 ⟨rfl, hb⟩; refine ⟨_, rfl, ?_⟩; have n0_ := Aside0.mk (Kd.R_below (by (with_reducible repeat (first | apply Kd.R_alloc | apply Kd.R_drewN | apply Kd.R_drew)); exact HO131.out) hb); have n1_ := Aside0.mk (below_step (by repeat (first | (with_reducible first | exact HB.out | apply below_alloc | apply pw_below_drewN | apply below_drew1) | exact HB.out)) hb); clear HO131; clear HB; have HO131 := n0_; have HB := n1_; clear n0_ n1_; (try clear hb); (try clear hb2); (try clear hk); (try clear hi)))
    go_ret
    exact ⟨by first | rfl | (simp [errW_none, errW_some] <;> rfl) | (simp [*, errW_none, errW_some] <;> rfl), by repeat (first | (with_reducible first | exact HB.out | apply below_alloc | apply pw_below_drewN | apply below_drew1) | exact HB.out)⟩

end Go.Proofs.Ytdajcnhhfgnbmaa.PCoursePut
