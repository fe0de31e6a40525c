/- The machine side of a law, written by a program of this session (wip/mp). -/
import Derived.Test.YtaljkilnpfmlaaaPFeastNextx0
import Derived.Test.YtaljkilnpfmlaaaPFeastNextx2
import Derived.Test.YtaljkilnpfmlaaaPFeastNextx3
import Derived.Test.YtaljkilnpfmlaaaPFeastNextx6
import Derived.Test.YtaljkilnpfmlaaaPFeastNextx7
namespace Go.Proofs.Ytaljkilnpfmlaaa.PFeastNext
open Go.RowKit Go.Proofs.YtaljkilnpfmlaaaW.PrintWords Go.Proofs.YtaljkilnpfmlaaaW.PrintLast Go.Proofs.YtaljkilnpfmlaaaW.PrintMore
attribute [local go_sem] max2_int min2_int max_two min_two max_three min_three max_four min_four   -- for this text's walks alone
set_option linter.unusedVariables false
set_option linter.unusedSimpArgs false

attribute [local go_sem] idx53_2_0 idx53_5_0
/-! ### feast_Count: function 32 -/
mutual
def feast_Count.j0 : Nat → Int → Int → Bool → Bool → Bool → Bool → Bool → Bool → Bool → Bool → List (S80) → Option (Int × Int)
  | 0, _, _, _, _, _, _, _, _, _, _, _ => none
  | k + 1, x1, x2, x26, x186000, x186001, x186002, x186003, x186004, x186005, x186006, x186007 => if x26 = true then (some (0, 1)) else (if (wrap64 (x2 - x1)) > 8000 then (some (0, 2)) else (feast_Count.l0 k x2 0 x1 x186000 x186001 x186002 x186003 x186004 x186005 x186006 x186007))
def feast_Count.l0 : Nat → Int → Int → Int → Bool → Bool → Bool → Bool → Bool → Bool → Bool → List (S80) → Option (Int × Int)
  | 0, _, _, _, _, _, _, _, _, _, _, _ => none
  | k + 1, x2, x9, x10, x186000, x186001, x186002, x186003, x186004, x186005, x186006, x186007 => if x10 < x2 then ((feast_Works.f k x186000 x186001 x186002 x186003 x186004 x186005 x186006 x186007 x10).bind fun t187 => (if t187 = true then (feast_Count.l0 k x2 (wrap64 (x9 + 1)) (wrap64 (x10 + 1)) x186000 x186001 x186002 x186003 x186004 x186005 x186006 x186007) else (feast_Count.l0 k x2 x9 (wrap64 (x10 + 1)) x186000 x186001 x186002 x186003 x186004 x186005 x186006 x186007))) else (some (x9, 0))
end
def feast_Count.f (k : Nat) (a0_0 : Bool) (a0_1 : Bool) (a0_2 : Bool) (a0_3 : Bool) (a0_4 : Bool) (a0_5 : Bool) (a0_6 : Bool) (l0_7 : List (S80)) (a1 : Int) (a2 : Int) : Option (Int × Int) := (feast_Check.f k a0_0 a0_1 a0_2 a0_3 a0_4 a0_5 a0_6 l0_7).bind fun t186 => (if t186 = 0 then (if a1 < 0 then (feast_Count.j0 k a1 a2 true a0_0 a0_1 a0_2 a0_3 a0_4 a0_5 a0_6 l0_7) else (if a2 > 1048576 then (feast_Count.j0 k a1 a2 true a0_0 a0_1 a0_2 a0_3 a0_4 a0_5 a0_6 l0_7) else (feast_Count.j0 k a1 a2 (decide (a1 > a2)) a0_0 a0_1 a0_2 a0_3 a0_4 a0_5 a0_6 l0_7))) else (some (0, t186)))
theorem feast_Count.mono_l : ∀ k, (∀ y0 y1 y2 y3 y4 y5 y6 y7 y8 y9 y10, LeO (feast_Count.j0 k y0 y1 y2 y3 y4 y5 y6 y7 y8 y9 y10) (feast_Count.j0 (k + 1) y0 y1 y2 y3 y4 y5 y6 y7 y8 y9 y10)) ∧ (∀ y0 y1 y2 y3 y4 y5 y6 y7 y8 y9 y10, LeO (feast_Count.l0 k y0 y1 y2 y3 y4 y5 y6 y7 y8 y9 y10) (feast_Count.l0 (k + 1) y0 y1 y2 y3 y4 y5 y6 y7 y8 y9 y10))
  | 0 => ⟨fun _ _ _ _ _ _ _ _ _ _ _ r h => by simp [feast_Count.j0] at h, fun _ _ _ _ _ _ _ _ _ _ _ r h => by simp [feast_Count.l0] at h⟩
  | k + 1 => by
    obtain ⟨ih0, ih1⟩ := feast_Count.mono_l k
    refine ⟨?_, ?_⟩
    · intro y0 y1 y2 y3 y4 y5 y6 y7 y8 y9 y10
      unfold feast_Count.j0
      repeat' first
      | (with_reducible exact ih0 _ _ _ _ _ _ _ _ _ _ _)
      | (with_reducible exact ih1 _ _ _ _ _ _ _ _ _ _ _)
      | (with_reducible exact feast_Check.mono _ _ _ _ _ _ _ _ _)
      | (with_reducible exact feast_Works.mono _ _ _ _ _ _ _ _ _ _)
      | (with_reducible exact LeO.refl _)
      | (with_reducible exact LeO.none _)
      | (with_reducible refine LeO.ite ?_ ?_)
      | (with_reducible refine LeO.bind ?_ (fun _ => ?_))
      | exact ih0 _ _ _ _ _ _ _ _ _ _ _
      | exact ih1 _ _ _ _ _ _ _ _ _ _ _
      | exact feast_Check.mono _ _ _ _ _ _ _ _ _
      | exact feast_Works.mono _ _ _ _ _ _ _ _ _ _
      | exact LeO.none _
      | refine LeO.ite ?_ ?_
      | refine LeO.bind ?_ (fun _ => ?_)
    · intro y0 y1 y2 y3 y4 y5 y6 y7 y8 y9 y10
      unfold feast_Count.l0
      repeat' first
      | (with_reducible exact ih0 _ _ _ _ _ _ _ _ _ _ _)
      | (with_reducible exact ih1 _ _ _ _ _ _ _ _ _ _ _)
      | (with_reducible exact feast_Check.mono _ _ _ _ _ _ _ _ _)
      | (with_reducible exact feast_Works.mono _ _ _ _ _ _ _ _ _ _)
      | (with_reducible exact LeO.refl _)
      | (with_reducible exact LeO.none _)
      | (with_reducible refine LeO.ite ?_ ?_)
      | (with_reducible refine LeO.bind ?_ (fun _ => ?_))
      | exact ih0 _ _ _ _ _ _ _ _ _ _ _
      | exact ih1 _ _ _ _ _ _ _ _ _ _ _
      | exact feast_Check.mono _ _ _ _ _ _ _ _ _
      | exact feast_Works.mono _ _ _ _ _ _ _ _ _ _
      | exact LeO.none _
      | refine LeO.ite ?_ ?_
      | refine LeO.bind ?_ (fun _ => ?_)
theorem feast_Count.mono : ∀ a0 a1 a2 a3 a4 a5 a6 a7 a8 a9 k, LeO (feast_Count.f k a0 a1 a2 a3 a4 a5 a6 a7 a8 a9) (feast_Count.f (k + 1) a0 a1 a2 a3 a4 a5 a6 a7 a8 a9) := by
  intro a0 a1 a2 a3 a4 a5 a6 a7 a8 a9 k
  obtain ⟨ih0, ih1⟩ := feast_Count.mono_l k
  unfold feast_Count.f
  repeat' first
      | (with_reducible exact ih0 _ _ _ _ _ _ _ _ _ _ _)
      | (with_reducible exact ih1 _ _ _ _ _ _ _ _ _ _ _)
      | (with_reducible exact feast_Check.mono _ _ _ _ _ _ _ _ _)
      | (with_reducible exact feast_Works.mono _ _ _ _ _ _ _ _ _ _)
      | (with_reducible exact LeO.refl _)
      | (with_reducible exact LeO.none _)
      | (with_reducible refine LeO.ite ?_ ?_)
      | (with_reducible refine LeO.bind ?_ (fun _ => ?_))
      | exact ih0 _ _ _ _ _ _ _ _ _ _ _
      | exact ih1 _ _ _ _ _ _ _ _ _ _ _
      | exact feast_Check.mono _ _ _ _ _ _ _ _ _
      | exact feast_Works.mono _ _ _ _ _ _ _ _ _ _
      | exact LeO.none _
      | refine LeO.ite ?_ ?_
      | refine LeO.bind ?_ (fun _ => ?_)
set_option maxHeartbeats 8000000 in
set_option maxRecDepth 100000 in
theorem feast_Count.calls (k : Nat) (a0_0 : Bool) (a0_1 : Bool) (a0_2 : Bool) (a0_3 : Bool) (a0_4 : Bool) (a0_5 : Bool) (a0_6 : Bool) (A0_7 : Option Addr) (c0_7 : Nat) (l0_7 : List (S80)) (a1 : Int) (a2 : Int) (r1 : Int) (r2 : Int) (w : World) (hr0_7 : Kd.C k80 w A0_7 l0_7.length l0_7) (hc0_7 : l0_7.length ≤ c0_7) (h : feast_Count.f k a0_0 a0_1 a0_2 a0_3 a0_4 a0_5 a0_6 l0_7 a1 a2 = some (r1, r2)) :
    Calls Try.prog 32 #[.agg #[.bool a0_0, .bool a0_1, .bool a0_2, .bool a0_3, .bool a0_4, .bool a0_5, .bool a0_6, .slice A0_7 l0_7.length c0_7], .int .i64 a1, .int .i64 a2] w fun e w' => e = .returned (.tuple #[.int .i64 r1, .int .i64 r2]) ∧ Below w.heap.size w w' := by
  have hu56 := Try.underlying56
  have HR0_7 := Aside0.mk hr0_7
  have HC0_7 := Aside0.mk hc0_7
  clear hr0_7 hc0_7
  have HB := Aside0.mk (Below.refl w.heap.size w)
  have H : ((feast_Check.f k a0_0 a0_1 a0_2 a0_3 a0_4 a0_5 a0_6 l0_7).bind fun t186 => (if t186 = 0 then (if a1 < 0 then (feast_Count.j0 k a1 a2 true a0_0 a0_1 a0_2 a0_3 a0_4 a0_5 a0_6 l0_7) else (if a2 > 1048576 then (feast_Count.j0 k a1 a2 true a0_0 a0_1 a0_2 a0_3 a0_4 a0_5 a0_6 l0_7) else (feast_Count.j0 k a1 a2 (decide (a1 > a2)) a0_0 a0_1 a0_2 a0_3 a0_4 a0_5 a0_6 l0_7))) else (some (0, t186)))) = some (r1, r2) := h
  clear h
  replace H := Option.bind_eq_some_iff.mp H
  obtain ⟨t186, A40, H⟩ := H
  replace H : (if t186 = 0 then (if a1 < 0 then (feast_Count.j0 k a1 a2 true a0_0 a0_1 a0_2 a0_3 a0_4 a0_5 a0_6 l0_7) else (if a2 > 1048576 then (feast_Count.j0 k a1 a2 true a0_0 a0_1 a0_2 a0_3 a0_4 a0_5 a0_6 l0_7) else (feast_Count.j0 k a1 a2 (decide (a1 > a2)) a0_0 a0_1 a0_2 a0_3 a0_4 a0_5 a0_6 l0_7))) else (some (0, t186))) = some (r1, r2) := H
  have A4 := Aside0.mk A40
  clear A40
  by_cases c5 : t186 = 0
  · rw [if_pos c5] at H
    have c5b0 : (t186 == 0) = true := beq_iff_eq.mpr c5
    have c5b1 : (t186 != 0) = false := bne_eq_false_iff_eq.mpr c5
    clear c5
    have HC6 := Aside0.mk H
    clear H
    go_enter Try.func32, Try.ntmps32
    go_upto_region 4 with (first | ((with_reducible refine gate_dst (N := 3) rfl ?_); refine box_event ?hg (N := 3) ?hd (cs := #[.bool a0_0, .bool a0_1, .bool a0_2, .bool a0_3, .bool a0_4, .bool a0_5, .bool a0_6, .slice A0_7 l0_7.length c0_7]) (t := 56) ?hr ?_; (case hd => rfl); (case hg => rfl); (case hr => first | (go_simp; done) | (go_simp; rfl)); intro gb185 hg w7 hbox hb; have n0_ := Aside0.mk (below_step (by repeat (first | (with_reducible first | exact HB.out | apply below_alloc | apply pw_below_drewN | apply below_drew1) | exact HB.out)) hb); have n1_ := Aside0.mk (hbox); have n2_ := Aside0.mk ((by rw [hg]; exact (below_size (by repeat (first | (with_reducible first | exact HB.out | apply below_alloc | apply pw_below_drewN | apply below_drew1) | exact HB.out))) : w.heap.size ≤ gb185)); have n3_ := Aside0.mk ((by rw [hg]; exact (below_size (by repeat (first | (with_reducible first | exact HB.out | apply below_alloc | apply pw_below_drewN | apply below_drew1) | exact HB.out))) : w.heap.size ≤ gb185)); clear HB; have HB := n0_; have BK185 := n1_; have GW185 := n2_; have GE185 := n3_; clear n0_ n1_ n2_ n3_; clear hb hbox hg; have hcz8_0 : w7.cell? ⟨gb185, 0, none⟩ = some (.bool a0_0) := (blk_cell BK185.out 0).trans rfl; have hcz8_1 : w7.cell? ⟨gb185, 1, none⟩ = some (.bool a0_1) := (blk_cell BK185.out 1).trans rfl; have hcz8_2 : w7.cell? ⟨gb185, 2, none⟩ = some (.bool a0_2) := (blk_cell BK185.out 2).trans rfl; have hcz8_3 : w7.cell? ⟨gb185, 3, none⟩ = some (.bool a0_3) := (blk_cell BK185.out 3).trans rfl; have hcz8_4 : w7.cell? ⟨gb185, 4, none⟩ = some (.bool a0_4) := (blk_cell BK185.out 4).trans rfl; have hcz8_5 : w7.cell? ⟨gb185, 5, none⟩ = some (.bool a0_5) := (blk_cell BK185.out 5).trans rfl; have hcz8_6 : w7.cell? ⟨gb185, 6, none⟩ = some (.bool a0_6) := (blk_cell BK185.out 6).trans rfl; have hcz8_7 : w7.cell? ⟨gb185, 7, none⟩ = some (.slice A0_7 l0_7.length c0_7) := (blk_cell BK185.out 7).trans rfl; have hfz8_0 := blk_frozen BK185.out 0; have hfz8_1 := blk_frozen BK185.out 1; have hfz8_2 := blk_frozen BK185.out 2; have hfz8_3 := blk_frozen BK185.out 3; have hfz8_4 := blk_frozen BK185.out 4; have hfz8_5 := blk_frozen BK185.out 5; have hfz8_6 := blk_frozen BK185.out 6; have hfz8_7 := blk_frozen BK185.out 7) | ((with_reducible refine gate_callee (f := 71) rfl ?_); refine goesL_ (some 12) rfl rfl Try.func71 (by kernel_rfl) rfl #[.agg #[.bool a0_0, .bool a0_1, .bool a0_2, .bool a0_3, .bool a0_4, .bool a0_5, .bool a0_6, .slice A0_7 l0_7.length c0_7]] rfl (by (try simp only [List.map_toArray, List.map_cons, List.map_nil]); first | done | rfl | (simp only [List.length_drop, List.length_take]; rfl)) ?_; (with_reducible refine (feast_Check.calls k a0_0 a0_1 a0_2 a0_3 a0_4 a0_5 a0_6 _ _ l0_7 t186 _ ?side1 ?side2 A4.out).mono ?_); (case side1 => repeat (first | exact (Kd.C_below HR0_7.out HB.out) | (with_reducible refine Kd.C_alloc ?_ _) | (with_reducible refine Kd.C_drewN ?_ _) | (with_reducible refine Kd.C_drew ?_))); (case side2 => exact HC0_7.out); rintro e w9 ⟨rfl, hb⟩; refine ⟨_, rfl, ?_⟩; have n0_ := Aside0.mk (blk_below (g := gb185) (o := .cells #[.bool a0_0, .bool a0_1, .bool a0_2, .bool a0_3, .bool a0_4, .bool a0_5, .bool a0_6, .slice A0_7 l0_7.length c0_7] 56 (0, 0)) (by (with_reducible repeat (first | refine blk_drewN ?_ _ | refine blk_drew ?_ | refine blk_alloc ?_ _)); exact BK185.out) hb); have n1_ := Aside0.mk (below_step (by repeat (first | (with_reducible first | exact HB.out | apply below_alloc | apply pw_below_drewN | apply below_drew1 | refine below_set ?_ GE185.out) | exact HB.out)) hb); clear BK185; clear HB; have BK185 := n0_; have HB := n1_; clear n0_ n1_; (try clear hb); (try clear hb2); (try clear hk); (try clear hi)))
    (try simp only [Act.put, List.setIfInBounds_toArray, List.set_cons_zero, List.set_cons_succ])
    go_cut [26] (fun v26 wc => ∃ (kq : Nat) (x26_5 : Bool), v26 = .bool x26_5 ∧ Aside0 (feast_Count.j0 kq a1 a2 x26_5 a0_0 a0_1 a0_2 a0_3 a0_4 a0_5 a0_6 l0_7 = some (r1, r2)) ∧ Aside0 (kq ≤ k) ∧ Aside0 (wc.heap[gb185]? = some (.cells #[.bool a0_0, .bool a0_1, .bool a0_2, .bool a0_3, .bool a0_4, .bool a0_5, .bool a0_6, (.slice A0_7 l0_7.length c0_7)] 56 (0, 0))) ∧ Aside0 (Below w.heap.size w wc))
    case first =>
      have H := HC6.out
      clear HC6
      by_cases c10 : a1 < 0
      · rw [if_pos c10] at H
        have c10b0 : decide (a1 < 0) = true := decide_eq_true c10
        clear c10
        (first | rw [c10b0] | (simp only [i64_w, i32_w]; rw [c10b0]) | skip)
        have H' := Aside0.mk H
        clear H
        go_wp2
        go_meet
        case rel => exact ⟨_, (true), (by first | rfl | (simp; done) | (simp [*]; done)), H', ⟨by first | omega | exact Nat.le_refl _⟩, ⟨by (with_reducible repeat (first | refine blk_drewN ?_ _ | refine blk_drew ?_ | refine blk_alloc ?_ _)); exact BK185.out⟩, ⟨by repeat (first | (with_reducible first | exact HB.out | apply below_alloc | apply pw_below_drewN | apply below_drew1 | refine below_set ?_ GE185.out) | exact HB.out)⟩⟩
      · rw [if_neg c10] at H
        have c10b0 : decide (a1 < 0) = false := decide_eq_false c10
        clear c10
        (first | rw [c10b0] | (simp only [i64_w, i32_w]; rw [c10b0]) | skip)
        by_cases c11 : a2 > 1048576
        · rw [if_pos c11] at H
          have c11b0 : decide (1048576 < a2) = true := decide_eq_true c11
          clear c11
          have H' := Aside0.mk H
          clear H
          go_wp2
          go_meet
          case rel => exact ⟨_, (true), (by first | rfl | (simp; done) | (simp [*]; done)), H', ⟨by first | omega | exact Nat.le_refl _⟩, ⟨by (with_reducible repeat (first | refine blk_drewN ?_ _ | refine blk_drew ?_ | refine blk_alloc ?_ _)); exact BK185.out⟩, ⟨by repeat (first | (with_reducible first | exact HB.out | apply below_alloc | apply pw_below_drewN | apply below_drew1 | refine below_set ?_ GE185.out) | exact HB.out)⟩⟩
        · rw [if_neg c11] at H
          have c11b0 : decide (1048576 < a2) = false := decide_eq_false c11
          clear c11
          have H' := Aside0.mk H
          clear H
          go_wp2
          go_meet
          case rel => exact ⟨_, (decide (a1 > a2)), (by first | rfl | (simp; done) | (simp [*]; done)), H', ⟨by first | omega | exact Nat.le_refl _⟩, ⟨by (with_reducible repeat (first | refine blk_drewN ?_ _ | refine blk_drew ?_ | refine blk_alloc ?_ _)); exact BK185.out⟩, ⟨by repeat (first | (with_reducible first | exact HB.out | apply below_alloc | apply pw_below_drewN | apply below_drew1 | refine below_set ?_ GE185.out) | exact HB.out)⟩⟩
    case rest =>
      clear HC6
      try clear c1
      try clear p2
      try clear c3
      try clear c5
      try clear c5b0
      try clear c5b1
      try clear c7
      try clear c10
      try clear c10b0
      try clear c11
      try clear c11b0
      try clear hcz8_0
      try clear hcz8_1
      try clear hcz8_2
      try clear hcz8_3
      try clear hcz8_4
      try clear hcz8_5
      try clear hcz8_6
      try clear hcz8_7
      try clear hfz8_0
      try clear hfz8_1
      try clear hfz8_2
      try clear hfz8_3
      try clear hfz8_4
      try clear hfz8_5
      try clear hfz8_6
      try clear hfz8_7
      obtain ⟨kq, x26_5, rfl, HA, HJ5, BK185, HB⟩ := hcut
      cases kq with
      | zero => exact absurd HA.out (by simp [feast_Count.j0])
      | succ kj5 =>
        have H := HA.out
        clear HA
        simp only [feast_Count.j0] at H
        by_cases c12 : x26_5 = true
        · subst c12
          have H1 : (some (0, 1)) = some (r1, r2) := by rw [if_pos rfl] at H; exact H
          clear H
          have H := H1
          clear H1
          simp only [Option.some.injEq, Prod.mk.injEq] at H
          obtain ⟨rfl, rfl⟩ := H
          go_wp2
          go_ret2
          exact ⟨by first | rfl | (simp [errW_none, errW_some] <;> rfl) | (simp [*, errW_none, errW_some] <;> rfl), by repeat (first | (with_reducible first | exact HB.out | apply below_alloc | apply pw_below_drewN | apply below_drew1 | refine below_set ?_ GE185.out) | exact HB.out)⟩
        · replace c12 := Bool.eq_false_iff.mpr c12
          subst c12
          have H1 : (if (wrap64 (a2 - a1)) > 8000 then (some (0, 2)) else (feast_Count.l0 kj5 a2 0 a1 a0_0 a0_1 a0_2 a0_3 a0_4 a0_5 a0_6 l0_7)) = some (r1, r2) := by rw [if_neg (show ¬ (false = true) by decide)] at H; exact H
          clear H
          have H := H1
          clear H1
          by_cases c13 : (wrap64 (a2 - a1)) > 8000
          · rw [if_pos c13] at H
            have c13b0 : decide (8000 < (wrap64 (a2 - a1))) = true := decide_eq_true c13
            clear c13
            simp only [Option.some.injEq, Prod.mk.injEq] at H
            obtain ⟨rfl, rfl⟩ := H
            go_wp2
            go_ret2
            exact ⟨by first | rfl | (simp [errW_none, errW_some] <;> rfl) | (simp [*, errW_none, errW_some] <;> rfl), by repeat (first | (with_reducible first | exact HB.out | apply below_alloc | apply pw_below_drewN | apply below_drew1 | refine below_set ?_ GE185.out) | exact HB.out)⟩
          · rw [if_neg c13] at H
            have c13b0 : decide (8000 < (wrap64 (a2 - a1))) = false := decide_eq_false c13
            clear c13
            have H' := Aside0.mk H
            clear H
            go_wp2
            go_loopg [9, 10] kj5 (fun kq v9 v10 w' => ∃ (x9_2 : Int) (x10_2 : Int), v9 = .int .i64 x9_2 ∧ v10 = .int .i64 x10_2 ∧ Aside0 (feast_Count.l0 kq a2 x9_2 x10_2 a0_0 a0_1 a0_2 a0_3 a0_4 a0_5 a0_6 l0_7 = some (r1, r2)) ∧ Aside0 (kq ≤ kj5) ∧ Aside0 (w'.heap[gb185]? = some (.cells #[.bool a0_0, .bool a0_1, .bool a0_2, .bool a0_3, .bool a0_4, .bool a0_5, .bool a0_6, (.slice A0_7 l0_7.length c0_7)] 56 (0, 0))) ∧ Aside0 (Below w.heap.size w w'))
            case atStart => exact ⟨(0), (a1), (by first | rfl | (simp; done) | (simp [*]; done)), (by first | rfl | (simp; done) | (simp [*]; done)), H', ⟨Nat.le_refl _⟩, ⟨by (with_reducible repeat (first | refine blk_drewN ?_ _ | refine blk_drew ?_ | refine blk_alloc ?_ _)); exact BK185.out⟩, ⟨by repeat (first | (with_reducible first | exact HB.out | apply below_alloc | apply pw_below_drewN | apply below_drew1 | refine below_set ?_ GE185.out) | exact HB.out)⟩⟩
            case round =>
              clear H'
              try clear c1
              try clear p2
              try clear c3
              try clear c5
              try clear c5b0
              try clear c5b1
              try clear p6
              try clear c7
              try clear c10
              try clear c10b0
              try clear c11
              try clear c11b0
              try clear c12
              try clear c13
              try clear c13b0
              try clear hcz8_0
              try clear hcz8_1
              try clear hcz8_2
              try clear hcz8_3
              try clear hcz8_4
              try clear hcz8_5
              try clear hcz8_6
              try clear hcz8_7
              try clear hfz8_0
              try clear hfz8_1
              try clear hfz8_2
              try clear hfz8_3
              try clear hfz8_4
              try clear hfz8_5
              try clear hfz8_6
              try clear hfz8_7
              try clear p2
              obtain ⟨x9_2, x10_2, rfl, rfl, HA, HK2, BK185, HB⟩ := hrel
              cases gk with
              | zero => exact absurd HA.out (by simp [feast_Count.l0])
              | succ k2 =>
                have H := HA.out
                clear HA
                simp only [feast_Count.l0] at H
                by_cases c14 : x10_2 < a2
                · rw [if_pos c14] at H
                  have c14b0 : decide (x10_2 < a2) = true := decide_eq_true c14
                  clear c14
                  replace H := Option.bind_eq_some_iff.mp H
                  obtain ⟨t187, A150, H⟩ := H
                  replace H : (if t187 = true then (feast_Count.l0 k2 a2 (wrap64 (x9_2 + 1)) (wrap64 (x10_2 + 1)) a0_0 a0_1 a0_2 a0_3 a0_4 a0_5 a0_6 l0_7) else (feast_Count.l0 k2 a2 x9_2 (wrap64 (x10_2 + 1)) a0_0 a0_1 a0_2 a0_3 a0_4 a0_5 a0_6 l0_7)) = some (r1, r2) := H
                  have A15 := Aside0.mk A150
                  clear A150
                  by_cases c16 : t187 = true
                  · subst c16
                    have H1 : (feast_Count.l0 k2 a2 (wrap64 (x9_2 + 1)) (wrap64 (x10_2 + 1)) a0_0 a0_1 a0_2 a0_3 a0_4 a0_5 a0_6 l0_7) = some (r1, r2) := by rw [if_pos rfl] at H; exact H
                    clear H
                    have H := H1
                    clear H1
                    have H' := Aside0.mk H
                    clear H
                    have hcz17_0 : wr.cell? ⟨gb185, 0, none⟩ = some (.bool a0_0) := (blk_cell BK185.out 0).trans rfl
                    have hcz17_1 : wr.cell? ⟨gb185, 1, none⟩ = some (.bool a0_1) := (blk_cell BK185.out 1).trans rfl
                    have hcz17_2 : wr.cell? ⟨gb185, 2, none⟩ = some (.bool a0_2) := (blk_cell BK185.out 2).trans rfl
                    have hcz17_3 : wr.cell? ⟨gb185, 3, none⟩ = some (.bool a0_3) := (blk_cell BK185.out 3).trans rfl
                    have hcz17_4 : wr.cell? ⟨gb185, 4, none⟩ = some (.bool a0_4) := (blk_cell BK185.out 4).trans rfl
                    have hcz17_5 : wr.cell? ⟨gb185, 5, none⟩ = some (.bool a0_5) := (blk_cell BK185.out 5).trans rfl
                    have hcz17_6 : wr.cell? ⟨gb185, 6, none⟩ = some (.bool a0_6) := (blk_cell BK185.out 6).trans rfl
                    have hcz17_7 : wr.cell? ⟨gb185, 7, none⟩ = some (.slice A0_7 l0_7.length c0_7) := (blk_cell BK185.out 7).trans rfl
                    have hfz17_0 := blk_frozen BK185.out 0
                    have hfz17_1 := blk_frozen BK185.out 1
                    have hfz17_2 := blk_frozen BK185.out 2
                    have hfz17_3 := blk_frozen BK185.out 3
                    have hfz17_4 := blk_frozen BK185.out 4
                    have hfz17_5 := blk_frozen BK185.out 5
                    have hfz17_6 := blk_frozen BK185.out 6
                    have hfz17_7 := blk_frozen BK185.out 7
                    go_wp2_with (first | ((with_reducible refine gate_callee (f := 34) rfl ?_); refine goesL_ (some 39) rfl rfl Try.func34 (by kernel_rfl) rfl #[.agg #[.bool a0_0, .bool a0_1, .bool a0_2, .bool a0_3, .bool a0_4, .bool a0_5, .bool a0_6, .slice A0_7 l0_7.length c0_7], .int .i64 x10_2] rfl (by (try simp only [List.map_toArray, List.map_cons, List.map_nil]); first | done | rfl | (simp only [List.length_drop, List.length_take]; rfl)) ?_; (with_reducible refine (feast_Works.calls k2 a0_0 a0_1 a0_2 a0_3 a0_4 a0_5 a0_6 _ _ l0_7 x10_2 true _ ?side1 ?side2 A15.out).mono ?_); (case side1 => repeat (first | exact (Kd.C_below HR0_7.out HB.out) | (with_reducible refine Kd.C_alloc ?_ _) | (with_reducible refine Kd.C_drewN ?_ _) | (with_reducible refine Kd.C_drew ?_))); (case side2 => exact HC0_7.out); rintro e w18 ⟨rfl, hb⟩; refine ⟨_, rfl, ?_⟩; have n0_ := Aside0.mk (blk_below (g := gb185) (o := .cells #[.bool a0_0, .bool a0_1, .bool a0_2, .bool a0_3, .bool a0_4, .bool a0_5, .bool a0_6, .slice A0_7 l0_7.length c0_7] 56 (0, 0)) (by (with_reducible repeat (first | refine blk_drewN ?_ _ | refine blk_drew ?_ | refine blk_alloc ?_ _)); exact BK185.out) hb); have n1_ := Aside0.mk (below_step (by repeat (first | (with_reducible first | exact HB.out | apply below_alloc | apply pw_below_drewN | apply below_drew1 | refine below_set ?_ GE185.out) | exact HB.out)) hb); clear BK185; clear HB; have BK185 := n0_; have HB := n1_; clear n0_ n1_; (try clear hb); (try clear hb2); (try clear hk); (try clear hi)))
                    go_roundg k2
                    case measure => have := HJ5.out; have := HK2.out; omega
                    case rel => exact ⟨(wrap64 (x9_2 + 1)), (wrap64 (x10_2 + 1)), (by first | rfl | (simp; done) | (simp [*]; done)), (by first | rfl | (simp; done) | (simp [*]; done)), H', ⟨by have := HJ5.out; have := HK2.out; omega⟩, ⟨by (with_reducible repeat (first | refine blk_drewN ?_ _ | refine blk_drew ?_ | refine blk_alloc ?_ _)); exact BK185.out⟩, ⟨by repeat (first | (with_reducible first | exact HB.out | apply below_alloc | apply pw_below_drewN | apply below_drew1 | refine below_set ?_ GE185.out) | exact HB.out)⟩⟩
                  · replace c16 := Bool.eq_false_iff.mpr c16
                    subst c16
                    have H1 : (feast_Count.l0 k2 a2 x9_2 (wrap64 (x10_2 + 1)) a0_0 a0_1 a0_2 a0_3 a0_4 a0_5 a0_6 l0_7) = some (r1, r2) := by rw [if_neg (show ¬ (false = true) by decide)] at H; exact H
                    clear H
                    have H := H1
                    clear H1
                    have H' := Aside0.mk H
                    clear H
                    have hcz19_0 : wr.cell? ⟨gb185, 0, none⟩ = some (.bool a0_0) := (blk_cell BK185.out 0).trans rfl
                    have hcz19_1 : wr.cell? ⟨gb185, 1, none⟩ = some (.bool a0_1) := (blk_cell BK185.out 1).trans rfl
                    have hcz19_2 : wr.cell? ⟨gb185, 2, none⟩ = some (.bool a0_2) := (blk_cell BK185.out 2).trans rfl
                    have hcz19_3 : wr.cell? ⟨gb185, 3, none⟩ = some (.bool a0_3) := (blk_cell BK185.out 3).trans rfl
                    have hcz19_4 : wr.cell? ⟨gb185, 4, none⟩ = some (.bool a0_4) := (blk_cell BK185.out 4).trans rfl
                    have hcz19_5 : wr.cell? ⟨gb185, 5, none⟩ = some (.bool a0_5) := (blk_cell BK185.out 5).trans rfl
                    have hcz19_6 : wr.cell? ⟨gb185, 6, none⟩ = some (.bool a0_6) := (blk_cell BK185.out 6).trans rfl
                    have hcz19_7 : wr.cell? ⟨gb185, 7, none⟩ = some (.slice A0_7 l0_7.length c0_7) := (blk_cell BK185.out 7).trans rfl
                    have hfz19_0 := blk_frozen BK185.out 0
                    have hfz19_1 := blk_frozen BK185.out 1
                    have hfz19_2 := blk_frozen BK185.out 2
                    have hfz19_3 := blk_frozen BK185.out 3
                    have hfz19_4 := blk_frozen BK185.out 4
                    have hfz19_5 := blk_frozen BK185.out 5
                    have hfz19_6 := blk_frozen BK185.out 6
                    have hfz19_7 := blk_frozen BK185.out 7
                    go_wp2_with (first | ((with_reducible refine gate_callee (f := 34) rfl ?_); refine goesL_ (some 39) rfl rfl Try.func34 (by kernel_rfl) rfl #[.agg #[.bool a0_0, .bool a0_1, .bool a0_2, .bool a0_3, .bool a0_4, .bool a0_5, .bool a0_6, .slice A0_7 l0_7.length c0_7], .int .i64 x10_2] rfl (by (try simp only [List.map_toArray, List.map_cons, List.map_nil]); first | done | rfl | (simp only [List.length_drop, List.length_take]; rfl)) ?_; (with_reducible refine (feast_Works.calls k2 a0_0 a0_1 a0_2 a0_3 a0_4 a0_5 a0_6 _ _ l0_7 x10_2 false _ ?side1 ?side2 A15.out).mono ?_); (case side1 => repeat (first | exact (Kd.C_below HR0_7.out HB.out) | (with_reducible refine Kd.C_alloc ?_ _) | (with_reducible refine Kd.C_drewN ?_ _) | (with_reducible refine Kd.C_drew ?_))); (case side2 => exact HC0_7.out); rintro e w20 ⟨rfl, hb⟩; refine ⟨_, rfl, ?_⟩; have n0_ := Aside0.mk (blk_below (g := gb185) (o := .cells #[.bool a0_0, .bool a0_1, .bool a0_2, .bool a0_3, .bool a0_4, .bool a0_5, .bool a0_6, .slice A0_7 l0_7.length c0_7] 56 (0, 0)) (by (with_reducible repeat (first | refine blk_drewN ?_ _ | refine blk_drew ?_ | refine blk_alloc ?_ _)); exact BK185.out) hb); have n1_ := Aside0.mk (below_step (by repeat (first | (with_reducible first | exact HB.out | apply below_alloc | apply pw_below_drewN | apply below_drew1 | refine below_set ?_ GE185.out) | exact HB.out)) hb); clear BK185; clear HB; have BK185 := n0_; have HB := n1_; clear n0_ n1_; (try clear hb); (try clear hb2); (try clear hk); (try clear hi)))
                    go_roundg k2
                    case measure => have := HJ5.out; have := HK2.out; omega
                    case rel => exact ⟨(x9_2), (wrap64 (x10_2 + 1)), (by first | rfl | (simp; done) | (simp [*]; done)), (by first | rfl | (simp; done) | (simp [*]; done)), H', ⟨by have := HJ5.out; have := HK2.out; omega⟩, ⟨by (with_reducible repeat (first | refine blk_drewN ?_ _ | refine blk_drew ?_ | refine blk_alloc ?_ _)); exact BK185.out⟩, ⟨by repeat (first | (with_reducible first | exact HB.out | apply below_alloc | apply pw_below_drewN | apply below_drew1 | refine below_set ?_ GE185.out) | exact HB.out)⟩⟩
                · rw [if_neg c14] at H
                  have c14b0 : decide (x10_2 < a2) = false := decide_eq_false c14
                  clear c14
                  simp only [Option.some.injEq, Prod.mk.injEq] at H
                  obtain ⟨rfl, rfl⟩ := H
                  go_wp2
                  go_ret2
                  exact ⟨by first | rfl | (simp [errW_none, errW_some] <;> rfl) | (simp [*, errW_none, errW_some] <;> rfl), by repeat (first | (with_reducible first | exact HB.out | apply below_alloc | apply pw_below_drewN | apply below_drew1 | refine below_set ?_ GE185.out) | exact HB.out)⟩
  · rw [if_neg c5] at H
    have c5b0 : (t186 == 0) = false := beq_eq_false_iff_ne.mpr c5
    have c5b1 : (t186 != 0) = true := bne_iff_ne.mpr c5
    simp only [Option.some.injEq, Prod.mk.injEq] at H
    obtain ⟨rfl, rfl⟩ := H
    go_enter Try.func32, Try.ntmps32
    go_wp2_with (first | ((with_reducible refine gate_dst (N := 3) rfl ?_); refine box_event ?hg (N := 3) ?hd (cs := #[.bool a0_0, .bool a0_1, .bool a0_2, .bool a0_3, .bool a0_4, .bool a0_5, .bool a0_6, .slice A0_7 l0_7.length c0_7]) (t := 56) ?hr ?_; (case hd => rfl); (case hg => rfl); (case hr => first | (go_simp; done) | (go_simp; rfl)); intro gb185 hg w21 hbox hb; have n0_ := Aside0.mk (below_step (by repeat (first | (with_reducible first | exact HB.out | apply below_alloc | apply pw_below_drewN | apply below_drew1) | exact HB.out)) hb); have n1_ := Aside0.mk (hbox); have n2_ := Aside0.mk ((by rw [hg]; exact (below_size (by repeat (first | (with_reducible first | exact HB.out | apply below_alloc | apply pw_below_drewN | apply below_drew1) | exact HB.out))) : w.heap.size ≤ gb185)); have n3_ := Aside0.mk ((by rw [hg]; exact (below_size (by repeat (first | (with_reducible first | exact HB.out | apply below_alloc | apply pw_below_drewN | apply below_drew1) | exact HB.out))) : w.heap.size ≤ gb185)); clear HB; have HB := n0_; have BK185 := n1_; have GW185 := n2_; have GE185 := n3_; clear n0_ n1_ n2_ n3_; clear hb hbox hg; have hcz22_0 : w21.cell? ⟨gb185, 0, none⟩ = some (.bool a0_0) := (blk_cell BK185.out 0).trans rfl; have hcz22_1 : w21.cell? ⟨gb185, 1, none⟩ = some (.bool a0_1) := (blk_cell BK185.out 1).trans rfl; have hcz22_2 : w21.cell? ⟨gb185, 2, none⟩ = some (.bool a0_2) := (blk_cell BK185.out 2).trans rfl; have hcz22_3 : w21.cell? ⟨gb185, 3, none⟩ = some (.bool a0_3) := (blk_cell BK185.out 3).trans rfl; have hcz22_4 : w21.cell? ⟨gb185, 4, none⟩ = some (.bool a0_4) := (blk_cell BK185.out 4).trans rfl; have hcz22_5 : w21.cell? ⟨gb185, 5, none⟩ = some (.bool a0_5) := (blk_cell BK185.out 5).trans rfl; have hcz22_6 : w21.cell? ⟨gb185, 6, none⟩ = some (.bool a0_6) := (blk_cell BK185.out 6).trans rfl; have hcz22_7 : w21.cell? ⟨gb185, 7, none⟩ = some (.slice A0_7 l0_7.length c0_7) := (blk_cell BK185.out 7).trans rfl; have hfz22_0 := blk_frozen BK185.out 0; have hfz22_1 := blk_frozen BK185.out 1; have hfz22_2 := blk_frozen BK185.out 2; have hfz22_3 := blk_frozen BK185.out 3; have hfz22_4 := blk_frozen BK185.out 4; have hfz22_5 := blk_frozen BK185.out 5; have hfz22_6 := blk_frozen BK185.out 6; have hfz22_7 := blk_frozen BK185.out 7) | ((with_reducible refine gate_callee (f := 71) rfl ?_); refine goesL_ (some 12) rfl rfl Try.func71 (by kernel_rfl) rfl #[.agg #[.bool a0_0, .bool a0_1, .bool a0_2, .bool a0_3, .bool a0_4, .bool a0_5, .bool a0_6, .slice A0_7 l0_7.length c0_7]] rfl (by (try simp only [List.map_toArray, List.map_cons, List.map_nil]); first | done | rfl | (simp only [List.length_drop, List.length_take]; rfl)) ?_; (with_reducible refine (feast_Check.calls k a0_0 a0_1 a0_2 a0_3 a0_4 a0_5 a0_6 _ _ l0_7 t186 _ ?side1 ?side2 A4.out).mono ?_); (case side1 => repeat (first | exact (Kd.C_below HR0_7.out HB.out) | (with_reducible refine Kd.C_alloc ?_ _) | (with_reducible refine Kd.C_drewN ?_ _) | (with_reducible refine Kd.C_drew ?_))); (case side2 => exact HC0_7.out); rintro e w23 ⟨rfl, hb⟩; refine ⟨_, rfl, ?_⟩; have n0_ := Aside0.mk (blk_below (g := gb185) (o := .cells #[.bool a0_0, .bool a0_1, .bool a0_2, .bool a0_3, .bool a0_4, .bool a0_5, .bool a0_6, .slice A0_7 l0_7.length c0_7] 56 (0, 0)) (by (with_reducible repeat (first | refine blk_drewN ?_ _ | refine blk_drew ?_ | refine blk_alloc ?_ _)); exact BK185.out) hb); have n1_ := Aside0.mk (below_step (by repeat (first | (with_reducible first | exact HB.out | apply below_alloc | apply pw_below_drewN | apply below_drew1 | refine below_set ?_ GE185.out) | exact HB.out)) hb); clear BK185; clear HB; have BK185 := n0_; have HB := n1_; clear n0_ n1_; (try clear hb); (try clear hb2); (try clear hk); (try clear hi)))
    go_ret2
    exact ⟨by first | rfl | (simp [errW_none, errW_some] <;> rfl) | (simp [*, errW_none, errW_some] <;> rfl), by repeat (first | (with_reducible first | exact HB.out | apply below_alloc | apply pw_below_drewN | apply below_drew1 | refine below_set ?_ GE185.out) | exact HB.out)⟩

/-! ### mootkeep1_feasts: function 33 -/
def mootkeep1_feasts.f (k : Nat)  : Option (Bool) := (feast_Sunday.f k 2000).bind fun bt188 => ((day_Parts.f k bt188.1).bind fun bt190 => (if bt188.2 = 0 then (if bt190.2.1 = 4 then (some (bt190.2.2 == 23)) else (some false)) else (some false)))
theorem mootkeep1_feasts.mono : ∀ k, LeO (mootkeep1_feasts.f k ) (mootkeep1_feasts.f (k + 1) ) := by
  intro  k
  unfold mootkeep1_feasts.f
  repeat' first
      | (with_reducible exact day_Parts.mono _ _)
      | (with_reducible exact feast_Sunday.mono _ _)
      | (with_reducible exact LeO.refl _)
      | (with_reducible exact LeO.none _)
      | (with_reducible refine LeO.ite ?_ ?_)
      | (with_reducible refine LeO.bind ?_ (fun _ => ?_))
      | exact day_Parts.mono _ _
      | exact feast_Sunday.mono _ _
      | exact LeO.none _
      | refine LeO.ite ?_ ?_
      | refine LeO.bind ?_ (fun _ => ?_)
set_option maxHeartbeats 8000000 in
set_option maxRecDepth 100000 in
theorem mootkeep1_feasts.calls (k : Nat)  (r : Bool) (w : World) (h : mootkeep1_feasts.f k  = some r) :
    Calls Try.prog 33 #[] w fun e w' => e = .returned (.bool r) ∧ Below w.heap.size w w' := by
  have HB := Aside0.mk (Below.refl w.heap.size w)
  have H : ((feast_Sunday.f k 2000).bind fun bt188 => ((day_Parts.f k bt188.1).bind fun bt190 => (if bt188.2 = 0 then (if bt190.2.1 = 4 then (some (bt190.2.2 == 23)) else (some false)) else (some false)))) = some r := h
  clear h
  replace H := Option.bind_eq_some_iff.mp H
  obtain ⟨⟨t188, t189⟩, A10, H⟩ := H
  replace H : ((day_Parts.f k t188).bind fun bt190 => (if t189 = 0 then (if bt190.2.1 = 4 then (some (bt190.2.2 == 23)) else (some false)) else (some false))) = some r := H
  have A1 := Aside0.mk A10
  clear A10
  replace H := Option.bind_eq_some_iff.mp H
  obtain ⟨⟨t190, t191, t192⟩, A20, H⟩ := H
  replace H : (if t189 = 0 then (if t191 = 4 then (some (t192 == 23)) else (some false)) else (some false)) = some r := H
  have A2 := Aside0.mk A20
  clear A20
  by_cases c3 : t189 = 0
  · rw [if_pos c3] at H
    have c3b0 : (t189 == 0) = true := beq_iff_eq.mpr c3
    have c3b1 : (t189 != 0) = false := bne_eq_false_iff_eq.mpr c3
    clear c3
    by_cases c4 : t191 = 4
    · rw [if_pos c4] at H
      have c4b0 : (t191 == 4) = true := beq_iff_eq.mpr c4
      have c4b1 : (t191 != 4) = false := bne_eq_false_iff_eq.mpr c4
      clear c4
      obtain rfl := Option.some.inj H
      go_enter Try.func33, Try.ntmps33
      go_wp2_with (first | ((with_reducible refine gate_callee (f := 72) rfl ?_); refine goesL_ (some 7) rfl rfl Try.func72 (by kernel_rfl) rfl #[.int .i64 2000] rfl (by (try simp only [List.map_toArray, List.map_cons, List.map_nil]); first | done | rfl | (simp only [List.length_drop, List.length_take]; rfl)) ?_; (with_reducible refine (feast_Sunday.calls k 2000 t188 t189 _ A1.out).mono ?_); rintro e w' ⟨rfl, ⟨nd, rfl⟩⟩; refine ⟨_, rfl, ?_⟩) | ((with_reducible refine gate_callee (f := 61) rfl ?_); refine goesL_ (some 12) rfl rfl Try.func61 (by kernel_rfl) rfl #[.int .i64 t188] rfl (by (try simp only [List.map_toArray, List.map_cons, List.map_nil]); first | done | rfl | (simp only [List.length_drop, List.length_take]; rfl)) ?_; (with_reducible refine (day_Parts.calls k t188 t190 t191 t192 _ A2.out).mono ?_); rintro e w5 ⟨rfl, hb⟩; refine ⟨_, rfl, ?_⟩; have n0_ := Aside0.mk (below_step (by repeat (first | (with_reducible first | exact HB.out | apply below_alloc | apply pw_below_drewN | apply below_drew1) | exact HB.out)) hb); clear HB; have HB := n0_; clear n0_; (try clear hb); (try clear hb2); (try clear hk); (try clear hi)))
      go_ret
      exact ⟨by first | rfl | (simp [errW_none, errW_some] <;> rfl) | (simp [*, errW_none, errW_some] <;> rfl), by repeat (first | (with_reducible first | exact HB.out | apply below_alloc | apply pw_below_drewN | apply below_drew1) | exact HB.out)⟩
    · rw [if_neg c4] at H
      have c4b0 : (t191 == 4) = false := beq_eq_false_iff_ne.mpr c4
      have c4b1 : (t191 != 4) = true := bne_iff_ne.mpr c4
      obtain rfl := Option.some.inj H
      go_enter Try.func33, Try.ntmps33
      go_wp2_with (first | ((with_reducible refine gate_callee (f := 72) rfl ?_); refine goesL_ (some 7) rfl rfl Try.func72 (by kernel_rfl) rfl #[.int .i64 2000] rfl (by (try simp only [List.map_toArray, List.map_cons, List.map_nil]); first | done | rfl | (simp only [List.length_drop, List.length_take]; rfl)) ?_; (with_reducible refine (feast_Sunday.calls k 2000 t188 t189 _ A1.out).mono ?_); rintro e w' ⟨rfl, ⟨nd, rfl⟩⟩; refine ⟨_, rfl, ?_⟩) | ((with_reducible refine gate_callee (f := 61) rfl ?_); refine goesL_ (some 12) rfl rfl Try.func61 (by kernel_rfl) rfl #[.int .i64 t188] rfl (by (try simp only [List.map_toArray, List.map_cons, List.map_nil]); first | done | rfl | (simp only [List.length_drop, List.length_take]; rfl)) ?_; (with_reducible refine (day_Parts.calls k t188 t190 t191 t192 _ A2.out).mono ?_); rintro e w6 ⟨rfl, hb⟩; refine ⟨_, rfl, ?_⟩; have n0_ := Aside0.mk (below_step (by repeat (first | (with_reducible first | exact HB.out | apply below_alloc | apply pw_below_drewN | apply below_drew1) | exact HB.out)) hb); clear HB; have HB := n0_; clear n0_; (try clear hb); (try clear hb2); (try clear hk); (try clear hi)))
      go_ret
      exact ⟨by first | rfl | (simp [errW_none, errW_some] <;> rfl) | (simp [*, errW_none, errW_some] <;> rfl), by repeat (first | (with_reducible first | exact HB.out | apply below_alloc | apply pw_below_drewN | apply below_drew1) | exact HB.out)⟩
  · rw [if_neg c3] at H
    have c3b0 : (t189 == 0) = false := beq_eq_false_iff_ne.mpr c3
    have c3b1 : (t189 != 0) = true := bne_iff_ne.mpr c3
    obtain rfl := Option.some.inj H
    go_enter Try.func33, Try.ntmps33
    go_wp2_with (first | ((with_reducible refine gate_callee (f := 72) rfl ?_); refine goesL_ (some 7) rfl rfl Try.func72 (by kernel_rfl) rfl #[.int .i64 2000] rfl (by (try simp only [List.map_toArray, List.map_cons, List.map_nil]); first | done | rfl | (simp only [List.length_drop, List.length_take]; rfl)) ?_; (with_reducible refine (feast_Sunday.calls k 2000 t188 t189 _ A1.out).mono ?_); rintro e w' ⟨rfl, ⟨nd, rfl⟩⟩; refine ⟨_, rfl, ?_⟩) | ((with_reducible refine gate_callee (f := 61) rfl ?_); refine goesL_ (some 12) rfl rfl Try.func61 (by kernel_rfl) rfl #[.int .i64 t188] rfl (by (try simp only [List.map_toArray, List.map_cons, List.map_nil]); first | done | rfl | (simp only [List.length_drop, List.length_take]; rfl)) ?_; (with_reducible refine (day_Parts.calls k t188 t190 t191 t192 _ A2.out).mono ?_); rintro e w7 ⟨rfl, hb⟩; refine ⟨_, rfl, ?_⟩; have n0_ := Aside0.mk (below_step (by repeat (first | (with_reducible first | exact HB.out | apply below_alloc | apply pw_below_drewN | apply below_drew1) | exact HB.out)) hb); clear HB; have HB := n0_; clear n0_; (try clear hb); (try clear hb2); (try clear hk); (try clear hi)))
    go_ret
    exact ⟨by first | rfl | (simp [errW_none, errW_some] <;> rfl) | (simp [*, errW_none, errW_some] <;> rfl), by repeat (first | (with_reducible first | exact HB.out | apply below_alloc | apply pw_below_drewN | apply below_drew1) | exact HB.out)⟩

/-! ### mootkeep1_FeastNext: function 5 -/
def mootkeep1_FeastNext.j0 : Nat → Int → Int → Bool → Bool → Bool → Bool → Bool → Bool → Bool → Bool → List (S80) → Option (Bool)
  | 0, _, _, _, _, _, _, _, _, _, _, _ => none
  | k + 1, x1, x10, x90, x204000, x204001, x204002, x204003, x204004, x204005, x204006, x204007 => if x90 = true then (some false) else ((feast_Count.f k x204000 x204001 x204002 x204003 x204004 x204005 x204006 x204007 x1 x10).bind fun bt216 => (if bt216.2 = 0 then (if bt216.1 = 0 then ((feast_Works.f k x204000 x204001 x204002 x204003 x204004 x204005 x204006 x204007 x10).bind fun t218 => (if t218 = true then (some (decide (x10 ≥ x1))) else (some false))) else (some false)) else (some false)))
def mootkeep1_FeastNext.f (k : Nat) (l0 : List Int) (a1 : Int) (a2 : Int) (a3 : Int) : Option (Bool) := (mootkeep1_cal.f k l0).bind fun bt193 => ((mootmake_Day.f a1).bind fun t204 => ((mootmake_Below.f a2 500).bind fun t205 => ((mootmake_Below.f a3 500).bind fun t206 => ((feast_Next.f k bt193.1 bt193.2.1 bt193.2.2.1 bt193.2.2.2.1 bt193.2.2.2.2.1 bt193.2.2.2.2.2.1 bt193.2.2.2.2.2.2.1 bt193.2.2.2.2.2.2.2 t204).bind fun bt207 => ((feast_Count.f k bt193.1 bt193.2.1 bt193.2.2.1 bt193.2.2.2.1 bt193.2.2.2.2.1 bt193.2.2.2.2.2.1 bt193.2.2.2.2.2.2.1 bt193.2.2.2.2.2.2.2 t204 (wrap64 (t204 + t205))).bind fun bt209 => ((feast_Count.f k bt193.1 bt193.2.1 bt193.2.2.1 bt193.2.2.2.1 bt193.2.2.2.2.1 bt193.2.2.2.2.2.1 bt193.2.2.2.2.2.2.1 bt193.2.2.2.2.2.2.2 (wrap64 (t204 + t205)) (wrap64 ((wrap64 (t204 + t205)) + t206))).bind fun bt211 => ((feast_Count.f k bt193.1 bt193.2.1 bt193.2.2.1 bt193.2.2.2.1 bt193.2.2.2.2.1 bt193.2.2.2.2.2.1 bt193.2.2.2.2.2.2.1 bt193.2.2.2.2.2.2.2 t204 (wrap64 ((wrap64 (t204 + t205)) + t206))).bind fun bt213 => ((mootkeep1_feasts.f k).bind fun t215 => (if t215 = true then (if bt207.2 = 0 then (if bt209.2 = 0 then (if bt211.2 = 0 then (if bt213.2 = 0 then (mootkeep1_FeastNext.j0 k t204 bt207.1 ((wrap64 (bt209.1 + bt211.1)) != bt213.1) bt193.1 bt193.2.1 bt193.2.2.1 bt193.2.2.2.1 bt193.2.2.2.2.1 bt193.2.2.2.2.2.1 bt193.2.2.2.2.2.2.1 bt193.2.2.2.2.2.2.2) else (mootkeep1_FeastNext.j0 k t204 bt207.1 true bt193.1 bt193.2.1 bt193.2.2.1 bt193.2.2.2.1 bt193.2.2.2.2.1 bt193.2.2.2.2.2.1 bt193.2.2.2.2.2.2.1 bt193.2.2.2.2.2.2.2)) else (mootkeep1_FeastNext.j0 k t204 bt207.1 true bt193.1 bt193.2.1 bt193.2.2.1 bt193.2.2.2.1 bt193.2.2.2.2.1 bt193.2.2.2.2.2.1 bt193.2.2.2.2.2.2.1 bt193.2.2.2.2.2.2.2)) else (mootkeep1_FeastNext.j0 k t204 bt207.1 true bt193.1 bt193.2.1 bt193.2.2.1 bt193.2.2.2.1 bt193.2.2.2.2.1 bt193.2.2.2.2.2.1 bt193.2.2.2.2.2.2.1 bt193.2.2.2.2.2.2.2)) else (mootkeep1_FeastNext.j0 k t204 bt207.1 true bt193.1 bt193.2.1 bt193.2.2.1 bt193.2.2.2.1 bt193.2.2.2.2.1 bt193.2.2.2.2.2.1 bt193.2.2.2.2.2.2.1 bt193.2.2.2.2.2.2.2)) else (mootkeep1_FeastNext.j0 k t204 bt207.1 true bt193.1 bt193.2.1 bt193.2.2.1 bt193.2.2.2.1 bt193.2.2.2.2.1 bt193.2.2.2.2.2.1 bt193.2.2.2.2.2.2.1 bt193.2.2.2.2.2.2.2))))))))))
theorem mootkeep1_FeastNext.mono_l : ∀ k, (∀ y0 y1 y2 y3 y4 y5 y6 y7 y8 y9 y10, LeO (mootkeep1_FeastNext.j0 k y0 y1 y2 y3 y4 y5 y6 y7 y8 y9 y10) (mootkeep1_FeastNext.j0 (k + 1) y0 y1 y2 y3 y4 y5 y6 y7 y8 y9 y10))
  | 0 => fun _ _ _ _ _ _ _ _ _ _ _ r h => by simp [mootkeep1_FeastNext.j0] at h
  | k + 1 => by
    have ih0 := mootkeep1_FeastNext.mono_l k
    · intro y0 y1 y2 y3 y4 y5 y6 y7 y8 y9 y10
      unfold mootkeep1_FeastNext.j0
      repeat' first
      | (with_reducible exact ih0 _ _ _ _ _ _ _ _ _ _ _)
      | (with_reducible exact feast_Count.mono _ _ _ _ _ _ _ _ _ _ _)
      | (with_reducible exact feast_Next.mono _ _ _ _ _ _ _ _ _ _)
      | (with_reducible exact feast_Works.mono _ _ _ _ _ _ _ _ _ _)
      | (with_reducible exact mootkeep1_cal.mono _ _)
      | (with_reducible exact mootkeep1_feasts.mono _)
      | (with_reducible exact LeO.refl _)
      | (with_reducible exact LeO.none _)
      | (with_reducible refine LeO.ite ?_ ?_)
      | (with_reducible refine LeO.bind ?_ (fun _ => ?_))
      | exact ih0 _ _ _ _ _ _ _ _ _ _ _
      | exact feast_Count.mono _ _ _ _ _ _ _ _ _ _ _
      | exact feast_Next.mono _ _ _ _ _ _ _ _ _ _
      | exact feast_Works.mono _ _ _ _ _ _ _ _ _ _
      | exact mootkeep1_cal.mono _ _
      | exact mootkeep1_feasts.mono _
      | exact LeO.none _
      | refine LeO.ite ?_ ?_
      | refine LeO.bind ?_ (fun _ => ?_)
theorem mootkeep1_FeastNext.mono : ∀ a0 a1 a2 a3 k, LeO (mootkeep1_FeastNext.f k a0 a1 a2 a3) (mootkeep1_FeastNext.f (k + 1) a0 a1 a2 a3) := by
  intro a0 a1 a2 a3 k
  have ih0 := mootkeep1_FeastNext.mono_l k
  unfold mootkeep1_FeastNext.f
  repeat' first
      | (with_reducible exact ih0 _ _ _ _ _ _ _ _ _ _ _)
      | (with_reducible exact feast_Count.mono _ _ _ _ _ _ _ _ _ _ _)
      | (with_reducible exact feast_Next.mono _ _ _ _ _ _ _ _ _ _)
      | (with_reducible exact feast_Works.mono _ _ _ _ _ _ _ _ _ _)
      | (with_reducible exact mootkeep1_cal.mono _ _)
      | (with_reducible exact mootkeep1_feasts.mono _)
      | (with_reducible exact LeO.refl _)
      | (with_reducible exact LeO.none _)
      | (with_reducible refine LeO.ite ?_ ?_)
      | (with_reducible refine LeO.bind ?_ (fun _ => ?_))
      | exact ih0 _ _ _ _ _ _ _ _ _ _ _
      | exact feast_Count.mono _ _ _ _ _ _ _ _ _ _ _
      | exact feast_Next.mono _ _ _ _ _ _ _ _ _ _
      | exact feast_Works.mono _ _ _ _ _ _ _ _ _ _
      | exact mootkeep1_cal.mono _ _
      | exact mootkeep1_feasts.mono _
      | exact LeO.none _
      | refine LeO.ite ?_ ?_
      | refine LeO.bind ?_ (fun _ => ?_)
set_option maxHeartbeats 8000000 in
set_option maxRecDepth 100000 in
theorem mootkeep1_FeastNext.calls (k : Nat) (A0 : Option Addr) (c0 : Nat) (l0 : List Int) (a1 : Int) (a2 : Int) (a3 : Int) (r : Bool) (w : World) (hr0 : Kd.C (Kd.int .i64) w A0 l0.length l0) (hc0 : l0.length ≤ c0) (h : mootkeep1_FeastNext.f k l0 a1 a2 a3 = some r) :
    Calls Try.prog 5 #[.slice A0 l0.length c0, .int .i64 a1, .int .i64 a2, .int .i64 a3] w fun e w' => e = .returned (.bool r) ∧ Below w.heap.size w w' := by
  have hu56 := Try.underlying56
  have HR0 := Aside0.mk hr0
  have HC0 := Aside0.mk hc0
  clear hr0 hc0
  have HB := Aside0.mk (Below.refl w.heap.size w)
  have H : ((mootkeep1_cal.f k l0).bind fun bt193 => ((mootmake_Day.f a1).bind fun t204 => ((mootmake_Below.f a2 500).bind fun t205 => ((mootmake_Below.f a3 500).bind fun t206 => ((feast_Next.f k bt193.1 bt193.2.1 bt193.2.2.1 bt193.2.2.2.1 bt193.2.2.2.2.1 bt193.2.2.2.2.2.1 bt193.2.2.2.2.2.2.1 bt193.2.2.2.2.2.2.2 t204).bind fun bt207 => ((feast_Count.f k bt193.1 bt193.2.1 bt193.2.2.1 bt193.2.2.2.1 bt193.2.2.2.2.1 bt193.2.2.2.2.2.1 bt193.2.2.2.2.2.2.1 bt193.2.2.2.2.2.2.2 t204 (wrap64 (t204 + t205))).bind fun bt209 => ((feast_Count.f k bt193.1 bt193.2.1 bt193.2.2.1 bt193.2.2.2.1 bt193.2.2.2.2.1 bt193.2.2.2.2.2.1 bt193.2.2.2.2.2.2.1 bt193.2.2.2.2.2.2.2 (wrap64 (t204 + t205)) (wrap64 ((wrap64 (t204 + t205)) + t206))).bind fun bt211 => ((feast_Count.f k bt193.1 bt193.2.1 bt193.2.2.1 bt193.2.2.2.1 bt193.2.2.2.2.1 bt193.2.2.2.2.2.1 bt193.2.2.2.2.2.2.1 bt193.2.2.2.2.2.2.2 t204 (wrap64 ((wrap64 (t204 + t205)) + t206))).bind fun bt213 => ((mootkeep1_feasts.f k).bind fun t215 => (if t215 = true then (if bt207.2 = 0 then (if bt209.2 = 0 then (if bt211.2 = 0 then (if bt213.2 = 0 then (mootkeep1_FeastNext.j0 k t204 bt207.1 ((wrap64 (bt209.1 + bt211.1)) != bt213.1) bt193.1 bt193.2.1 bt193.2.2.1 bt193.2.2.2.1 bt193.2.2.2.2.1 bt193.2.2.2.2.2.1 bt193.2.2.2.2.2.2.1 bt193.2.2.2.2.2.2.2) else (mootkeep1_FeastNext.j0 k t204 bt207.1 true bt193.1 bt193.2.1 bt193.2.2.1 bt193.2.2.2.1 bt193.2.2.2.2.1 bt193.2.2.2.2.2.1 bt193.2.2.2.2.2.2.1 bt193.2.2.2.2.2.2.2)) else (mootkeep1_FeastNext.j0 k t204 bt207.1 true bt193.1 bt193.2.1 bt193.2.2.1 bt193.2.2.2.1 bt193.2.2.2.2.1 bt193.2.2.2.2.2.1 bt193.2.2.2.2.2.2.1 bt193.2.2.2.2.2.2.2)) else (mootkeep1_FeastNext.j0 k t204 bt207.1 true bt193.1 bt193.2.1 bt193.2.2.1 bt193.2.2.2.1 bt193.2.2.2.2.1 bt193.2.2.2.2.2.1 bt193.2.2.2.2.2.2.1 bt193.2.2.2.2.2.2.2)) else (mootkeep1_FeastNext.j0 k t204 bt207.1 true bt193.1 bt193.2.1 bt193.2.2.1 bt193.2.2.2.1 bt193.2.2.2.2.1 bt193.2.2.2.2.2.1 bt193.2.2.2.2.2.2.1 bt193.2.2.2.2.2.2.2)) else (mootkeep1_FeastNext.j0 k t204 bt207.1 true bt193.1 bt193.2.1 bt193.2.2.1 bt193.2.2.2.1 bt193.2.2.2.2.1 bt193.2.2.2.2.2.1 bt193.2.2.2.2.2.2.1 bt193.2.2.2.2.2.2.2))))))))))) = some r := h
  clear h
  replace H := Option.bind_eq_some_iff.mp H
  obtain ⟨⟨t193, t194, t195, t196, t197, t198, t199, t200⟩, A50, H⟩ := H
  replace H : ((mootmake_Day.f a1).bind fun t204 => ((mootmake_Below.f a2 500).bind fun t205 => ((mootmake_Below.f a3 500).bind fun t206 => ((feast_Next.f k t193 t194 t195 t196 t197 t198 t199 t200 t204).bind fun bt207 => ((feast_Count.f k t193 t194 t195 t196 t197 t198 t199 t200 t204 (wrap64 (t204 + t205))).bind fun bt209 => ((feast_Count.f k t193 t194 t195 t196 t197 t198 t199 t200 (wrap64 (t204 + t205)) (wrap64 ((wrap64 (t204 + t205)) + t206))).bind fun bt211 => ((feast_Count.f k t193 t194 t195 t196 t197 t198 t199 t200 t204 (wrap64 ((wrap64 (t204 + t205)) + t206))).bind fun bt213 => ((mootkeep1_feasts.f k).bind fun t215 => (if t215 = true then (if bt207.2 = 0 then (if bt209.2 = 0 then (if bt211.2 = 0 then (if bt213.2 = 0 then (mootkeep1_FeastNext.j0 k t204 bt207.1 ((wrap64 (bt209.1 + bt211.1)) != bt213.1) t193 t194 t195 t196 t197 t198 t199 t200) else (mootkeep1_FeastNext.j0 k t204 bt207.1 true t193 t194 t195 t196 t197 t198 t199 t200)) else (mootkeep1_FeastNext.j0 k t204 bt207.1 true t193 t194 t195 t196 t197 t198 t199 t200)) else (mootkeep1_FeastNext.j0 k t204 bt207.1 true t193 t194 t195 t196 t197 t198 t199 t200)) else (mootkeep1_FeastNext.j0 k t204 bt207.1 true t193 t194 t195 t196 t197 t198 t199 t200)) else (mootkeep1_FeastNext.j0 k t204 bt207.1 true t193 t194 t195 t196 t197 t198 t199 t200)))))))))) = some r := H
  have A5 := Aside0.mk A50
  clear A50
  replace H := Option.bind_eq_some_iff.mp H
  obtain ⟨t204, A60, H⟩ := H
  replace H : ((mootmake_Below.f a2 500).bind fun t205 => ((mootmake_Below.f a3 500).bind fun t206 => ((feast_Next.f k t193 t194 t195 t196 t197 t198 t199 t200 t204).bind fun bt207 => ((feast_Count.f k t193 t194 t195 t196 t197 t198 t199 t200 t204 (wrap64 (t204 + t205))).bind fun bt209 => ((feast_Count.f k t193 t194 t195 t196 t197 t198 t199 t200 (wrap64 (t204 + t205)) (wrap64 ((wrap64 (t204 + t205)) + t206))).bind fun bt211 => ((feast_Count.f k t193 t194 t195 t196 t197 t198 t199 t200 t204 (wrap64 ((wrap64 (t204 + t205)) + t206))).bind fun bt213 => ((mootkeep1_feasts.f k).bind fun t215 => (if t215 = true then (if bt207.2 = 0 then (if bt209.2 = 0 then (if bt211.2 = 0 then (if bt213.2 = 0 then (mootkeep1_FeastNext.j0 k t204 bt207.1 ((wrap64 (bt209.1 + bt211.1)) != bt213.1) t193 t194 t195 t196 t197 t198 t199 t200) else (mootkeep1_FeastNext.j0 k t204 bt207.1 true t193 t194 t195 t196 t197 t198 t199 t200)) else (mootkeep1_FeastNext.j0 k t204 bt207.1 true t193 t194 t195 t196 t197 t198 t199 t200)) else (mootkeep1_FeastNext.j0 k t204 bt207.1 true t193 t194 t195 t196 t197 t198 t199 t200)) else (mootkeep1_FeastNext.j0 k t204 bt207.1 true t193 t194 t195 t196 t197 t198 t199 t200)) else (mootkeep1_FeastNext.j0 k t204 bt207.1 true t193 t194 t195 t196 t197 t198 t199 t200))))))))) = some r := H
  have A6 := Aside0.mk A60
  clear A60
  replace H := Option.bind_eq_some_iff.mp H
  obtain ⟨t205, A70, H⟩ := H
  replace H : ((mootmake_Below.f a3 500).bind fun t206 => ((feast_Next.f k t193 t194 t195 t196 t197 t198 t199 t200 t204).bind fun bt207 => ((feast_Count.f k t193 t194 t195 t196 t197 t198 t199 t200 t204 (wrap64 (t204 + t205))).bind fun bt209 => ((feast_Count.f k t193 t194 t195 t196 t197 t198 t199 t200 (wrap64 (t204 + t205)) (wrap64 ((wrap64 (t204 + t205)) + t206))).bind fun bt211 => ((feast_Count.f k t193 t194 t195 t196 t197 t198 t199 t200 t204 (wrap64 ((wrap64 (t204 + t205)) + t206))).bind fun bt213 => ((mootkeep1_feasts.f k).bind fun t215 => (if t215 = true then (if bt207.2 = 0 then (if bt209.2 = 0 then (if bt211.2 = 0 then (if bt213.2 = 0 then (mootkeep1_FeastNext.j0 k t204 bt207.1 ((wrap64 (bt209.1 + bt211.1)) != bt213.1) t193 t194 t195 t196 t197 t198 t199 t200) else (mootkeep1_FeastNext.j0 k t204 bt207.1 true t193 t194 t195 t196 t197 t198 t199 t200)) else (mootkeep1_FeastNext.j0 k t204 bt207.1 true t193 t194 t195 t196 t197 t198 t199 t200)) else (mootkeep1_FeastNext.j0 k t204 bt207.1 true t193 t194 t195 t196 t197 t198 t199 t200)) else (mootkeep1_FeastNext.j0 k t204 bt207.1 true t193 t194 t195 t196 t197 t198 t199 t200)) else (mootkeep1_FeastNext.j0 k t204 bt207.1 true t193 t194 t195 t196 t197 t198 t199 t200)))))))) = some r := H
  have A7 := Aside0.mk A70
  clear A70
  replace H := Option.bind_eq_some_iff.mp H
  obtain ⟨t206, A80, H⟩ := H
  replace H : ((feast_Next.f k t193 t194 t195 t196 t197 t198 t199 t200 t204).bind fun bt207 => ((feast_Count.f k t193 t194 t195 t196 t197 t198 t199 t200 t204 (wrap64 (t204 + t205))).bind fun bt209 => ((feast_Count.f k t193 t194 t195 t196 t197 t198 t199 t200 (wrap64 (t204 + t205)) (wrap64 ((wrap64 (t204 + t205)) + t206))).bind fun bt211 => ((feast_Count.f k t193 t194 t195 t196 t197 t198 t199 t200 t204 (wrap64 ((wrap64 (t204 + t205)) + t206))).bind fun bt213 => ((mootkeep1_feasts.f k).bind fun t215 => (if t215 = true then (if bt207.2 = 0 then (if bt209.2 = 0 then (if bt211.2 = 0 then (if bt213.2 = 0 then (mootkeep1_FeastNext.j0 k t204 bt207.1 ((wrap64 (bt209.1 + bt211.1)) != bt213.1) t193 t194 t195 t196 t197 t198 t199 t200) else (mootkeep1_FeastNext.j0 k t204 bt207.1 true t193 t194 t195 t196 t197 t198 t199 t200)) else (mootkeep1_FeastNext.j0 k t204 bt207.1 true t193 t194 t195 t196 t197 t198 t199 t200)) else (mootkeep1_FeastNext.j0 k t204 bt207.1 true t193 t194 t195 t196 t197 t198 t199 t200)) else (mootkeep1_FeastNext.j0 k t204 bt207.1 true t193 t194 t195 t196 t197 t198 t199 t200)) else (mootkeep1_FeastNext.j0 k t204 bt207.1 true t193 t194 t195 t196 t197 t198 t199 t200))))))) = some r := H
  have A8 := Aside0.mk A80
  clear A80
  replace H := Option.bind_eq_some_iff.mp H
  obtain ⟨⟨t207, t208⟩, A90, H⟩ := H
  replace H : ((feast_Count.f k t193 t194 t195 t196 t197 t198 t199 t200 t204 (wrap64 (t204 + t205))).bind fun bt209 => ((feast_Count.f k t193 t194 t195 t196 t197 t198 t199 t200 (wrap64 (t204 + t205)) (wrap64 ((wrap64 (t204 + t205)) + t206))).bind fun bt211 => ((feast_Count.f k t193 t194 t195 t196 t197 t198 t199 t200 t204 (wrap64 ((wrap64 (t204 + t205)) + t206))).bind fun bt213 => ((mootkeep1_feasts.f k).bind fun t215 => (if t215 = true then (if t208 = 0 then (if bt209.2 = 0 then (if bt211.2 = 0 then (if bt213.2 = 0 then (mootkeep1_FeastNext.j0 k t204 t207 ((wrap64 (bt209.1 + bt211.1)) != bt213.1) t193 t194 t195 t196 t197 t198 t199 t200) else (mootkeep1_FeastNext.j0 k t204 t207 true t193 t194 t195 t196 t197 t198 t199 t200)) else (mootkeep1_FeastNext.j0 k t204 t207 true t193 t194 t195 t196 t197 t198 t199 t200)) else (mootkeep1_FeastNext.j0 k t204 t207 true t193 t194 t195 t196 t197 t198 t199 t200)) else (mootkeep1_FeastNext.j0 k t204 t207 true t193 t194 t195 t196 t197 t198 t199 t200)) else (mootkeep1_FeastNext.j0 k t204 t207 true t193 t194 t195 t196 t197 t198 t199 t200)))))) = some r := H
  have A9 := Aside0.mk A90
  clear A90
  replace H := Option.bind_eq_some_iff.mp H
  obtain ⟨⟨t209, t210⟩, A100, H⟩ := H
  replace H : ((feast_Count.f k t193 t194 t195 t196 t197 t198 t199 t200 (wrap64 (t204 + t205)) (wrap64 ((wrap64 (t204 + t205)) + t206))).bind fun bt211 => ((feast_Count.f k t193 t194 t195 t196 t197 t198 t199 t200 t204 (wrap64 ((wrap64 (t204 + t205)) + t206))).bind fun bt213 => ((mootkeep1_feasts.f k).bind fun t215 => (if t215 = true then (if t208 = 0 then (if t210 = 0 then (if bt211.2 = 0 then (if bt213.2 = 0 then (mootkeep1_FeastNext.j0 k t204 t207 ((wrap64 (t209 + bt211.1)) != bt213.1) t193 t194 t195 t196 t197 t198 t199 t200) else (mootkeep1_FeastNext.j0 k t204 t207 true t193 t194 t195 t196 t197 t198 t199 t200)) else (mootkeep1_FeastNext.j0 k t204 t207 true t193 t194 t195 t196 t197 t198 t199 t200)) else (mootkeep1_FeastNext.j0 k t204 t207 true t193 t194 t195 t196 t197 t198 t199 t200)) else (mootkeep1_FeastNext.j0 k t204 t207 true t193 t194 t195 t196 t197 t198 t199 t200)) else (mootkeep1_FeastNext.j0 k t204 t207 true t193 t194 t195 t196 t197 t198 t199 t200))))) = some r := H
  have A10 := Aside0.mk A100
  clear A100
  replace H := Option.bind_eq_some_iff.mp H
  obtain ⟨⟨t211, t212⟩, A110, H⟩ := H
  replace H : ((feast_Count.f k t193 t194 t195 t196 t197 t198 t199 t200 t204 (wrap64 ((wrap64 (t204 + t205)) + t206))).bind fun bt213 => ((mootkeep1_feasts.f k).bind fun t215 => (if t215 = true then (if t208 = 0 then (if t210 = 0 then (if t212 = 0 then (if bt213.2 = 0 then (mootkeep1_FeastNext.j0 k t204 t207 ((wrap64 (t209 + t211)) != bt213.1) t193 t194 t195 t196 t197 t198 t199 t200) else (mootkeep1_FeastNext.j0 k t204 t207 true t193 t194 t195 t196 t197 t198 t199 t200)) else (mootkeep1_FeastNext.j0 k t204 t207 true t193 t194 t195 t196 t197 t198 t199 t200)) else (mootkeep1_FeastNext.j0 k t204 t207 true t193 t194 t195 t196 t197 t198 t199 t200)) else (mootkeep1_FeastNext.j0 k t204 t207 true t193 t194 t195 t196 t197 t198 t199 t200)) else (mootkeep1_FeastNext.j0 k t204 t207 true t193 t194 t195 t196 t197 t198 t199 t200)))) = some r := H
  have A11 := Aside0.mk A110
  clear A110
  replace H := Option.bind_eq_some_iff.mp H
  obtain ⟨⟨t213, t214⟩, A120, H⟩ := H
  replace H : ((mootkeep1_feasts.f k).bind fun t215 => (if t215 = true then (if t208 = 0 then (if t210 = 0 then (if t212 = 0 then (if t214 = 0 then (mootkeep1_FeastNext.j0 k t204 t207 ((wrap64 (t209 + t211)) != t213) t193 t194 t195 t196 t197 t198 t199 t200) else (mootkeep1_FeastNext.j0 k t204 t207 true t193 t194 t195 t196 t197 t198 t199 t200)) else (mootkeep1_FeastNext.j0 k t204 t207 true t193 t194 t195 t196 t197 t198 t199 t200)) else (mootkeep1_FeastNext.j0 k t204 t207 true t193 t194 t195 t196 t197 t198 t199 t200)) else (mootkeep1_FeastNext.j0 k t204 t207 true t193 t194 t195 t196 t197 t198 t199 t200)) else (mootkeep1_FeastNext.j0 k t204 t207 true t193 t194 t195 t196 t197 t198 t199 t200))) = some r := H
  have A12 := Aside0.mk A120
  clear A120
  have HC13 := Aside0.mk H
  clear H
  go_enter Try.func5, Try.ntmps5
  go_upto_region 7 with (first | ((with_reducible refine gate_callee (f := 30) rfl ?_); refine goesL_ (some 20) rfl rfl Try.func30 (by kernel_rfl) rfl #[.slice A0 l0.length c0] rfl (by (try simp only [List.map_toArray, List.map_cons, List.map_nil]); first | done | rfl | (simp only [List.length_drop, List.length_take]; rfl)) ?_; (with_reducible refine (mootkeep1_cal.calls k _ _ l0 t193 t194 t195 t196 t197 t198 t199 t200 _ ?side1 ?side2 A5.out).mono ?_); (case side1 => repeat (first | exact HR0.out | (with_reducible refine Kd.C_alloc ?_ _) | (with_reducible refine Kd.C_drewN ?_ _) | (with_reducible refine Kd.C_drew ?_))); (case side2 => exact HC0.out); rintro e w14 ⟨v201, rfl, ho0, hb⟩; refine ⟨_, rfl, ?_⟩; have n0_ := Aside0.mk (Kd.R_lower ho0 (below_size (by repeat (first | (with_reducible first | exact HB.out | apply below_alloc | apply pw_below_drewN | apply below_drew1) | exact HB.out)))); have n1_ := Aside0.mk (below_step (by repeat (first | (with_reducible first | exact HB.out | apply below_alloc | apply pw_below_drewN | apply below_drew1) | exact HB.out)) hb); clear HB; have HO202 := n0_; have HB := n1_; clear n0_ n1_; (try clear hb); (try clear hb2); (try clear hk); (try clear hi); (try clear ho0)) | ((with_reducible refine gate_dst (N := 9) rfl ?_); refine box_event ?hg (N := 9) ?hd (cs := #[.bool false, .bool false, .bool false, .bool false, .bool false, .bool false, .bool false, .slice none 0 0]) (t := 56) ?hr ?_; (case hd => rfl); (case hg => rfl); (case hr => first | (go_simp; done) | (go_simp; rfl)); intro gb203 hg w15 hbox hb; have n0_ := Aside0.mk (Kd.R_below (by (with_reducible repeat (first | apply Kd.R_alloc | apply Kd.R_drewN | apply Kd.R_drew)); exact HO202.out) hb); have n1_ := Aside0.mk (below_step (by repeat (first | (with_reducible first | exact HB.out | apply below_alloc | apply pw_below_drewN | apply below_drew1) | exact HB.out)) hb); have n2_ := Aside0.mk (hbox); have n3_ := Aside0.mk ((by rw [hg]; exact (below_size (by repeat (first | (with_reducible first | exact HB.out | apply below_alloc | apply pw_below_drewN | apply below_drew1) | exact HB.out))) : w.heap.size ≤ gb203)); have n4_ := Aside0.mk ((by rw [hg]; exact (below_size (by repeat (first | (with_reducible first | exact HB.out | apply below_alloc | apply pw_below_drewN | apply below_drew1) | exact HB.out))) : w.heap.size ≤ gb203)); clear HO202; clear HB; have HO202 := n0_; have HB := n1_; have BK203 := n2_; have GW203 := n3_; have GE203 := n4_; clear n0_ n1_ n2_ n3_ n4_; clear hb hbox hg; have hcz16_0 : w15.cell? ⟨gb203, 0, none⟩ = some (.bool false) := (blk_cell BK203.out 0).trans rfl; have hcz16_1 : w15.cell? ⟨gb203, 1, none⟩ = some (.bool false) := (blk_cell BK203.out 1).trans rfl; have hcz16_2 : w15.cell? ⟨gb203, 2, none⟩ = some (.bool false) := (blk_cell BK203.out 2).trans rfl; have hcz16_3 : w15.cell? ⟨gb203, 3, none⟩ = some (.bool false) := (blk_cell BK203.out 3).trans rfl; have hcz16_4 : w15.cell? ⟨gb203, 4, none⟩ = some (.bool false) := (blk_cell BK203.out 4).trans rfl; have hcz16_5 : w15.cell? ⟨gb203, 5, none⟩ = some (.bool false) := (blk_cell BK203.out 5).trans rfl; have hcz16_6 : w15.cell? ⟨gb203, 6, none⟩ = some (.bool false) := (blk_cell BK203.out 6).trans rfl; have hcz16_7 : w15.cell? ⟨gb203, 7, none⟩ = some (.slice none 0 0) := (blk_cell BK203.out 7).trans rfl; have hfz16_0 := blk_frozen BK203.out 0; have hfz16_1 := blk_frozen BK203.out 1; have hfz16_2 := blk_frozen BK203.out 2; have hfz16_3 := blk_frozen BK203.out 3; have hfz16_4 := blk_frozen BK203.out 4; have hfz16_5 := blk_frozen BK203.out 5; have hfz16_6 := blk_frozen BK203.out 6; have hfz16_7 := blk_frozen BK203.out 7; obtain ⟨Ao17, co17, eo17⟩ := Kd.R_slice HO202.out; subst eo17) | ((with_reducible refine gate_callee (f := 23) rfl ?_); refine goesL_ (some 22) rfl rfl Try.func23 (by kernel_rfl) rfl #[.int .i64 a1] rfl (by (try simp only [List.map_toArray, List.map_cons, List.map_nil]); first | done | rfl | (simp only [List.length_drop, List.length_take]; rfl)) ?_; (with_reducible refine (mootmake_Day.calls a1 t204 _ A6.out).mono ?_); rintro e w' ⟨rfl, ⟨nd, rfl⟩⟩; refine ⟨_, rfl, ?_⟩) | ((with_reducible refine gate_callee (f := 21) rfl ?_); refine goesL_ (some 24) rfl rfl Try.func21 (by kernel_rfl) rfl #[.int .i64 a2, .int .i64 500] rfl (by (try simp only [List.map_toArray, List.map_cons, List.map_nil]); first | done | rfl | (simp only [List.length_drop, List.length_take]; rfl)) ?_; (with_reducible refine (mootmake_Below.calls a2 500 t205 _ A7.out).mono ?_); rintro e w' ⟨rfl, ⟨nd, rfl⟩⟩; refine ⟨_, rfl, ?_⟩) | ((with_reducible refine gate_callee (f := 21) rfl ?_); refine goesL_ (some 26) rfl rfl Try.func21 (by kernel_rfl) rfl #[.int .i64 a3, .int .i64 500] rfl (by (try simp only [List.map_toArray, List.map_cons, List.map_nil]); first | done | rfl | (simp only [List.length_drop, List.length_take]; rfl)) ?_; (with_reducible refine (mootmake_Below.calls a3 500 t206 _ A8.out).mono ?_); rintro e w' ⟨rfl, ⟨nd, rfl⟩⟩; refine ⟨_, rfl, ?_⟩) | ((with_reducible refine gate_callee (f := 31) rfl ?_); refine goesL_ (some 30) rfl rfl Try.func31 (by kernel_rfl) rfl #[.agg #[.bool t193, .bool t194, .bool t195, .bool t196, .bool t197, .bool t198, .bool t199, .slice Ao17 t200.length co17], .int .i64 t204] rfl (by (try simp only [List.map_toArray, List.map_cons, List.map_nil]); first | done | rfl | (simp only [List.length_drop, List.length_take]; rfl)) ?_; (with_reducible refine (feast_Next.calls k t193 t194 t195 t196 t197 t198 t199 _ _ t200 t204 t207 t208 _ ?side1 ?side2 A9.out).mono ?_); (case side1 => refine (Kd.R_reads' (e := 80) (base := w.heap.size) (ok := fun k_ => True) (n := t200.length) (c := co17) ?_).2.2; exact (by (with_reducible repeat (first | apply Kd.R_alloc | apply Kd.R_drewN | apply Kd.R_drew)); exact (Kd.R_mono (Kd.R_far (p := ⟨gb203, 7, none⟩) (Kd.R_far (p := ⟨gb203, 6, none⟩) (Kd.R_far (p := ⟨gb203, 5, none⟩) (Kd.R_far (p := ⟨gb203, 4, none⟩) (Kd.R_far (p := ⟨gb203, 3, none⟩) (Kd.R_far (p := ⟨gb203, 2, none⟩) (Kd.R_far (p := ⟨gb203, 1, none⟩) (Kd.R_far (p := ⟨gb203, 0, none⟩) (Kd.R_types HO202.out BK203.out (by decide)) (fun _ hk => hk.2) (.bool t193)) (fun _ hk => hk.2) (.bool t194)) (fun _ hk => hk.2) (.bool t195)) (fun _ hk => hk.2) (.bool t196)) (fun _ hk => hk.2) (.bool t197)) (fun _ hk => hk.2) (.bool t198)) (fun _ hk => hk.2) (.bool t199)) (fun _ hk => hk.2) (.slice Ao17 t200.length co17)) (fun _ h_ => h_.1)))); (case side2 => exact (Kd.R_reads' HO202.out).2.1); rintro e w18 ⟨rfl, hb⟩; refine ⟨_, rfl, ?_⟩; have n0_ := Aside0.mk (Kd.R_below (by (with_reducible repeat (first | apply Kd.R_alloc | apply Kd.R_drewN | apply Kd.R_drew)); exact (Kd.R_mono (Kd.R_far (p := ⟨gb203, 7, none⟩) (Kd.R_far (p := ⟨gb203, 6, none⟩) (Kd.R_far (p := ⟨gb203, 5, none⟩) (Kd.R_far (p := ⟨gb203, 4, none⟩) (Kd.R_far (p := ⟨gb203, 3, none⟩) (Kd.R_far (p := ⟨gb203, 2, none⟩) (Kd.R_far (p := ⟨gb203, 1, none⟩) (Kd.R_far (p := ⟨gb203, 0, none⟩) (Kd.R_types HO202.out BK203.out (by decide)) (fun _ hk => hk.2) (.bool t193)) (fun _ hk => hk.2) (.bool t194)) (fun _ hk => hk.2) (.bool t195)) (fun _ hk => hk.2) (.bool t196)) (fun _ hk => hk.2) (.bool t197)) (fun _ hk => hk.2) (.bool t198)) (fun _ hk => hk.2) (.bool t199)) (fun _ hk => hk.2) (.slice Ao17 t200.length co17)) (fun _ h_ => h_.1))) hb); have n1_ := Aside0.mk (blk_below (g := gb203) (o := .cells #[.bool t193, .bool t194, .bool t195, .bool t196, .bool t197, .bool t198, .bool t199, .slice Ao17 t200.length co17] 56 (0, 0)) (by (with_reducible repeat (first | refine blk_drewN ?_ _ | refine blk_drew ?_ | refine blk_alloc ?_ _)); refine blk_put (cs := #[.bool t193, .bool t194, .bool t195, .bool t196, .bool t197, .bool t198, .bool t199, .slice none 0 0]) ?_ 7 _ rfl; (with_reducible repeat (first | refine blk_drewN ?_ _ | refine blk_drew ?_ | refine blk_alloc ?_ _)); refine blk_put (cs := #[.bool t193, .bool t194, .bool t195, .bool t196, .bool t197, .bool t198, .bool false, .slice none 0 0]) ?_ 6 _ rfl; (with_reducible repeat (first | refine blk_drewN ?_ _ | refine blk_drew ?_ | refine blk_alloc ?_ _)); refine blk_put (cs := #[.bool t193, .bool t194, .bool t195, .bool t196, .bool t197, .bool false, .bool false, .slice none 0 0]) ?_ 5 _ rfl; (with_reducible repeat (first | refine blk_drewN ?_ _ | refine blk_drew ?_ | refine blk_alloc ?_ _)); refine blk_put (cs := #[.bool t193, .bool t194, .bool t195, .bool t196, .bool false, .bool false, .bool false, .slice none 0 0]) ?_ 4 _ rfl; (with_reducible repeat (first | refine blk_drewN ?_ _ | refine blk_drew ?_ | refine blk_alloc ?_ _)); refine blk_put (cs := #[.bool t193, .bool t194, .bool t195, .bool false, .bool false, .bool false, .bool false, .slice none 0 0]) ?_ 3 _ rfl; (with_reducible repeat (first | refine blk_drewN ?_ _ | refine blk_drew ?_ | refine blk_alloc ?_ _)); refine blk_put (cs := #[.bool t193, .bool t194, .bool false, .bool false, .bool false, .bool false, .bool false, .slice none 0 0]) ?_ 2 _ rfl; (with_reducible repeat (first | refine blk_drewN ?_ _ | refine blk_drew ?_ | refine blk_alloc ?_ _)); refine blk_put (cs := #[.bool t193, .bool false, .bool false, .bool false, .bool false, .bool false, .bool false, .slice none 0 0]) ?_ 1 _ rfl; (with_reducible repeat (first | refine blk_drewN ?_ _ | refine blk_drew ?_ | refine blk_alloc ?_ _)); refine blk_put (cs := #[.bool false, .bool false, .bool false, .bool false, .bool false, .bool false, .bool false, .slice none 0 0]) ?_ 0 _ rfl; (with_reducible repeat (first | refine blk_drewN ?_ _ | refine blk_drew ?_ | refine blk_alloc ?_ _)); exact BK203.out) hb); have n2_ := Aside0.mk (below_step (by repeat (first | (with_reducible first | exact HB.out | apply below_alloc | apply pw_below_drewN | apply below_drew1 | refine below_set ?_ GE203.out) | exact HB.out)) hb); clear HO202; clear BK203; clear HB; have HO202 := n0_; have BK203 := n1_; have HB := n2_; clear n0_ n1_ n2_; (try clear hb); (try clear hb2); (try clear hk); (try clear hi); have hcz19_0 : w18.cell? ⟨gb203, 0, none⟩ = some (.bool t193) := (blk_cell BK203.out 0).trans rfl; have hcz19_1 : w18.cell? ⟨gb203, 1, none⟩ = some (.bool t194) := (blk_cell BK203.out 1).trans rfl; have hcz19_2 : w18.cell? ⟨gb203, 2, none⟩ = some (.bool t195) := (blk_cell BK203.out 2).trans rfl; have hcz19_3 : w18.cell? ⟨gb203, 3, none⟩ = some (.bool t196) := (blk_cell BK203.out 3).trans rfl; have hcz19_4 : w18.cell? ⟨gb203, 4, none⟩ = some (.bool t197) := (blk_cell BK203.out 4).trans rfl; have hcz19_5 : w18.cell? ⟨gb203, 5, none⟩ = some (.bool t198) := (blk_cell BK203.out 5).trans rfl; have hcz19_6 : w18.cell? ⟨gb203, 6, none⟩ = some (.bool t199) := (blk_cell BK203.out 6).trans rfl; have hcz19_7 : w18.cell? ⟨gb203, 7, none⟩ = some (.slice Ao17 t200.length co17) := (blk_cell BK203.out 7).trans rfl; have hfz19_0 := blk_frozen BK203.out 0; have hfz19_1 := blk_frozen BK203.out 1; have hfz19_2 := blk_frozen BK203.out 2; have hfz19_3 := blk_frozen BK203.out 3; have hfz19_4 := blk_frozen BK203.out 4; have hfz19_5 := blk_frozen BK203.out 5; have hfz19_6 := blk_frozen BK203.out 6; have hfz19_7 := blk_frozen BK203.out 7) | ((with_reducible refine gate_callee (f := 32) rfl ?_); refine goesL_ (some 39) rfl rfl Try.func32 (by kernel_rfl) rfl #[.agg #[.bool t193, .bool t194, .bool t195, .bool t196, .bool t197, .bool t198, .bool t199, .slice Ao17 t200.length co17], .int .i64 t204, .int .i64 (wrap64 (t204 + t205))] rfl (by (try simp only [List.map_toArray, List.map_cons, List.map_nil]); first | done | rfl | (simp only [List.length_drop, List.length_take]; rfl)) ?_; (with_reducible refine (feast_Count.calls k t193 t194 t195 t196 t197 t198 t199 _ _ t200 t204 (wrap64 (t204 + t205)) t209 t210 _ ?side1 ?side2 A10.out).mono ?_); (case side1 => repeat (first | exact (Kd.R_reads' HO202.out).2.2 | (with_reducible refine Kd.C_alloc ?_ _) | (with_reducible refine Kd.C_drewN ?_ _) | (with_reducible refine Kd.C_drew ?_))); (case side2 => exact (Kd.R_reads' HO202.out).2.1); rintro e w20 ⟨rfl, hb⟩; refine ⟨_, rfl, ?_⟩; have n0_ := Aside0.mk (Kd.R_below (by (with_reducible repeat (first | apply Kd.R_alloc | apply Kd.R_drewN | apply Kd.R_drew)); exact HO202.out) hb); have n1_ := Aside0.mk (blk_below (g := gb203) (o := .cells #[.bool t193, .bool t194, .bool t195, .bool t196, .bool t197, .bool t198, .bool t199, .slice Ao17 t200.length co17] 56 (0, 0)) (by (with_reducible repeat (first | refine blk_drewN ?_ _ | refine blk_drew ?_ | refine blk_alloc ?_ _)); exact BK203.out) hb); have n2_ := Aside0.mk (below_step (by repeat (first | (with_reducible first | exact HB.out | apply below_alloc | apply pw_below_drewN | apply below_drew1 | refine below_set ?_ GE203.out) | exact HB.out)) hb); clear HO202; clear BK203; clear HB; have HO202 := n0_; have BK203 := n1_; have HB := n2_; clear n0_ n1_ n2_; (try clear hb); (try clear hb2); (try clear hk); (try clear hi); have hcz21_0 : w20.cell? ⟨gb203, 0, none⟩ = some (.bool t193) := (blk_cell BK203.out 0).trans rfl; have hcz21_1 : w20.cell? ⟨gb203, 1, none⟩ = some (.bool t194) := (blk_cell BK203.out 1).trans rfl; have hcz21_2 : w20.cell? ⟨gb203, 2, none⟩ = some (.bool t195) := (blk_cell BK203.out 2).trans rfl; have hcz21_3 : w20.cell? ⟨gb203, 3, none⟩ = some (.bool t196) := (blk_cell BK203.out 3).trans rfl; have hcz21_4 : w20.cell? ⟨gb203, 4, none⟩ = some (.bool t197) := (blk_cell BK203.out 4).trans rfl; have hcz21_5 : w20.cell? ⟨gb203, 5, none⟩ = some (.bool t198) := (blk_cell BK203.out 5).trans rfl; have hcz21_6 : w20.cell? ⟨gb203, 6, none⟩ = some (.bool t199) := (blk_cell BK203.out 6).trans rfl; have hcz21_7 : w20.cell? ⟨gb203, 7, none⟩ = some (.slice Ao17 t200.length co17) := (blk_cell BK203.out 7).trans rfl; have hfz21_0 := blk_frozen BK203.out 0; have hfz21_1 := blk_frozen BK203.out 1; have hfz21_2 := blk_frozen BK203.out 2; have hfz21_3 := blk_frozen BK203.out 3; have hfz21_4 := blk_frozen BK203.out 4; have hfz21_5 := blk_frozen BK203.out 5; have hfz21_6 := blk_frozen BK203.out 6; have hfz21_7 := blk_frozen BK203.out 7) | ((with_reducible refine gate_callee (f := 32) rfl ?_); refine goesL_ (some 52) rfl rfl Try.func32 (by kernel_rfl) rfl #[.agg #[.bool t193, .bool t194, .bool t195, .bool t196, .bool t197, .bool t198, .bool t199, .slice Ao17 t200.length co17], .int .i64 (wrap64 (t204 + t205)), .int .i64 (wrap64 ((wrap64 (t204 + t205)) + t206))] rfl (by (try simp only [List.map_toArray, List.map_cons, List.map_nil]); first | done | rfl | (simp only [List.length_drop, List.length_take]; rfl)) ?_; (with_reducible refine (feast_Count.calls k t193 t194 t195 t196 t197 t198 t199 _ _ t200 (wrap64 (t204 + t205)) (wrap64 ((wrap64 (t204 + t205)) + t206)) t211 t212 _ ?side1 ?side2 A11.out).mono ?_); (case side1 => repeat (first | exact (Kd.R_reads' HO202.out).2.2 | (with_reducible refine Kd.C_alloc ?_ _) | (with_reducible refine Kd.C_drewN ?_ _) | (with_reducible refine Kd.C_drew ?_))); (case side2 => exact (Kd.R_reads' HO202.out).2.1); rintro e w22 ⟨rfl, hb⟩; refine ⟨_, rfl, ?_⟩; have n0_ := Aside0.mk (Kd.R_below (by (with_reducible repeat (first | apply Kd.R_alloc | apply Kd.R_drewN | apply Kd.R_drew)); exact HO202.out) hb); have n1_ := Aside0.mk (blk_below (g := gb203) (o := .cells #[.bool t193, .bool t194, .bool t195, .bool t196, .bool t197, .bool t198, .bool t199, .slice Ao17 t200.length co17] 56 (0, 0)) (by (with_reducible repeat (first | refine blk_drewN ?_ _ | refine blk_drew ?_ | refine blk_alloc ?_ _)); exact BK203.out) hb); have n2_ := Aside0.mk (below_step (by repeat (first | (with_reducible first | exact HB.out | apply below_alloc | apply pw_below_drewN | apply below_drew1 | refine below_set ?_ GE203.out) | exact HB.out)) hb); clear HO202; clear BK203; clear HB; have HO202 := n0_; have BK203 := n1_; have HB := n2_; clear n0_ n1_ n2_; (try clear hb); (try clear hb2); (try clear hk); (try clear hi); have hcz23_0 : w22.cell? ⟨gb203, 0, none⟩ = some (.bool t193) := (blk_cell BK203.out 0).trans rfl; have hcz23_1 : w22.cell? ⟨gb203, 1, none⟩ = some (.bool t194) := (blk_cell BK203.out 1).trans rfl; have hcz23_2 : w22.cell? ⟨gb203, 2, none⟩ = some (.bool t195) := (blk_cell BK203.out 2).trans rfl; have hcz23_3 : w22.cell? ⟨gb203, 3, none⟩ = some (.bool t196) := (blk_cell BK203.out 3).trans rfl; have hcz23_4 : w22.cell? ⟨gb203, 4, none⟩ = some (.bool t197) := (blk_cell BK203.out 4).trans rfl; have hcz23_5 : w22.cell? ⟨gb203, 5, none⟩ = some (.bool t198) := (blk_cell BK203.out 5).trans rfl; have hcz23_6 : w22.cell? ⟨gb203, 6, none⟩ = some (.bool t199) := (blk_cell BK203.out 6).trans rfl; have hcz23_7 : w22.cell? ⟨gb203, 7, none⟩ = some (.slice Ao17 t200.length co17) := (blk_cell BK203.out 7).trans rfl; have hfz23_0 := blk_frozen BK203.out 0; have hfz23_1 := blk_frozen BK203.out 1; have hfz23_2 := blk_frozen BK203.out 2; have hfz23_3 := blk_frozen BK203.out 3; have hfz23_4 := blk_frozen BK203.out 4; have hfz23_5 := blk_frozen BK203.out 5; have hfz23_6 := blk_frozen BK203.out 6; have hfz23_7 := blk_frozen BK203.out 7) | ((with_reducible refine gate_callee (f := 32) rfl ?_); refine goesL_ (some 63) rfl rfl Try.func32 (by kernel_rfl) rfl #[.agg #[.bool t193, .bool t194, .bool t195, .bool t196, .bool t197, .bool t198, .bool t199, .slice Ao17 t200.length co17], .int .i64 t204, .int .i64 (wrap64 ((wrap64 (t204 + t205)) + t206))] rfl (by (try simp only [List.map_toArray, List.map_cons, List.map_nil]); first | done | rfl | (simp only [List.length_drop, List.length_take]; rfl)) ?_; (with_reducible refine (feast_Count.calls k t193 t194 t195 t196 t197 t198 t199 _ _ t200 t204 (wrap64 ((wrap64 (t204 + t205)) + t206)) t213 t214 _ ?side1 ?side2 A12.out).mono ?_); (case side1 => repeat (first | exact (Kd.R_reads' HO202.out).2.2 | (with_reducible refine Kd.C_alloc ?_ _) | (with_reducible refine Kd.C_drewN ?_ _) | (with_reducible refine Kd.C_drew ?_))); (case side2 => exact (Kd.R_reads' HO202.out).2.1); rintro e w24 ⟨rfl, hb⟩; refine ⟨_, rfl, ?_⟩; have n0_ := Aside0.mk (Kd.R_below (by (with_reducible repeat (first | apply Kd.R_alloc | apply Kd.R_drewN | apply Kd.R_drew)); exact HO202.out) hb); have n1_ := Aside0.mk (blk_below (g := gb203) (o := .cells #[.bool t193, .bool t194, .bool t195, .bool t196, .bool t197, .bool t198, .bool t199, .slice Ao17 t200.length co17] 56 (0, 0)) (by (with_reducible repeat (first | refine blk_drewN ?_ _ | refine blk_drew ?_ | refine blk_alloc ?_ _)); exact BK203.out) hb); have n2_ := Aside0.mk (below_step (by repeat (first | (with_reducible first | exact HB.out | apply below_alloc | apply pw_below_drewN | apply below_drew1 | refine below_set ?_ GE203.out) | exact HB.out)) hb); clear HO202; clear BK203; clear HB; have HO202 := n0_; have BK203 := n1_; have HB := n2_; clear n0_ n1_ n2_; (try clear hb); (try clear hb2); (try clear hk); (try clear hi)))
  (try simp only [Act.put, List.setIfInBounds_toArray, List.set_cons_zero, List.set_cons_succ])
  go_cut [90] (fun v90 wc => ∃ (kq : Nat) (x90_12 : Bool), v90 = .bool x90_12 ∧ Aside0 (mootkeep1_FeastNext.j0 kq t204 t207 x90_12 t193 t194 t195 t196 t197 t198 t199 t200 = some r) ∧ Aside0 (kq ≤ k) ∧ Aside0 (Kd.R k80 80 wc w.heap.size (fun _ => True) (.slice Ao17 t200.length co17) t200) ∧ Aside0 (wc.heap[gb203]? = some (.cells #[.bool t193, .bool t194, .bool t195, .bool t196, .bool t197, .bool t198, .bool t199, (.slice Ao17 t200.length co17)] 56 (0, 0))) ∧ Aside0 (Below w.heap.size w wc))
  case first =>
    have H := HC13.out
    clear HC13
    replace H := Option.bind_eq_some_iff.mp H
    obtain ⟨t215, A250, H⟩ := H
    replace H : (if t215 = true then (if t208 = 0 then (if t210 = 0 then (if t212 = 0 then (if t214 = 0 then (mootkeep1_FeastNext.j0 k t204 t207 ((wrap64 (t209 + t211)) != t213) t193 t194 t195 t196 t197 t198 t199 t200) else (mootkeep1_FeastNext.j0 k t204 t207 true t193 t194 t195 t196 t197 t198 t199 t200)) else (mootkeep1_FeastNext.j0 k t204 t207 true t193 t194 t195 t196 t197 t198 t199 t200)) else (mootkeep1_FeastNext.j0 k t204 t207 true t193 t194 t195 t196 t197 t198 t199 t200)) else (mootkeep1_FeastNext.j0 k t204 t207 true t193 t194 t195 t196 t197 t198 t199 t200)) else (mootkeep1_FeastNext.j0 k t204 t207 true t193 t194 t195 t196 t197 t198 t199 t200)) = some r := H
    have A25 := Aside0.mk A250
    clear A250
    by_cases c26 : t215 = true
    · subst c26
      have H1 : (if t208 = 0 then (if t210 = 0 then (if t212 = 0 then (if t214 = 0 then (mootkeep1_FeastNext.j0 k t204 t207 ((wrap64 (t209 + t211)) != t213) t193 t194 t195 t196 t197 t198 t199 t200) else (mootkeep1_FeastNext.j0 k t204 t207 true t193 t194 t195 t196 t197 t198 t199 t200)) else (mootkeep1_FeastNext.j0 k t204 t207 true t193 t194 t195 t196 t197 t198 t199 t200)) else (mootkeep1_FeastNext.j0 k t204 t207 true t193 t194 t195 t196 t197 t198 t199 t200)) else (mootkeep1_FeastNext.j0 k t204 t207 true t193 t194 t195 t196 t197 t198 t199 t200)) = some r := by rw [if_pos rfl] at H; exact H
      clear H
      have H := H1
      clear H1
      by_cases c27 : t208 = 0
      · rw [if_pos c27] at H
        have c27b0 : (t208 == 0) = true := beq_iff_eq.mpr c27
        have c27b1 : (t208 != 0) = false := bne_eq_false_iff_eq.mpr c27
        clear c27
        (first | rw [c27b0] | (simp only [i64_w, i32_w]; rw [c27b0]) | skip)
        by_cases c28 : t210 = 0
        · rw [if_pos c28] at H
          have c28b0 : (t210 == 0) = true := beq_iff_eq.mpr c28
          have c28b1 : (t210 != 0) = false := bne_eq_false_iff_eq.mpr c28
          clear c28
          by_cases c29 : t212 = 0
          · rw [if_pos c29] at H
            have c29b0 : (t212 == 0) = true := beq_iff_eq.mpr c29
            have c29b1 : (t212 != 0) = false := bne_eq_false_iff_eq.mpr c29
            clear c29
            by_cases c30 : t214 = 0
            · rw [if_pos c30] at H
              have c30b0 : (t214 == 0) = true := beq_iff_eq.mpr c30
              have c30b1 : (t214 != 0) = false := bne_eq_false_iff_eq.mpr c30
              clear c30
              have H' := Aside0.mk H
              clear H
              go_wp2_with (first | ((with_reducible refine gate_callee (f := 33) rfl ?_); refine goesL_ (some 66) rfl rfl Try.func33 (by kernel_rfl) rfl #[] rfl (by (try simp only [List.map_toArray, List.map_cons, List.map_nil]); first | done | rfl | (simp only [List.length_drop, List.length_take]; rfl)) ?_; (with_reducible refine (mootkeep1_feasts.calls k  true _ A25.out).mono ?_); rintro e w31 ⟨rfl, hb⟩; refine ⟨_, rfl, ?_⟩; have n0_ := Aside0.mk (Kd.R_below (by (with_reducible repeat (first | apply Kd.R_alloc | apply Kd.R_drewN | apply Kd.R_drew)); exact HO202.out) hb); have n1_ := Aside0.mk (blk_below (g := gb203) (o := .cells #[.bool t193, .bool t194, .bool t195, .bool t196, .bool t197, .bool t198, .bool t199, .slice Ao17 t200.length co17] 56 (0, 0)) (by (with_reducible repeat (first | refine blk_drewN ?_ _ | refine blk_drew ?_ | refine blk_alloc ?_ _)); exact BK203.out) hb); have n2_ := Aside0.mk (below_step (by repeat (first | (with_reducible first | exact HB.out | apply below_alloc | apply pw_below_drewN | apply below_drew1 | refine below_set ?_ GE203.out) | exact HB.out)) hb); clear HO202; clear BK203; clear HB; have HO202 := n0_; have BK203 := n1_; have HB := n2_; clear n0_ n1_ n2_; (try clear hb); (try clear hb2); (try clear hk); (try clear hi)))
              go_meet
              case rel => exact ⟨_, (((wrap64 (t209 + t211)) != t213)), (by first | rfl | (simp; done) | (simp [*]; done)), H', ⟨by first | omega | exact Nat.le_refl _⟩, ⟨by (with_reducible repeat (first | apply Kd.R_alloc | apply Kd.R_drewN | apply Kd.R_drew)); exact HO202.out⟩, ⟨by (with_reducible repeat (first | refine blk_drewN ?_ _ | refine blk_drew ?_ | refine blk_alloc ?_ _)); exact BK203.out⟩, ⟨by repeat (first | (with_reducible first | exact HB.out | apply below_alloc | apply pw_below_drewN | apply below_drew1 | refine below_set ?_ GE203.out) | exact HB.out)⟩⟩
            · rw [if_neg c30] at H
              have c30b0 : (t214 == 0) = false := beq_eq_false_iff_ne.mpr c30
              have c30b1 : (t214 != 0) = true := bne_iff_ne.mpr c30
              have H' := Aside0.mk H
              clear H
              go_wp2_with (first | ((with_reducible refine gate_callee (f := 33) rfl ?_); refine goesL_ (some 66) rfl rfl Try.func33 (by kernel_rfl) rfl #[] rfl (by (try simp only [List.map_toArray, List.map_cons, List.map_nil]); first | done | rfl | (simp only [List.length_drop, List.length_take]; rfl)) ?_; (with_reducible refine (mootkeep1_feasts.calls k  true _ A25.out).mono ?_); rintro e w32 ⟨rfl, hb⟩; refine ⟨_, rfl, ?_⟩; have n0_ := Aside0.mk (Kd.R_below (by (with_reducible repeat (first | apply Kd.R_alloc | apply Kd.R_drewN | apply Kd.R_drew)); exact HO202.out) hb); have n1_ := Aside0.mk (blk_below (g := gb203) (o := .cells #[.bool t193, .bool t194, .bool t195, .bool t196, .bool t197, .bool t198, .bool t199, .slice Ao17 t200.length co17] 56 (0, 0)) (by (with_reducible repeat (first | refine blk_drewN ?_ _ | refine blk_drew ?_ | refine blk_alloc ?_ _)); exact BK203.out) hb); have n2_ := Aside0.mk (below_step (by repeat (first | (with_reducible first | exact HB.out | apply below_alloc | apply pw_below_drewN | apply below_drew1 | refine below_set ?_ GE203.out) | exact HB.out)) hb); clear HO202; clear BK203; clear HB; have HO202 := n0_; have BK203 := n1_; have HB := n2_; clear n0_ n1_ n2_; (try clear hb); (try clear hb2); (try clear hk); (try clear hi)))
              go_meet
              case rel => exact ⟨_, (true), (by first | rfl | (simp; done) | (simp [*]; done)), H', ⟨by first | omega | exact Nat.le_refl _⟩, ⟨by (with_reducible repeat (first | apply Kd.R_alloc | apply Kd.R_drewN | apply Kd.R_drew)); exact HO202.out⟩, ⟨by (with_reducible repeat (first | refine blk_drewN ?_ _ | refine blk_drew ?_ | refine blk_alloc ?_ _)); exact BK203.out⟩, ⟨by repeat (first | (with_reducible first | exact HB.out | apply below_alloc | apply pw_below_drewN | apply below_drew1 | refine below_set ?_ GE203.out) | exact HB.out)⟩⟩
          · rw [if_neg c29] at H
            have c29b0 : (t212 == 0) = false := beq_eq_false_iff_ne.mpr c29
            have c29b1 : (t212 != 0) = true := bne_iff_ne.mpr c29
            have H' := Aside0.mk H
            clear H
            go_wp2_with (first | ((with_reducible refine gate_callee (f := 33) rfl ?_); refine goesL_ (some 66) rfl rfl Try.func33 (by kernel_rfl) rfl #[] rfl (by (try simp only [List.map_toArray, List.map_cons, List.map_nil]); first | done | rfl | (simp only [List.length_drop, List.length_take]; rfl)) ?_; (with_reducible refine (mootkeep1_feasts.calls k  true _ A25.out).mono ?_); rintro e w33 ⟨rfl, hb⟩; refine ⟨_, rfl, ?_⟩; have n0_ := Aside0.mk (Kd.R_below (by (with_reducible repeat (first | apply Kd.R_alloc | apply Kd.R_drewN | apply Kd.R_drew)); exact HO202.out) hb); have n1_ := Aside0.mk (blk_below (g := gb203) (o := .cells #[.bool t193, .bool t194, .bool t195, .bool t196, .bool t197, .bool t198, .bool t199, .slice Ao17 t200.length co17] 56 (0, 0)) (by (with_reducible repeat (first | refine blk_drewN ?_ _ | refine blk_drew ?_ | refine blk_alloc ?_ _)); exact BK203.out) hb); have n2_ := Aside0.mk (below_step (by repeat (first | (with_reducible first | exact HB.out | apply below_alloc | apply pw_below_drewN | apply below_drew1 | refine below_set ?_ GE203.out) | exact HB.out)) hb); clear HO202; clear BK203; clear HB; have HO202 := n0_; have BK203 := n1_; have HB := n2_; clear n0_ n1_ n2_; (try clear hb); (try clear hb2); (try clear hk); (try clear hi)))
            go_meet
            case rel => exact ⟨_, (true), (by first | rfl | (simp; done) | (simp [*]; done)), H', ⟨by first | omega | exact Nat.le_refl _⟩, ⟨by (with_reducible repeat (first | apply Kd.R_alloc | apply Kd.R_drewN | apply Kd.R_drew)); exact HO202.out⟩, ⟨by (with_reducible repeat (first | refine blk_drewN ?_ _ | refine blk_drew ?_ | refine blk_alloc ?_ _)); exact BK203.out⟩, ⟨by repeat (first | (with_reducible first | exact HB.out | apply below_alloc | apply pw_below_drewN | apply below_drew1 | refine below_set ?_ GE203.out) | exact HB.out)⟩⟩
        · rw [if_neg c28] at H
          have c28b0 : (t210 == 0) = false := beq_eq_false_iff_ne.mpr c28
          have c28b1 : (t210 != 0) = true := bne_iff_ne.mpr c28
          have H' := Aside0.mk H
          clear H
          go_wp2_with (first | ((with_reducible refine gate_callee (f := 33) rfl ?_); refine goesL_ (some 66) rfl rfl Try.func33 (by kernel_rfl) rfl #[] rfl (by (try simp only [List.map_toArray, List.map_cons, List.map_nil]); first | done | rfl | (simp only [List.length_drop, List.length_take]; rfl)) ?_; (with_reducible refine (mootkeep1_feasts.calls k  true _ A25.out).mono ?_); rintro e w34 ⟨rfl, hb⟩; refine ⟨_, rfl, ?_⟩; have n0_ := Aside0.mk (Kd.R_below (by (with_reducible repeat (first | apply Kd.R_alloc | apply Kd.R_drewN | apply Kd.R_drew)); exact HO202.out) hb); have n1_ := Aside0.mk (blk_below (g := gb203) (o := .cells #[.bool t193, .bool t194, .bool t195, .bool t196, .bool t197, .bool t198, .bool t199, .slice Ao17 t200.length co17] 56 (0, 0)) (by (with_reducible repeat (first | refine blk_drewN ?_ _ | refine blk_drew ?_ | refine blk_alloc ?_ _)); exact BK203.out) hb); have n2_ := Aside0.mk (below_step (by repeat (first | (with_reducible first | exact HB.out | apply below_alloc | apply pw_below_drewN | apply below_drew1 | refine below_set ?_ GE203.out) | exact HB.out)) hb); clear HO202; clear BK203; clear HB; have HO202 := n0_; have BK203 := n1_; have HB := n2_; clear n0_ n1_ n2_; (try clear hb); (try clear hb2); (try clear hk); (try clear hi)))
          go_meet
          case rel => exact ⟨_, (true), (by first | rfl | (simp; done) | (simp [*]; done)), H', ⟨by first | omega | exact Nat.le_refl _⟩, ⟨by (with_reducible repeat (first | apply Kd.R_alloc | apply Kd.R_drewN | apply Kd.R_drew)); exact HO202.out⟩, ⟨by (with_reducible repeat (first | refine blk_drewN ?_ _ | refine blk_drew ?_ | refine blk_alloc ?_ _)); exact BK203.out⟩, ⟨by repeat (first | (with_reducible first | exact HB.out | apply below_alloc | apply pw_below_drewN | apply below_drew1 | refine below_set ?_ GE203.out) | exact HB.out)⟩⟩
      · rw [if_neg c27] at H
        have c27b0 : (t208 == 0) = false := beq_eq_false_iff_ne.mpr c27
        have c27b1 : (t208 != 0) = true := bne_iff_ne.mpr c27
        (first | rw [c27b0] | (simp only [i64_w, i32_w]; rw [c27b0]) | skip)
        have H' := Aside0.mk H
        clear H
        go_wp2_with (first | ((with_reducible refine gate_callee (f := 33) rfl ?_); refine goesL_ (some 66) rfl rfl Try.func33 (by kernel_rfl) rfl #[] rfl (by (try simp only [List.map_toArray, List.map_cons, List.map_nil]); first | done | rfl | (simp only [List.length_drop, List.length_take]; rfl)) ?_; (with_reducible refine (mootkeep1_feasts.calls k  true _ A25.out).mono ?_); rintro e w35 ⟨rfl, hb⟩; refine ⟨_, rfl, ?_⟩; have n0_ := Aside0.mk (Kd.R_below (by (with_reducible repeat (first | apply Kd.R_alloc | apply Kd.R_drewN | apply Kd.R_drew)); exact HO202.out) hb); have n1_ := Aside0.mk (blk_below (g := gb203) (o := .cells #[.bool t193, .bool t194, .bool t195, .bool t196, .bool t197, .bool t198, .bool t199, .slice Ao17 t200.length co17] 56 (0, 0)) (by (with_reducible repeat (first | refine blk_drewN ?_ _ | refine blk_drew ?_ | refine blk_alloc ?_ _)); exact BK203.out) hb); have n2_ := Aside0.mk (below_step (by repeat (first | (with_reducible first | exact HB.out | apply below_alloc | apply pw_below_drewN | apply below_drew1 | refine below_set ?_ GE203.out) | exact HB.out)) hb); clear HO202; clear BK203; clear HB; have HO202 := n0_; have BK203 := n1_; have HB := n2_; clear n0_ n1_ n2_; (try clear hb); (try clear hb2); (try clear hk); (try clear hi)))
        go_meet
        case rel => exact ⟨_, (true), (by first | rfl | (simp; done) | (simp [*]; done)), H', ⟨by first | omega | exact Nat.le_refl _⟩, ⟨by (with_reducible repeat (first | apply Kd.R_alloc | apply Kd.R_drewN | apply Kd.R_drew)); exact HO202.out⟩, ⟨by (with_reducible repeat (first | refine blk_drewN ?_ _ | refine blk_drew ?_ | refine blk_alloc ?_ _)); exact BK203.out⟩, ⟨by repeat (first | (with_reducible first | exact HB.out | apply below_alloc | apply pw_below_drewN | apply below_drew1 | refine below_set ?_ GE203.out) | exact HB.out)⟩⟩
    · replace c26 := Bool.eq_false_iff.mpr c26
      subst c26
      have H1 : (mootkeep1_FeastNext.j0 k t204 t207 true t193 t194 t195 t196 t197 t198 t199 t200) = some r := by rw [if_neg (show ¬ (false = true) by decide)] at H; exact H
      clear H
      have H := H1
      clear H1
      have H' := Aside0.mk H
      clear H
      go_wp2_with (first | ((with_reducible refine gate_callee (f := 33) rfl ?_); refine goesL_ (some 66) rfl rfl Try.func33 (by kernel_rfl) rfl #[] rfl (by (try simp only [List.map_toArray, List.map_cons, List.map_nil]); first | done | rfl | (simp only [List.length_drop, List.length_take]; rfl)) ?_; (with_reducible refine (mootkeep1_feasts.calls k  false _ A25.out).mono ?_); rintro e w36 ⟨rfl, hb⟩; refine ⟨_, rfl, ?_⟩; have n0_ := Aside0.mk (Kd.R_below (by (with_reducible repeat (first | apply Kd.R_alloc | apply Kd.R_drewN | apply Kd.R_drew)); exact HO202.out) hb); have n1_ := Aside0.mk (blk_below (g := gb203) (o := .cells #[.bool t193, .bool t194, .bool t195, .bool t196, .bool t197, .bool t198, .bool t199, .slice Ao17 t200.length co17] 56 (0, 0)) (by (with_reducible repeat (first | refine blk_drewN ?_ _ | refine blk_drew ?_ | refine blk_alloc ?_ _)); exact BK203.out) hb); have n2_ := Aside0.mk (below_step (by repeat (first | (with_reducible first | exact HB.out | apply below_alloc | apply pw_below_drewN | apply below_drew1 | refine below_set ?_ GE203.out) | exact HB.out)) hb); clear HO202; clear BK203; clear HB; have HO202 := n0_; have BK203 := n1_; have HB := n2_; clear n0_ n1_ n2_; (try clear hb); (try clear hb2); (try clear hk); (try clear hi)))
      go_meet
      case rel => exact ⟨_, (true), (by first | rfl | (simp; done) | (simp [*]; done)), H', ⟨by first | omega | exact Nat.le_refl _⟩, ⟨by (with_reducible repeat (first | apply Kd.R_alloc | apply Kd.R_drewN | apply Kd.R_drew)); exact HO202.out⟩, ⟨by (with_reducible repeat (first | refine blk_drewN ?_ _ | refine blk_drew ?_ | refine blk_alloc ?_ _)); exact BK203.out⟩, ⟨by repeat (first | (with_reducible first | exact HB.out | apply below_alloc | apply pw_below_drewN | apply below_drew1 | refine below_set ?_ GE203.out) | exact HB.out)⟩⟩
  case rest =>
    clear HC13
    try clear p1
    try clear c2
    try clear p2
    try clear c3
    try clear c5
    try clear p6
    try clear c21
    try clear c23
    try clear c26
    try clear c27
    try clear c27b0
    try clear c27b1
    try clear c28
    try clear c28b0
    try clear c28b1
    try clear c29
    try clear c29b0
    try clear c29b1
    try clear c30
    try clear c30b0
    try clear c30b1
    try clear c31
    try clear c32
    try clear c33
    try clear hcz16_0
    try clear hcz16_1
    try clear hcz16_2
    try clear hcz16_3
    try clear hcz16_4
    try clear hcz16_5
    try clear hcz16_6
    try clear hcz16_7
    try clear hcz19_0
    try clear hcz19_1
    try clear hcz19_2
    try clear hcz19_3
    try clear hcz19_4
    try clear hcz19_5
    try clear hcz19_6
    try clear hcz19_7
    try clear hcz21_0
    try clear hcz21_1
    try clear hcz21_2
    try clear hcz21_3
    try clear hcz21_4
    try clear hcz21_5
    try clear hcz21_6
    try clear hcz21_7
    try clear hcz23_0
    try clear hcz23_1
    try clear hcz23_2
    try clear hcz23_3
    try clear hcz23_4
    try clear hcz23_5
    try clear hcz23_6
    try clear hcz23_7
    try clear hfz16_0
    try clear hfz16_1
    try clear hfz16_2
    try clear hfz16_3
    try clear hfz16_4
    try clear hfz16_5
    try clear hfz16_6
    try clear hfz16_7
    try clear hfz19_0
    try clear hfz19_1
    try clear hfz19_2
    try clear hfz19_3
    try clear hfz19_4
    try clear hfz19_5
    try clear hfz19_6
    try clear hfz19_7
    try clear hfz21_0
    try clear hfz21_1
    try clear hfz21_2
    try clear hfz21_3
    try clear hfz21_4
    try clear hfz21_5
    try clear hfz21_6
    try clear hfz21_7
    try clear hfz23_0
    try clear hfz23_1
    try clear hfz23_2
    try clear hfz23_3
    try clear hfz23_4
    try clear hfz23_5
    try clear hfz23_6
    try clear hfz23_7
    obtain ⟨kq, x90_12, rfl, HA, HJ12, HO_204007, BK203, HB⟩ := hcut
    cases kq with
    | zero => exact absurd HA.out (by simp [mootkeep1_FeastNext.j0])
    | succ kj12 =>
      have H := HA.out
      clear HA
      simp only [mootkeep1_FeastNext.j0] at H
      by_cases c37 : x90_12 = true
      · subst c37
        have H1 : (some false) = some r := by rw [if_pos rfl] at H; exact H
        clear H
        have H := H1
        clear H1
        obtain rfl := Option.some.inj H
        go_wp2
        go_ret
        exact ⟨by first | rfl | (simp [errW_none, errW_some] <;> rfl) | (simp [*, errW_none, errW_some] <;> rfl), by repeat (first | (with_reducible first | exact HB.out | apply below_alloc | apply pw_below_drewN | apply below_drew1 | refine below_set ?_ GE203.out) | exact HB.out)⟩
      · replace c37 := Bool.eq_false_iff.mpr c37
        subst c37
        have H1 : ((feast_Count.f kj12 t193 t194 t195 t196 t197 t198 t199 t200 t204 t207).bind fun bt216 => (if bt216.2 = 0 then (if bt216.1 = 0 then ((feast_Works.f kj12 t193 t194 t195 t196 t197 t198 t199 t200 t207).bind fun t218 => (if t218 = true then (some (decide (t207 ≥ t204))) else (some false))) else (some false)) else (some false))) = some r := by rw [if_neg (show ¬ (false = true) by decide)] at H; exact H
        clear H
        have H := H1
        clear H1
        replace H := Option.bind_eq_some_iff.mp H
        obtain ⟨⟨t216, t217⟩, A380, H⟩ := H
        replace H : (if t217 = 0 then (if t216 = 0 then ((feast_Works.f kj12 t193 t194 t195 t196 t197 t198 t199 t200 t207).bind fun t218 => (if t218 = true then (some (decide (t207 ≥ t204))) else (some false))) else (some false)) else (some false)) = some r := H
        have A38 := Aside0.mk A380
        clear A380
        by_cases c39 : t217 = 0
        · rw [if_pos c39] at H
          have c39b0 : (t217 == 0) = true := beq_iff_eq.mpr c39
          have c39b1 : (t217 != 0) = false := bne_eq_false_iff_eq.mpr c39
          clear c39
          by_cases c40 : t216 = 0
          · rw [if_pos c40] at H
            have c40b0 : (t216 == 0) = true := beq_iff_eq.mpr c40
            have c40b1 : (t216 != 0) = false := bne_eq_false_iff_eq.mpr c40
            clear c40
            replace H := Option.bind_eq_some_iff.mp H
            obtain ⟨t218, A410, H⟩ := H
            replace H : (if t218 = true then (some (decide (t207 ≥ t204))) else (some false)) = some r := H
            have A41 := Aside0.mk A410
            clear A410
            by_cases c42 : t218 = true
            · subst c42
              have H1 : (some (decide (t207 ≥ t204))) = some r := by rw [if_pos rfl] at H; exact H
              clear H
              have H := H1
              clear H1
              obtain rfl := Option.some.inj H
              have hcz43_0 : wc.cell? ⟨gb203, 0, none⟩ = some (.bool t193) := (blk_cell BK203.out 0).trans rfl
              have hcz43_1 : wc.cell? ⟨gb203, 1, none⟩ = some (.bool t194) := (blk_cell BK203.out 1).trans rfl
              have hcz43_2 : wc.cell? ⟨gb203, 2, none⟩ = some (.bool t195) := (blk_cell BK203.out 2).trans rfl
              have hcz43_3 : wc.cell? ⟨gb203, 3, none⟩ = some (.bool t196) := (blk_cell BK203.out 3).trans rfl
              have hcz43_4 : wc.cell? ⟨gb203, 4, none⟩ = some (.bool t197) := (blk_cell BK203.out 4).trans rfl
              have hcz43_5 : wc.cell? ⟨gb203, 5, none⟩ = some (.bool t198) := (blk_cell BK203.out 5).trans rfl
              have hcz43_6 : wc.cell? ⟨gb203, 6, none⟩ = some (.bool t199) := (blk_cell BK203.out 6).trans rfl
              have hcz43_7 : wc.cell? ⟨gb203, 7, none⟩ = some (.slice Ao17 t200.length co17) := (blk_cell BK203.out 7).trans rfl
              have hfz43_0 := blk_frozen BK203.out 0
              have hfz43_1 := blk_frozen BK203.out 1
              have hfz43_2 := blk_frozen BK203.out 2
              have hfz43_3 := blk_frozen BK203.out 3
              have hfz43_4 := blk_frozen BK203.out 4
              have hfz43_5 := blk_frozen BK203.out 5
              have hfz43_6 := blk_frozen BK203.out 6
              have hfz43_7 := blk_frozen BK203.out 7
              go_wp2_with (first | ((with_reducible refine gate_callee (f := 32) rfl ?_); refine goesL_ (some 95) rfl rfl Try.func32 (by kernel_rfl) rfl #[.agg #[.bool t193, .bool t194, .bool t195, .bool t196, .bool t197, .bool t198, .bool t199, .slice Ao17 t200.length co17], .int .i64 t204, .int .i64 t207] rfl (by (try simp only [List.map_toArray, List.map_cons, List.map_nil]); first | done | rfl | (simp only [List.length_drop, List.length_take]; rfl)) ?_; (with_reducible refine (feast_Count.calls kj12 t193 t194 t195 t196 t197 t198 t199 _ _ t200 t204 t207 t216 t217 _ ?side1 ?side2 A38.out).mono ?_); (case side1 => repeat (first | exact (Kd.R_reads' HO_204007.out).2.2 | (with_reducible refine Kd.C_alloc ?_ _) | (with_reducible refine Kd.C_drewN ?_ _) | (with_reducible refine Kd.C_drew ?_))); (case side2 => exact (Kd.R_reads' HO_204007.out).2.1); rintro e w44 ⟨rfl, hb⟩; refine ⟨_, rfl, ?_⟩; have n0_ := Aside0.mk (Kd.R_below (by (with_reducible repeat (first | apply Kd.R_alloc | apply Kd.R_drewN | apply Kd.R_drew)); exact HO_204007.out) hb); have n1_ := Aside0.mk (blk_below (g := gb203) (o := .cells #[.bool t193, .bool t194, .bool t195, .bool t196, .bool t197, .bool t198, .bool t199, .slice Ao17 t200.length co17] 56 (0, 0)) (by (with_reducible repeat (first | refine blk_drewN ?_ _ | refine blk_drew ?_ | refine blk_alloc ?_ _)); exact BK203.out) hb); have n2_ := Aside0.mk (below_step (by repeat (first | (with_reducible first | exact HB.out | apply below_alloc | apply pw_below_drewN | apply below_drew1 | refine below_set ?_ GE203.out) | exact HB.out)) hb); clear HO_204007; clear BK203; clear HB; have HO_204007 := n0_; have BK203 := n1_; have HB := n2_; clear n0_ n1_ n2_; (try clear hb); (try clear hb2); (try clear hk); (try clear hi); have hcz45_0 : w44.cell? ⟨gb203, 0, none⟩ = some (.bool t193) := (blk_cell BK203.out 0).trans rfl; have hcz45_1 : w44.cell? ⟨gb203, 1, none⟩ = some (.bool t194) := (blk_cell BK203.out 1).trans rfl; have hcz45_2 : w44.cell? ⟨gb203, 2, none⟩ = some (.bool t195) := (blk_cell BK203.out 2).trans rfl; have hcz45_3 : w44.cell? ⟨gb203, 3, none⟩ = some (.bool t196) := (blk_cell BK203.out 3).trans rfl; have hcz45_4 : w44.cell? ⟨gb203, 4, none⟩ = some (.bool t197) := (blk_cell BK203.out 4).trans rfl; have hcz45_5 : w44.cell? ⟨gb203, 5, none⟩ = some (.bool t198) := (blk_cell BK203.out 5).trans rfl; have hcz45_6 : w44.cell? ⟨gb203, 6, none⟩ = some (.bool t199) := (blk_cell BK203.out 6).trans rfl; have hcz45_7 : w44.cell? ⟨gb203, 7, none⟩ = some (.slice Ao17 t200.length co17) := (blk_cell BK203.out 7).trans rfl; have hfz45_0 := blk_frozen BK203.out 0; have hfz45_1 := blk_frozen BK203.out 1; have hfz45_2 := blk_frozen BK203.out 2; have hfz45_3 := blk_frozen BK203.out 3; have hfz45_4 := blk_frozen BK203.out 4; have hfz45_5 := blk_frozen BK203.out 5; have hfz45_6 := blk_frozen BK203.out 6; have hfz45_7 := blk_frozen BK203.out 7) | (go_at_call 34; (with_reducible refine (feast_Works.calls kj12 t193 t194 t195 t196 t197 t198 t199 _ _ t200 t207 true _ ?side1 ?side2 A41.out).mono ?_); (case side1 => repeat (first | exact (Kd.R_reads' HO_204007.out).2.2 | (with_reducible refine Kd.C_alloc ?_ _) | (with_reducible refine Kd.C_drewN ?_ _) | (with_reducible refine Kd.C_drew ?_))); (case side2 => exact (Kd.R_reads' HO_204007.out).2.1); rintro e w46 ⟨rfl, hb⟩; have n0_ := Aside0.mk (Kd.R_below (by (with_reducible repeat (first | apply Kd.R_alloc | apply Kd.R_drewN | apply Kd.R_drew)); exact HO_204007.out) hb); have n1_ := Aside0.mk (blk_below (g := gb203) (o := .cells #[.bool t193, .bool t194, .bool t195, .bool t196, .bool t197, .bool t198, .bool t199, .slice Ao17 t200.length co17] 56 (0, 0)) (by (with_reducible repeat (first | refine blk_drewN ?_ _ | refine blk_drew ?_ | refine blk_alloc ?_ _)); exact BK203.out) hb); have n2_ := Aside0.mk (below_step (by repeat (first | (with_reducible first | exact HB.out | apply below_alloc | apply pw_below_drewN | apply below_drew1 | refine below_set ?_ GE203.out) | exact HB.out)) hb); clear HO_204007; clear BK203; clear HB; have HO_204007 := n0_; have BK203 := n1_; have HB := n2_; clear n0_ n1_ n2_; (try clear hb); (try clear hb2); (try clear hk); (try clear hi)))
              go_ret
              exact ⟨by first | rfl | (simp [errW_none, errW_some] <;> rfl) | (simp [*, errW_none, errW_some] <;> rfl), by repeat (first | (with_reducible first | exact HB.out | apply below_alloc | apply pw_below_drewN | apply below_drew1 | refine below_set ?_ GE203.out) | exact HB.out)⟩
            · replace c42 := Bool.eq_false_iff.mpr c42
              subst c42
              have H1 : (some false) = some r := by rw [if_neg (show ¬ (false = true) by decide)] at H; exact H
              clear H
              have H := H1
              clear H1
              obtain rfl := Option.some.inj H
              have hcz47_0 : wc.cell? ⟨gb203, 0, none⟩ = some (.bool t193) := (blk_cell BK203.out 0).trans rfl
              have hcz47_1 : wc.cell? ⟨gb203, 1, none⟩ = some (.bool t194) := (blk_cell BK203.out 1).trans rfl
              have hcz47_2 : wc.cell? ⟨gb203, 2, none⟩ = some (.bool t195) := (blk_cell BK203.out 2).trans rfl
              have hcz47_3 : wc.cell? ⟨gb203, 3, none⟩ = some (.bool t196) := (blk_cell BK203.out 3).trans rfl
              have hcz47_4 : wc.cell? ⟨gb203, 4, none⟩ = some (.bool t197) := (blk_cell BK203.out 4).trans rfl
              have hcz47_5 : wc.cell? ⟨gb203, 5, none⟩ = some (.bool t198) := (blk_cell BK203.out 5).trans rfl
              have hcz47_6 : wc.cell? ⟨gb203, 6, none⟩ = some (.bool t199) := (blk_cell BK203.out 6).trans rfl
              have hcz47_7 : wc.cell? ⟨gb203, 7, none⟩ = some (.slice Ao17 t200.length co17) := (blk_cell BK203.out 7).trans rfl
              have hfz47_0 := blk_frozen BK203.out 0
              have hfz47_1 := blk_frozen BK203.out 1
              have hfz47_2 := blk_frozen BK203.out 2
              have hfz47_3 := blk_frozen BK203.out 3
              have hfz47_4 := blk_frozen BK203.out 4
              have hfz47_5 := blk_frozen BK203.out 5
              have hfz47_6 := blk_frozen BK203.out 6
              have hfz47_7 := blk_frozen BK203.out 7
              go_wp2_with (first | ((with_reducible refine gate_callee (f := 32) rfl ?_); refine goesL_ (some 95) rfl rfl Try.func32 (by kernel_rfl) rfl #[.agg #[.bool t193, .bool t194, .bool t195, .bool t196, .bool t197, .bool t198, .bool t199, .slice Ao17 t200.length co17], .int .i64 t204, .int .i64 t207] rfl (by (try simp only [List.map_toArray, List.map_cons, List.map_nil]); first | done | rfl | (simp only [List.length_drop, List.length_take]; rfl)) ?_; (with_reducible refine (feast_Count.calls kj12 t193 t194 t195 t196 t197 t198 t199 _ _ t200 t204 t207 t216 t217 _ ?side1 ?side2 A38.out).mono ?_); (case side1 => repeat (first | exact (Kd.R_reads' HO_204007.out).2.2 | (with_reducible refine Kd.C_alloc ?_ _) | (with_reducible refine Kd.C_drewN ?_ _) | (with_reducible refine Kd.C_drew ?_))); (case side2 => exact (Kd.R_reads' HO_204007.out).2.1); rintro e w48 ⟨rfl, hb⟩; refine ⟨_, rfl, ?_⟩; have n0_ := Aside0.mk (Kd.R_below (by (with_reducible repeat (first | apply Kd.R_alloc | apply Kd.R_drewN | apply Kd.R_drew)); exact HO_204007.out) hb); have n1_ := Aside0.mk (blk_below (g := gb203) (o := .cells #[.bool t193, .bool t194, .bool t195, .bool t196, .bool t197, .bool t198, .bool t199, .slice Ao17 t200.length co17] 56 (0, 0)) (by (with_reducible repeat (first | refine blk_drewN ?_ _ | refine blk_drew ?_ | refine blk_alloc ?_ _)); exact BK203.out) hb); have n2_ := Aside0.mk (below_step (by repeat (first | (with_reducible first | exact HB.out | apply below_alloc | apply pw_below_drewN | apply below_drew1 | refine below_set ?_ GE203.out) | exact HB.out)) hb); clear HO_204007; clear BK203; clear HB; have HO_204007 := n0_; have BK203 := n1_; have HB := n2_; clear n0_ n1_ n2_; (try clear hb); (try clear hb2); (try clear hk); (try clear hi); have hcz49_0 : w48.cell? ⟨gb203, 0, none⟩ = some (.bool t193) := (blk_cell BK203.out 0).trans rfl; have hcz49_1 : w48.cell? ⟨gb203, 1, none⟩ = some (.bool t194) := (blk_cell BK203.out 1).trans rfl; have hcz49_2 : w48.cell? ⟨gb203, 2, none⟩ = some (.bool t195) := (blk_cell BK203.out 2).trans rfl; have hcz49_3 : w48.cell? ⟨gb203, 3, none⟩ = some (.bool t196) := (blk_cell BK203.out 3).trans rfl; have hcz49_4 : w48.cell? ⟨gb203, 4, none⟩ = some (.bool t197) := (blk_cell BK203.out 4).trans rfl; have hcz49_5 : w48.cell? ⟨gb203, 5, none⟩ = some (.bool t198) := (blk_cell BK203.out 5).trans rfl; have hcz49_6 : w48.cell? ⟨gb203, 6, none⟩ = some (.bool t199) := (blk_cell BK203.out 6).trans rfl; have hcz49_7 : w48.cell? ⟨gb203, 7, none⟩ = some (.slice Ao17 t200.length co17) := (blk_cell BK203.out 7).trans rfl; have hfz49_0 := blk_frozen BK203.out 0; have hfz49_1 := blk_frozen BK203.out 1; have hfz49_2 := blk_frozen BK203.out 2; have hfz49_3 := blk_frozen BK203.out 3; have hfz49_4 := blk_frozen BK203.out 4; have hfz49_5 := blk_frozen BK203.out 5; have hfz49_6 := blk_frozen BK203.out 6; have hfz49_7 := blk_frozen BK203.out 7) | (go_at_call 34; (with_reducible refine (feast_Works.calls kj12 t193 t194 t195 t196 t197 t198 t199 _ _ t200 t207 false _ ?side1 ?side2 A41.out).mono ?_); (case side1 => repeat (first | exact (Kd.R_reads' HO_204007.out).2.2 | (with_reducible refine Kd.C_alloc ?_ _) | (with_reducible refine Kd.C_drewN ?_ _) | (with_reducible refine Kd.C_drew ?_))); (case side2 => exact (Kd.R_reads' HO_204007.out).2.1); rintro e w50 ⟨rfl, hb⟩; have n0_ := Aside0.mk (Kd.R_below (by (with_reducible repeat (first | apply Kd.R_alloc | apply Kd.R_drewN | apply Kd.R_drew)); exact HO_204007.out) hb); have n1_ := Aside0.mk (blk_below (g := gb203) (o := .cells #[.bool t193, .bool t194, .bool t195, .bool t196, .bool t197, .bool t198, .bool t199, .slice Ao17 t200.length co17] 56 (0, 0)) (by (with_reducible repeat (first | refine blk_drewN ?_ _ | refine blk_drew ?_ | refine blk_alloc ?_ _)); exact BK203.out) hb); have n2_ := Aside0.mk (below_step (by repeat (first | (with_reducible first | exact HB.out | apply below_alloc | apply pw_below_drewN | apply below_drew1 | refine below_set ?_ GE203.out) | exact HB.out)) hb); clear HO_204007; clear BK203; clear HB; have HO_204007 := n0_; have BK203 := n1_; have HB := n2_; clear n0_ n1_ n2_; (try clear hb); (try clear hb2); (try clear hk); (try clear hi)))
              go_ret
              exact ⟨by first | rfl | (simp [errW_none, errW_some] <;> rfl) | (simp [*, errW_none, errW_some] <;> rfl), by repeat (first | (with_reducible first | exact HB.out | apply below_alloc | apply pw_below_drewN | apply below_drew1 | refine below_set ?_ GE203.out) | exact HB.out)⟩
          · rw [if_neg c40] at H
            have c40b0 : (t216 == 0) = false := beq_eq_false_iff_ne.mpr c40
            have c40b1 : (t216 != 0) = true := bne_iff_ne.mpr c40
            obtain rfl := Option.some.inj H
            have hcz51_0 : wc.cell? ⟨gb203, 0, none⟩ = some (.bool t193) := (blk_cell BK203.out 0).trans rfl
            have hcz51_1 : wc.cell? ⟨gb203, 1, none⟩ = some (.bool t194) := (blk_cell BK203.out 1).trans rfl
            have hcz51_2 : wc.cell? ⟨gb203, 2, none⟩ = some (.bool t195) := (blk_cell BK203.out 2).trans rfl
            have hcz51_3 : wc.cell? ⟨gb203, 3, none⟩ = some (.bool t196) := (blk_cell BK203.out 3).trans rfl
            have hcz51_4 : wc.cell? ⟨gb203, 4, none⟩ = some (.bool t197) := (blk_cell BK203.out 4).trans rfl
            have hcz51_5 : wc.cell? ⟨gb203, 5, none⟩ = some (.bool t198) := (blk_cell BK203.out 5).trans rfl
            have hcz51_6 : wc.cell? ⟨gb203, 6, none⟩ = some (.bool t199) := (blk_cell BK203.out 6).trans rfl
            have hcz51_7 : wc.cell? ⟨gb203, 7, none⟩ = some (.slice Ao17 t200.length co17) := (blk_cell BK203.out 7).trans rfl
            have hfz51_0 := blk_frozen BK203.out 0
            have hfz51_1 := blk_frozen BK203.out 1
            have hfz51_2 := blk_frozen BK203.out 2
            have hfz51_3 := blk_frozen BK203.out 3
            have hfz51_4 := blk_frozen BK203.out 4
            have hfz51_5 := blk_frozen BK203.out 5
            have hfz51_6 := blk_frozen BK203.out 6
            have hfz51_7 := blk_frozen BK203.out 7
            go_wp2_with (first | ((with_reducible refine gate_callee (f := 32) rfl ?_); refine goesL_ (some 95) rfl rfl Try.func32 (by kernel_rfl) rfl #[.agg #[.bool t193, .bool t194, .bool t195, .bool t196, .bool t197, .bool t198, .bool t199, .slice Ao17 t200.length co17], .int .i64 t204, .int .i64 t207] rfl (by (try simp only [List.map_toArray, List.map_cons, List.map_nil]); first | done | rfl | (simp only [List.length_drop, List.length_take]; rfl)) ?_; (with_reducible refine (feast_Count.calls kj12 t193 t194 t195 t196 t197 t198 t199 _ _ t200 t204 t207 t216 t217 _ ?side1 ?side2 A38.out).mono ?_); (case side1 => repeat (first | exact (Kd.R_reads' HO_204007.out).2.2 | (with_reducible refine Kd.C_alloc ?_ _) | (with_reducible refine Kd.C_drewN ?_ _) | (with_reducible refine Kd.C_drew ?_))); (case side2 => exact (Kd.R_reads' HO_204007.out).2.1); rintro e w52 ⟨rfl, hb⟩; refine ⟨_, rfl, ?_⟩; have n0_ := Aside0.mk (Kd.R_below (by (with_reducible repeat (first | apply Kd.R_alloc | apply Kd.R_drewN | apply Kd.R_drew)); exact HO_204007.out) hb); have n1_ := Aside0.mk (blk_below (g := gb203) (o := .cells #[.bool t193, .bool t194, .bool t195, .bool t196, .bool t197, .bool t198, .bool t199, .slice Ao17 t200.length co17] 56 (0, 0)) (by (with_reducible repeat (first | refine blk_drewN ?_ _ | refine blk_drew ?_ | refine blk_alloc ?_ _)); exact BK203.out) hb); have n2_ := Aside0.mk (below_step (by repeat (first | (with_reducible first | exact HB.out | apply below_alloc | apply pw_below_drewN | apply below_drew1 | refine below_set ?_ GE203.out) | exact HB.out)) hb); clear HO_204007; clear BK203; clear HB; have HO_204007 := n0_; have BK203 := n1_; have HB := n2_; clear n0_ n1_ n2_; (try clear hb); (try clear hb2); (try clear hk); (try clear hi)))
            go_ret
            exact ⟨by first | rfl | (simp [errW_none, errW_some] <;> rfl) | (simp [*, errW_none, errW_some] <;> rfl), by repeat (first | (with_reducible first | exact HB.out | apply below_alloc | apply pw_below_drewN | apply below_drew1 | refine below_set ?_ GE203.out) | exact HB.out)⟩
        · rw [if_neg c39] at H
          have c39b0 : (t217 == 0) = false := beq_eq_false_iff_ne.mpr c39
          have c39b1 : (t217 != 0) = true := bne_iff_ne.mpr c39
          obtain rfl := Option.some.inj H
          have hcz53_0 : wc.cell? ⟨gb203, 0, none⟩ = some (.bool t193) := (blk_cell BK203.out 0).trans rfl
          have hcz53_1 : wc.cell? ⟨gb203, 1, none⟩ = some (.bool t194) := (blk_cell BK203.out 1).trans rfl
          have hcz53_2 : wc.cell? ⟨gb203, 2, none⟩ = some (.bool t195) := (blk_cell BK203.out 2).trans rfl
          have hcz53_3 : wc.cell? ⟨gb203, 3, none⟩ = some (.bool t196) := (blk_cell BK203.out 3).trans rfl
          have hcz53_4 : wc.cell? ⟨gb203, 4, none⟩ = some (.bool t197) := (blk_cell BK203.out 4).trans rfl
          have hcz53_5 : wc.cell? ⟨gb203, 5, none⟩ = some (.bool t198) := (blk_cell BK203.out 5).trans rfl
          have hcz53_6 : wc.cell? ⟨gb203, 6, none⟩ = some (.bool t199) := (blk_cell BK203.out 6).trans rfl
          have hcz53_7 : wc.cell? ⟨gb203, 7, none⟩ = some (.slice Ao17 t200.length co17) := (blk_cell BK203.out 7).trans rfl
          have hfz53_0 := blk_frozen BK203.out 0
          have hfz53_1 := blk_frozen BK203.out 1
          have hfz53_2 := blk_frozen BK203.out 2
          have hfz53_3 := blk_frozen BK203.out 3
          have hfz53_4 := blk_frozen BK203.out 4
          have hfz53_5 := blk_frozen BK203.out 5
          have hfz53_6 := blk_frozen BK203.out 6
          have hfz53_7 := blk_frozen BK203.out 7
          go_wp2_with (first | ((with_reducible refine gate_callee (f := 32) rfl ?_); refine goesL_ (some 95) rfl rfl Try.func32 (by kernel_rfl) rfl #[.agg #[.bool t193, .bool t194, .bool t195, .bool t196, .bool t197, .bool t198, .bool t199, .slice Ao17 t200.length co17], .int .i64 t204, .int .i64 t207] rfl (by (try simp only [List.map_toArray, List.map_cons, List.map_nil]); first | done | rfl | (simp only [List.length_drop, List.length_take]; rfl)) ?_; (with_reducible refine (feast_Count.calls kj12 t193 t194 t195 t196 t197 t198 t199 _ _ t200 t204 t207 t216 t217 _ ?side1 ?side2 A38.out).mono ?_); (case side1 => repeat (first | exact (Kd.R_reads' HO_204007.out).2.2 | (with_reducible refine Kd.C_alloc ?_ _) | (with_reducible refine Kd.C_drewN ?_ _) | (with_reducible refine Kd.C_drew ?_))); (case side2 => exact (Kd.R_reads' HO_204007.out).2.1); rintro e w54 ⟨rfl, hb⟩; refine ⟨_, rfl, ?_⟩; have n0_ := Aside0.mk (Kd.R_below (by (with_reducible repeat (first | apply Kd.R_alloc | apply Kd.R_drewN | apply Kd.R_drew)); exact HO_204007.out) hb); have n1_ := Aside0.mk (blk_below (g := gb203) (o := .cells #[.bool t193, .bool t194, .bool t195, .bool t196, .bool t197, .bool t198, .bool t199, .slice Ao17 t200.length co17] 56 (0, 0)) (by (with_reducible repeat (first | refine blk_drewN ?_ _ | refine blk_drew ?_ | refine blk_alloc ?_ _)); exact BK203.out) hb); have n2_ := Aside0.mk (below_step (by repeat (first | (with_reducible first | exact HB.out | apply below_alloc | apply pw_below_drewN | apply below_drew1 | refine below_set ?_ GE203.out) | exact HB.out)) hb); clear HO_204007; clear BK203; clear HB; have HO_204007 := n0_; have BK203 := n1_; have HB := n2_; clear n0_ n1_ n2_; (try clear hb); (try clear hb2); (try clear hk); (try clear hi)))
          go_ret
          exact ⟨by first | rfl | (simp [errW_none, errW_some] <;> rfl) | (simp [*, errW_none, errW_some] <;> rfl), by repeat (first | (with_reducible first | exact HB.out | apply below_alloc | apply pw_below_drewN | apply below_drew1 | refine below_set ?_ GE203.out) | exact HB.out)⟩

/-- THE ONE PURE STATEMENT of mootkeep1_FeastNext: yours. -/
def mootkeep1_FeastNext.Pure : Prop := ∀ (l0 : List Int) (a1 : Int) (a2 : Int) (a3 : Int), l0.length ≤ maxLen → l0.length * 8 ≤ 140737488351232 → (∀ x ∈ l0, (Lit.int .i64 x).wf = true) → (Lit.int .i64 a1).wf = true → (Lit.int .i64 a2).wf = true → (Lit.int .i64 a3).wf = true → ∃ k, mootkeep1_FeastNext.f k l0 a1 a2 a3 = some true
theorem mootkeep1_FeastNext.walk (P : mootkeep1_FeastNext.Pure) (a0 : Option Addr) (len0 cap0 : Nat) (z0 : List Int) (a1 : Int) (a2 : Int) (a3 : Int) (w : World) (w0 : (a0 = none ∧ len0 = 0 ∧ cap0 = 0 ∧ z0 = []) ∨ ∃ x, a0 = some x ∧ len0 ≤ cap0 ∧ cap0 ≤ maxLen ∧ z0.length = cap0 ∧ (∀ i, i < z0.length → w.cell? (x.add i) = some (.int .i64 (z0.getD i 0))) ∧ ∀ n ∈ z0, (Lit.int .i64 n).wf = true) (y0 : len0 * 8 ≤ 140737488351232) (w1 : (Lit.int .i64 a1).wf = true) (w2 : (Lit.int .i64 a2).wf = true) (w3 : (Lit.int .i64 a3).wf = true) :
    Calls Try.prog 5 #[.slice a0 len0 cap0, .int .i64 a1, .int .i64 a2, .int .i64 a3] w fun e w' => e = .returned (.bool true) ∧ Below w.heap.size w w' := by
  obtain ⟨l0, rfl, hr0, hm0, hw0, hc0⟩ := ReadsInt.ofRowC w0
  obtain ⟨k, h⟩ := P l0 a1 a2 a3 hm0 y0 hw0 w1 w2 w3
  refine (mootkeep1_FeastNext.calls k _ _ l0 a1 a2 a3 true w (Kd.C_of_reads (d := (0 : Int)) (h1 := fun _ => rfl) hr0) hc0 h).mono ?_
  rintro e w' ⟨rfl, hd⟩
  exact ⟨rfl, hd⟩

end Go.Proofs.Ytaljkilnpfmlaaa.PFeastNext
