/- The machine side of a law, written by a program of this session (wip/mp). -/
import Derived.Test.YtaljkilnpfmlaaaPCashMonthsx0
namespace Go.Proofs.Ytaljkilnpfmlaaa.PCashMonths
open Go.RowKit Go.Proofs.YtaljkilnpfmlaaaW.PrintWords Go.Proofs.YtaljkilnpfmlaaaW.PrintLast Go.Proofs.YtaljkilnpfmlaaaW.PrintMore
attribute [local go_sem] max2_int min2_int max_two min_two max_three min_three max_four min_four   -- for this text's walks alone
set_option linter.unusedVariables false
set_option linter.unusedSimpArgs false

attribute [local go_sem] fld47_1
/-! ### mootmake_Below: function 21 -/
def mootmake_Below.f (a0 : Int) (a1 : Int) : Option (Int) := if a1 = 0 then (none) else (if (Int.tmod a0 a1) < 0 then (some (wrap64 ((Int.tmod a0 a1) + a1))) else (some (Int.tmod a0 a1)))
set_option maxHeartbeats 8000000 in
set_option maxRecDepth 100000 in
theorem mootmake_Below.calls (a0 : Int) (a1 : Int) (r : Int) (w : World) (h : mootmake_Below.f a0 a1 = some r) :
    Calls Try.prog 21 #[.int .i64 a0, .int .i64 a1] w fun e w' => e = .returned (.int .i64 r) ∧ Drawn0 w w' := by
  have H : (if a1 = 0 then (none) else (if (Int.tmod a0 a1) < 0 then (some (wrap64 ((Int.tmod a0 a1) + a1))) else (some (Int.tmod a0 a1)))) = some r := h
  clear h
  by_cases c3 : a1 = 0
  · rw [if_pos c3] at H
    exact absurd H (by simp)
  · rw [if_neg c3] at H
    have c3b0 : (a1 == 0) = false := beq_eq_false_iff_ne.mpr c3
    have c3b1 : (a1 != 0) = true := bne_iff_ne.mpr c3
    by_cases c4 : (Int.tmod a0 a1) < 0
    · rw [if_pos c4] at H
      have c4b0 : decide ((Int.tmod a0 a1) < 0) = true := decide_eq_true c4
      clear c4; obtain rfl := Option.some.inj H
      go_enter Try.func21, Try.ntmps21
      go_wp2; go_ret
      exact ⟨by first | rfl | (simp; done) | (simp [*]; done), by repeat (first | exact Drawn0.refl _ | apply Drawn0.step)⟩
    · rw [if_neg c4] at H
      have c4b0 : decide ((Int.tmod a0 a1) < 0) = false := decide_eq_false c4
      clear c4; obtain rfl := Option.some.inj H
      go_enter Try.func21, Try.ntmps21
      go_wp2; go_ret
      exact ⟨by first | rfl | (simp; done) | (simp [*]; done), by repeat (first | exact Drawn0.refl _ | apply Drawn0.step)⟩

/-! ### day_Leap: function 99 -/
def day_Leap.f (a0 : Int) : Option (Bool) := if (Int.tmod a0 4) = 0 then (if (Int.tmod a0 100) = 0 then (some ((Int.tmod a0 400) == 0)) else (some true)) else (some false)
set_option maxHeartbeats 8000000 in
set_option maxRecDepth 100000 in
theorem day_Leap.calls (a0 : Int) (r : Bool) (w : World) (h : day_Leap.f a0 = some r) :
    Calls Try.prog 99 #[.int .i64 a0] w fun e w' => e = .returned (.bool r) ∧ Drawn0 w w' := by
  have H : (if (Int.tmod a0 4) = 0 then (if (Int.tmod a0 100) = 0 then (some ((Int.tmod a0 400) == 0)) else (some true)) else (some false)) = some r := h
  clear h
  by_cases c2 : (Int.tmod a0 4) = 0
  · rw [if_pos c2] at H
    have c2b0 : ((Int.tmod a0 4) == 0) = true := beq_iff_eq.mpr c2
    have c2b1 : ((Int.tmod a0 4) != 0) = false := bne_eq_false_iff_eq.mpr c2
    clear c2
    by_cases c3 : (Int.tmod a0 100) = 0
    · rw [if_pos c3] at H
      have c3b0 : ((Int.tmod a0 100) == 0) = true := beq_iff_eq.mpr c3
      have c3b1 : ((Int.tmod a0 100) != 0) = false := bne_eq_false_iff_eq.mpr c3
      clear c3; obtain rfl := Option.some.inj H
      go_enter Try.func99, Try.ntmps99
      go_wp2; go_ret
      exact ⟨by first | rfl | (simp; done) | (simp [*]; done), by repeat (first | exact Drawn0.refl _ | apply Drawn0.step)⟩
    · rw [if_neg c3] at H
      have c3b0 : ((Int.tmod a0 100) == 0) = false := beq_eq_false_iff_ne.mpr c3
      have c3b1 : ((Int.tmod a0 100) != 0) = true := bne_iff_ne.mpr c3
      obtain rfl := Option.some.inj H
      go_enter Try.func99, Try.ntmps99
      go_wp2; go_ret
      exact ⟨by first | rfl | (simp; done) | (simp [*]; done), by repeat (first | exact Drawn0.refl _ | apply Drawn0.step)⟩
  · rw [if_neg c2] at H
    have c2b0 : ((Int.tmod a0 4) == 0) = false := beq_eq_false_iff_ne.mpr c2
    have c2b1 : ((Int.tmod a0 4) != 0) = true := bne_iff_ne.mpr c2
    obtain rfl := Option.some.inj H
    go_enter Try.func99, Try.ntmps99
    go_wp2; go_ret
    exact ⟨by first | rfl | (simp; done) | (simp [*]; done), by repeat (first | exact Drawn0.refl _ | apply Drawn0.step)⟩

/-! ### day_ahead: function 62 -/
def day_ahead.f (a0 : Int) (a1 : Int) : Option (Int) := if a1 ≤ 2 then (some (wrap64 (Int.tdiv (wrap64 ((wrap64 (367 * a1)) - 362)) 12))) else ((day_Leap.f a0).bind fun t101 => (if t101 = true then (some (wrap64 ((wrap64 (Int.tdiv (wrap64 ((wrap64 (367 * a1)) - 362)) 12)) - 1))) else (some (wrap64 ((wrap64 (Int.tdiv (wrap64 ((wrap64 (367 * a1)) - 362)) 12)) - 2)))))
set_option maxHeartbeats 8000000 in
set_option maxRecDepth 100000 in
theorem day_ahead.calls (a0 : Int) (a1 : Int) (r : Int) (w : World) (h : day_ahead.f a0 a1 = some r) :
    Calls Try.prog 62 #[.int .i64 a0, .int .i64 a1] w fun e w' => e = .returned (.int .i64 r) ∧ Drawn0 w w' := by
  have H : (if a1 ≤ 2 then (some (wrap64 (Int.tdiv (wrap64 ((wrap64 (367 * a1)) - 362)) 12))) else ((day_Leap.f a0).bind fun t101 => (if t101 = true then (some (wrap64 ((wrap64 (Int.tdiv (wrap64 ((wrap64 (367 * a1)) - 362)) 12)) - 1))) else (some (wrap64 ((wrap64 (Int.tdiv (wrap64 ((wrap64 (367 * a1)) - 362)) 12)) - 2)))))) = some r := h
  clear h
  by_cases c3 : a1 ≤ 2
  · rw [if_pos c3] at H
    have c3b0 : decide (a1 ≤ 2) = true := decide_eq_true c3
    clear c3; obtain rfl := Option.some.inj H
    go_enter Try.func62, Try.ntmps62
    go_wp2; go_ret
    exact ⟨by first | rfl | (simp; done) | (simp [*]; done), by repeat (first | exact Drawn0.refl _ | apply Drawn0.step)⟩
  · rw [if_neg c3] at H
    have c3b0 : decide (a1 ≤ 2) = false := decide_eq_false c3
    clear c3; replace H := Option.bind_eq_some_iff.mp H
    obtain ⟨t101, A40, H⟩ := H
    replace H : (if t101 = true then (some (wrap64 ((wrap64 (Int.tdiv (wrap64 ((wrap64 (367 * a1)) - 362)) 12)) - 1))) else (some (wrap64 ((wrap64 (Int.tdiv (wrap64 ((wrap64 (367 * a1)) - 362)) 12)) - 2)))) = some r := H
    have A4 := Aside0.mk A40
    clear A40
    by_cases c5 : t101 = true
    · subst c5
      have H1 : (some (wrap64 ((wrap64 (Int.tdiv (wrap64 ((wrap64 (367 * a1)) - 362)) 12)) - 1))) = some r := by rw [if_pos rfl] at H; exact H
      clear H; have H := H1; clear H1; obtain rfl := Option.some.inj H
      go_enter Try.func62, Try.ntmps62
      go_wp2_with (first | ((with_reducible refine gate_callee (f := 99) rfl ?_); refine goesL_ (some 16) rfl rfl Try.func99 (by kernel_rfl) rfl #[.int .i64 a0] rfl (by (try simp only [List.map_toArray, List.map_cons, List.map_nil]); first | done | rfl | (simp only [List.length_drop, List.length_take]; rfl)) ?_; (with_reducible refine (day_Leap.calls a0 true _ A4.out).mono ?_); rintro e w' ⟨rfl, ⟨nd, rfl⟩⟩; refine ⟨_, rfl, ?_⟩))
      go_ret
      exact ⟨by first | rfl | (simp; done) | (simp [*]; done), by repeat (first | exact Drawn0.refl _ | apply Drawn0.step)⟩
    · replace c5 := Bool.eq_false_iff.mpr c5
      subst c5
      have H1 : (some (wrap64 ((wrap64 (Int.tdiv (wrap64 ((wrap64 (367 * a1)) - 362)) 12)) - 2))) = some r := by rw [if_neg (show ¬ (false = true) by decide)] at H; exact H
      clear H; have H := H1; clear H1; obtain rfl := Option.some.inj H
      go_enter Try.func62, Try.ntmps62
      go_wp2_with (first | ((with_reducible refine gate_callee (f := 99) rfl ?_); refine goesL_ (some 16) rfl rfl Try.func99 (by kernel_rfl) rfl #[.int .i64 a0] rfl (by (try simp only [List.map_toArray, List.map_cons, List.map_nil]); first | done | rfl | (simp only [List.length_drop, List.length_take]; rfl)) ?_; (with_reducible refine (day_Leap.calls a0 false _ A4.out).mono ?_); rintro e w' ⟨rfl, ⟨nd, rfl⟩⟩; refine ⟨_, rfl, ?_⟩))
      go_ret
      exact ⟨by first | rfl | (simp; done) | (simp [*]; done), by repeat (first | exact Drawn0.refl _ | apply Drawn0.step)⟩

/-! ### day_first: function 70 -/
def day_first.f (a0 : Int) : Option (Int) := some (wrap64 ((wrap64 ((wrap64 ((wrap64 (365 * (wrap64 (a0 - 1)))) + (wrap64 (Int.tdiv (wrap64 (a0 - 1)) 4)))) - (wrap64 (Int.tdiv (wrap64 (a0 - 1)) 100)))) + (wrap64 (Int.tdiv (wrap64 (a0 - 1)) 400))))
set_option maxHeartbeats 8000000 in
set_option maxRecDepth 100000 in
theorem day_first.calls (a0 : Int) (r : Int) (w : World) (h : day_first.f a0 = some r) :
    Calls Try.prog 70 #[.int .i64 a0] w fun e w' => e = .returned (.int .i64 r) ∧ Drawn0 w w' := by
  have H : (some (wrap64 ((wrap64 ((wrap64 ((wrap64 (365 * (wrap64 (a0 - 1)))) + (wrap64 (Int.tdiv (wrap64 (a0 - 1)) 4)))) - (wrap64 (Int.tdiv (wrap64 (a0 - 1)) 100)))) + (wrap64 (Int.tdiv (wrap64 (a0 - 1)) 400))))) = some r := h
  clear h; obtain rfl := Option.some.inj H
  go_enter Try.func70, Try.ntmps70
  go_wp2; go_ret
  exact ⟨by first | rfl | (simp; done) | (simp [*]; done), by repeat (first | exact Drawn0.refl _ | apply Drawn0.step)⟩

/-! ### day_clamp: function 93 -/
def day_clamp.f (a0 : Int) : Option (Int) := some (mx 0 (mn a0 1048575))
set_option maxHeartbeats 8000000 in
set_option maxRecDepth 100000 in
theorem day_clamp.calls (a0 : Int) (r : Int) (w : World) (h : day_clamp.f a0 = some r) :
    Calls Try.prog 93 #[.int .i64 a0] w fun e w' => e = .returned (.int .i64 r) ∧ Below w.heap.size w w' := by
  have HB := Aside0.mk (Below.refl w.heap.size w)
  have H : (some (mx 0 (mn a0 1048575))) = some r := h
  clear h
  obtain ⟨ji2, hji2⟩ : ∃ j_ : Int, (mn a0 1048575) = j_ := ⟨_, rfl⟩
  replace H : (some (mx 0 (ji2))) = some r := by first | (rw [hji2] at H; exact H) | (simp only [hji2] at H ⊢; exact H)
  (try (have hji2h : ji2 ≤ 1048575 := by (rw [← hji2]; unfold mn; (repeat' split) <;> omega)))
  (try (have hji2g : ji2 ≤ 64 := by omega))
  have hji2_ : (if 1048575 < a0 then 1048575 else a0) = ji2 := hji2
  obtain ⟨ji3, hji3⟩ : ∃ j_ : Int, (mx 0 (ji2)) = j_ := ⟨_, rfl⟩
  replace H : (some ji3) = some r := by first | (rw [hji3] at H; exact H) | (simp only [hji3] at H ⊢; exact H)
  (try (have hji3l : 0 ≤ ji3 := by (rw [← hji3]; unfold mx; (repeat' split) <;> omega)))
  (try (have hji3m : 0 ≤ ji3 := by omega))
  have hji3_ : (if 0 < (ji2) then (ji2) else 0) = ji3 := hji3
  obtain rfl := Option.some.inj H
  go_enter Try.func93, Try.ntmps93
  go_wp2; go_ret
  exact ⟨by first | rfl | (simp [errW_none, errW_some] <;> rfl) | (simp only [← hji2, ← hji3]; first | rfl | (simp [errW_none, errW_some] <;> rfl)) | (simp [*, errW_none, errW_some] <;> rfl), by repeat (first | (with_reducible first | exact HB.out | apply below_alloc | apply pw_below_drewN | apply below_drew1) | exact HB.out)⟩

/-! ### day_Parts: function 61 -/
mutual
def day_Parts.l0 : Nat → Int → Int → Option (Int × Int × Int)
  | 0, _, _ => none
  | k + 1, x0, x5 => (day_first.f (wrap64 (x5 + 1))).bind fun t103 => (if t103 ≤ x0 then (day_Parts.l0 k x0 (wrap64 (x5 + 1))) else ((day_first.f x5).bind fun t104 => (day_Parts.l1 k x5 (wrap64 (x0 - t104)) 1)))
def day_Parts.l1 : Nat → Int → Int → Int → Option (Int × Int × Int)
  | 0, _, _, _ => none
  | k + 1, x5, x6, x7 => if x7 < 12 then ((day_ahead.f x5 (wrap64 (x7 + 1))).bind fun t105 => (if t105 ≤ x6 then (day_Parts.l1 k x5 x6 (wrap64 (x7 + 1))) else ((day_ahead.f x5 x7).bind fun t106 => (some (x5, x7, wrap64 ((wrap64 (x6 - t106)) + 1)))))) else ((day_ahead.f x5 x7).bind fun t107 => (some (x5, x7, wrap64 ((wrap64 (x6 - t107)) + 1))))
end
def day_Parts.f (k : Nat) (a0 : Int) : Option (Int × Int × Int) := (day_clamp.f a0).bind fun t102 => (day_Parts.l0 k t102 (wrap64 ((wrap64 ((wrap64 (400 * (wrap64 (Int.tdiv t102 146097)))) + (wrap64 (Int.tdiv (Int.tmod t102 146097) 366)))) + 1)))
theorem day_Parts.mono_l : ∀ k, (∀ y0 y1, LeO (day_Parts.l0 k y0 y1) (day_Parts.l0 (k + 1) y0 y1)) ∧ (∀ y0 y1 y2, LeO (day_Parts.l1 k y0 y1 y2) (day_Parts.l1 (k + 1) y0 y1 y2))
  | 0 => ⟨fun _ _ r h => by simp [day_Parts.l0] at h, fun _ _ _ r h => by simp [day_Parts.l1] at h⟩
  | k + 1 => by
    obtain ⟨ih0, ih1⟩ := day_Parts.mono_l k
    refine ⟨?_, ?_⟩
    · intro y0 y1
      unfold day_Parts.l0
      repeat' first
      | (with_reducible exact ih0 _ _)
      | (with_reducible exact ih1 _ _ _)
      | (with_reducible exact LeO.refl _)
      | (with_reducible exact LeO.none _)
      | (with_reducible refine LeO.ite ?_ ?_)
      | (with_reducible refine LeO.bind ?_ (fun _ => ?_))
      | exact ih0 _ _
      | exact ih1 _ _ _
      | exact LeO.none _
      | refine LeO.ite ?_ ?_
      | refine LeO.bind ?_ (fun _ => ?_)
    · intro y0 y1 y2
      unfold day_Parts.l1
      repeat' first
      | (with_reducible exact ih0 _ _)
      | (with_reducible exact ih1 _ _ _)
      | (with_reducible exact LeO.refl _)
      | (with_reducible exact LeO.none _)
      | (with_reducible refine LeO.ite ?_ ?_)
      | (with_reducible refine LeO.bind ?_ (fun _ => ?_))
      | exact ih0 _ _
      | exact ih1 _ _ _
      | exact LeO.none _
      | refine LeO.ite ?_ ?_
      | refine LeO.bind ?_ (fun _ => ?_)
theorem day_Parts.mono : ∀ a0 k, LeO (day_Parts.f k a0) (day_Parts.f (k + 1) a0) := by
  intro a0 k
  obtain ⟨ih0, ih1⟩ := day_Parts.mono_l k
  unfold day_Parts.f
  repeat' first
      | (with_reducible exact ih0 _ _)
      | (with_reducible exact ih1 _ _ _)
      | (with_reducible exact LeO.refl _)
      | (with_reducible exact LeO.none _)
      | (with_reducible refine LeO.ite ?_ ?_)
      | (with_reducible refine LeO.bind ?_ (fun _ => ?_))
      | exact ih0 _ _
      | exact ih1 _ _ _
      | exact LeO.none _
      | refine LeO.ite ?_ ?_
      | refine LeO.bind ?_ (fun _ => ?_)
set_option maxHeartbeats 8000000 in
set_option maxRecDepth 100000 in
theorem day_Parts.calls (k : Nat) (a0 : Int) (r1 : Int) (r2 : Int) (r3 : Int) (w : World) (h : day_Parts.f k a0 = some (r1, r2, r3)) :
    Calls Try.prog 61 #[.int .i64 a0] w fun e w' => e = .returned (.tuple #[.int .i64 r1, .int .i64 r2, .int .i64 r3]) ∧ Below w.heap.size w w' := by
  have HB := Aside0.mk (Below.refl w.heap.size w)
  have H : ((day_clamp.f a0).bind fun t102 => (day_Parts.l0 k t102 (wrap64 ((wrap64 ((wrap64 (400 * (wrap64 (Int.tdiv t102 146097)))) + (wrap64 (Int.tdiv (Int.tmod t102 146097) 366)))) + 1)))) = some (r1, r2, r3) := h
  clear h; replace H := Option.bind_eq_some_iff.mp H
  obtain ⟨t102, A20, H⟩ := H
  replace H : (day_Parts.l0 k t102 (wrap64 ((wrap64 ((wrap64 (400 * (wrap64 (Int.tdiv t102 146097)))) + (wrap64 (Int.tdiv (Int.tmod t102 146097) 366)))) + 1))) = some (r1, r2, r3) := H
  have A2 := Aside0.mk A20
  clear A20
  have H' := Aside0.mk H
  clear H
  go_enter Try.func61, Try.ntmps61
  go_wp2_with (first | ((with_reducible refine gate_callee (f := 93) rfl ?_); refine goesL_ (some 9) rfl rfl Try.func93 (by kernel_rfl) rfl #[.int .i64 a0] rfl (by (try simp only [List.map_toArray, List.map_cons, List.map_nil]); first | done | rfl | (simp only [List.length_drop, List.length_take]; rfl)) ?_; (with_reducible refine (day_clamp.calls a0 t102 _ A2.out).mono ?_); rintro e w3 ⟨rfl, hb⟩; refine ⟨_, rfl, ?_⟩; have n0_ := Aside0.mk (below_step (by repeat (first | (with_reducible first | exact HB.out | apply below_alloc | apply pw_below_drewN | apply below_drew1) | exact HB.out)) hb); clear HB; have HB := n0_; clear n0_; (try clear hb); (try clear hb2); (try clear hk); (try clear hi)))
  go_loopg [5] k (fun kq v5 w' => ∃ (x5_1 : Int), v5 = .int .i64 x5_1 ∧ Aside0 (day_Parts.l0 kq t102 x5_1 = some (r1, r2, r3)) ∧ Aside0 (kq ≤ k) ∧ Aside0 (Below w.heap.size w w'))
  case atStart => exact ⟨(wrap64 ((wrap64 ((wrap64 (400 * (wrap64 (Int.tdiv t102 146097)))) + (wrap64 (Int.tdiv (Int.tmod t102 146097) 366)))) + 1)), (by first | rfl | (simp; done) | (simp [*]; done)), H', ⟨Nat.le_refl _⟩, ⟨by repeat (first | (with_reducible first | exact HB.out | apply below_alloc | apply pw_below_drewN | apply below_drew1) | exact HB.out)⟩⟩
  case round =>
    clear H'; try clear p2
    obtain ⟨x5_1, rfl, HA, HK1, HB⟩ := hrel
    cases gk with
    | zero => exact absurd HA.out (by simp [day_Parts.l0])
    | succ k1 =>
      have H := HA.out; clear HA
      simp only [day_Parts.l0] at H
      replace H := Option.bind_eq_some_iff.mp H
      obtain ⟨t103, A40, H⟩ := H
      replace H : (if t103 ≤ t102 then (day_Parts.l0 k1 t102 (wrap64 (x5_1 + 1))) else ((day_first.f x5_1).bind fun t104 => (day_Parts.l1 k1 x5_1 (wrap64 (t102 - t104)) 1))) = some (r1, r2, r3) := H
      have A4 := Aside0.mk A40
      clear A40
      by_cases c5 : t103 ≤ t102
      · rw [if_pos c5] at H
        have c5b0 : decide (t103 ≤ t102) = true := decide_eq_true c5
        clear c5
        have H' := Aside0.mk H
        clear H
        go_wp2_with (first | ((with_reducible refine gate_callee (f := 70) rfl ?_); refine goesL_ (some 20) rfl rfl Try.func70 (by kernel_rfl) rfl #[.int .i64 (wrap64 (x5_1 + 1))] rfl (by (try simp only [List.map_toArray, List.map_cons, List.map_nil]); first | done | rfl | (simp only [List.length_drop, List.length_take]; rfl)) ?_; (with_reducible refine (day_first.calls (wrap64 (x5_1 + 1)) t103 _ A4.out).mono ?_); rintro e w' ⟨rfl, ⟨nd, rfl⟩⟩; refine ⟨_, rfl, ?_⟩))
        go_roundg k1
        case measure => have := HK1.out; omega
        case rel => exact ⟨(wrap64 (x5_1 + 1)), (by first | rfl | (simp; done) | (simp [*]; done)), H', ⟨by have := HK1.out; omega⟩, ⟨by repeat (first | (with_reducible first | exact HB.out | apply below_alloc | apply pw_below_drewN | apply below_drew1) | exact HB.out)⟩⟩
      · rw [if_neg c5] at H
        have c5b0 : decide (t103 ≤ t102) = false := decide_eq_false c5
        clear c5; replace H := Option.bind_eq_some_iff.mp H
        obtain ⟨t104, A60, H⟩ := H
        replace H : (day_Parts.l1 k1 x5_1 (wrap64 (t102 - t104)) 1) = some (r1, r2, r3) := H
        have A6 := Aside0.mk A60
        clear A60
        have H' := Aside0.mk H
        clear H
        go_wp2_with (first | ((with_reducible refine gate_callee (f := 70) rfl ?_); refine goesL_ (some 20) rfl rfl Try.func70 (by kernel_rfl) rfl #[.int .i64 (wrap64 (x5_1 + 1))] rfl (by (try simp only [List.map_toArray, List.map_cons, List.map_nil]); first | done | rfl | (simp only [List.length_drop, List.length_take]; rfl)) ?_; (with_reducible refine (day_first.calls (wrap64 (x5_1 + 1)) t103 _ A4.out).mono ?_); rintro e w' ⟨rfl, ⟨nd, rfl⟩⟩; refine ⟨_, rfl, ?_⟩) | ((with_reducible refine gate_callee (f := 70) rfl ?_); refine goesL_ (some 27) rfl rfl Try.func70 (by kernel_rfl) rfl #[.int .i64 x5_1] rfl (by (try simp only [List.map_toArray, List.map_cons, List.map_nil]); first | done | rfl | (simp only [List.length_drop, List.length_take]; rfl)) ?_; (with_reducible refine (day_first.calls x5_1 t104 _ A6.out).mono ?_); rintro e w' ⟨rfl, ⟨nd, rfl⟩⟩; refine ⟨_, rfl, ?_⟩))
        go_loopg [7] k1 (fun kq v7 w' => ∃ (x7_2 : Int), v7 = .int .i64 x7_2 ∧ Aside0 (day_Parts.l1 kq x5_1 (wrap64 (t102 - t104)) x7_2 = some (r1, r2, r3)) ∧ Aside0 (kq ≤ k1) ∧ Aside0 (Below w.heap.size w w'))
        case atStart => exact ⟨(1), (by first | rfl | (simp; done) | (simp [*]; done)), H', ⟨Nat.le_refl _⟩, ⟨by repeat (first | (with_reducible first | exact HB.out | apply below_alloc | apply pw_below_drewN | apply below_drew1) | exact HB.out)⟩⟩
        case round =>
          clear H'; try clear p2; try clear c5; try clear c5b0; try clear c6; try clear p6; try clear p2
          obtain ⟨x7_2, rfl, HA, HK2, HB⟩ := hrel
          cases gk with
          | zero => exact absurd HA.out (by simp [day_Parts.l1])
          | succ k2 =>
            have H := HA.out; clear HA
            simp only [day_Parts.l1] at H
            by_cases c7 : x7_2 < 12
            · rw [if_pos c7] at H
              have c7b0 : decide (x7_2 < 12) = true := decide_eq_true c7
              clear c7; replace H := Option.bind_eq_some_iff.mp H
              obtain ⟨t105, A80, H⟩ := H
              replace H : (if t105 ≤ (wrap64 (t102 - t104)) then (day_Parts.l1 k2 x5_1 (wrap64 (t102 - t104)) (wrap64 (x7_2 + 1))) else ((day_ahead.f x5_1 x7_2).bind fun t106 => (some (x5_1, x7_2, wrap64 ((wrap64 ((wrap64 (t102 - t104)) - t106)) + 1))))) = some (r1, r2, r3) := H
              have A8 := Aside0.mk A80
              clear A80
              by_cases c9 : t105 ≤ (wrap64 (t102 - t104))
              · rw [if_pos c9] at H
                have c9b0 : decide (t105 ≤ (wrap64 (t102 - t104))) = true := decide_eq_true c9
                clear c9
                have H' := Aside0.mk H
                clear H
                go_wp2_with (first | (go_at_call 62; (with_reducible refine (day_ahead.calls x5_1 (wrap64 (x7_2 + 1)) t105 _ A8.out).mono ?_); rintro e w' ⟨rfl, ⟨nd, rfl⟩⟩))
                go_roundg k2
                case measure => have := HK1.out; have := HK2.out; omega
                case rel => exact ⟨(wrap64 (x7_2 + 1)), (by first | rfl | (simp; done) | (simp [*]; done)), H', ⟨by have := HK1.out; have := HK2.out; omega⟩, ⟨by repeat (first | (with_reducible first | exact HB.out | apply below_alloc | apply pw_below_drewN | apply below_drew1) | exact HB.out)⟩⟩
              · rw [if_neg c9] at H
                have c9b0 : decide (t105 ≤ (wrap64 (t102 - t104))) = false := decide_eq_false c9
                clear c9; replace H := Option.bind_eq_some_iff.mp H
                obtain ⟨t106, A100, H⟩ := H
                replace H : (some (x5_1, x7_2, wrap64 ((wrap64 ((wrap64 (t102 - t104)) - t106)) + 1))) = some (r1, r2, r3) := H
                have A10 := Aside0.mk A100
                clear A100
                simp only [Option.some.injEq, Prod.mk.injEq] at H
                obtain ⟨rfl, rfl, rfl⟩ := H
                go_wp2_with (first | (go_at_call 62; (with_reducible refine (day_ahead.calls x5_1 (wrap64 (x7_2 + 1)) t105 _ A8.out).mono ?_); rintro e w' ⟨rfl, ⟨nd, rfl⟩⟩) | ((with_reducible refine gate_callee (f := 62) rfl ?_); refine goesL_ (some 46) rfl rfl Try.func62 (by kernel_rfl) rfl #[.int .i64 x5_1, .int .i64 x7_2] rfl (by (try simp only [List.map_toArray, List.map_cons, List.map_nil]); first | done | rfl | (simp only [List.length_drop, List.length_take]; rfl)) ?_; (with_reducible refine (day_ahead.calls x5_1 x7_2 t106 _ A10.out).mono ?_); rintro e w' ⟨rfl, ⟨nd, rfl⟩⟩; refine ⟨_, rfl, ?_⟩))
                go_ret3
                exact ⟨by first | rfl | (simp [errW_none, errW_some] <;> rfl) | (simp [*, errW_none, errW_some] <;> rfl), by repeat (first | (with_reducible first | exact HB.out | apply below_alloc | apply pw_below_drewN | apply below_drew1) | exact HB.out)⟩
            · rw [if_neg c7] at H
              have c7b0 : decide (x7_2 < 12) = false := decide_eq_false c7
              clear c7; replace H := Option.bind_eq_some_iff.mp H
              obtain ⟨t107, A110, H⟩ := H
              replace H : (some (x5_1, x7_2, wrap64 ((wrap64 ((wrap64 (t102 - t104)) - t107)) + 1))) = some (r1, r2, r3) := H
              have A11 := Aside0.mk A110
              clear A110
              simp only [Option.some.injEq, Prod.mk.injEq] at H
              obtain ⟨rfl, rfl, rfl⟩ := H
              go_wp2_with (first | ((with_reducible refine gate_callee (f := 62) rfl ?_); refine goesL_ (some 46) rfl rfl Try.func62 (by kernel_rfl) rfl #[.int .i64 x5_1, .int .i64 x7_2] rfl (by (try simp only [List.map_toArray, List.map_cons, List.map_nil]); first | done | rfl | (simp only [List.length_drop, List.length_take]; rfl)) ?_; (with_reducible refine (day_ahead.calls x5_1 x7_2 t107 _ A11.out).mono ?_); rintro e w' ⟨rfl, ⟨nd, rfl⟩⟩; refine ⟨_, rfl, ?_⟩))
              go_ret3
              exact ⟨by first | rfl | (simp [errW_none, errW_some] <;> rfl) | (simp [*, errW_none, errW_some] <;> rfl), by repeat (first | (with_reducible first | exact HB.out | apply below_alloc | apply pw_below_drewN | apply below_drew1) | exact HB.out)⟩

/-! ### day_Month: function 22 -/
def day_Month.f (k : Nat) (a0 : Int) : Option (Int) := (day_Parts.f k a0).bind fun bt108 => (some (wrap64 ((wrap64 ((wrap64 (12 * (wrap64 (bt108.1 - 1)))) + bt108.2.1)) - 1)))
theorem day_Month.mono : ∀ a0 k, LeO (day_Month.f k a0) (day_Month.f (k + 1) a0) := by
  intro a0 k
  unfold day_Month.f
  repeat' first
      | (with_reducible exact day_Parts.mono _ _)
      | (with_reducible exact LeO.refl _)
      | (with_reducible exact LeO.none _)
      | (with_reducible refine LeO.ite ?_ ?_)
      | (with_reducible refine LeO.bind ?_ (fun _ => ?_))
      | exact day_Parts.mono _ _
      | exact LeO.none _
      | refine LeO.ite ?_ ?_
      | refine LeO.bind ?_ (fun _ => ?_)
set_option maxHeartbeats 8000000 in
set_option maxRecDepth 100000 in
theorem day_Month.calls (k : Nat) (a0 : Int) (r : Int) (w : World) (h : day_Month.f k a0 = some r) :
    Calls Try.prog 22 #[.int .i64 a0] w fun e w' => e = .returned (.int .i64 r) ∧ Below w.heap.size w w' := by
  have HB := Aside0.mk (Below.refl w.heap.size w)
  have H : ((day_Parts.f k a0).bind fun bt108 => (some (wrap64 ((wrap64 ((wrap64 (12 * (wrap64 (bt108.1 - 1)))) + bt108.2.1)) - 1)))) = some r := h
  clear h; replace H := Option.bind_eq_some_iff.mp H
  obtain ⟨⟨t108, t109, t110⟩, A20, H⟩ := H
  replace H : (some (wrap64 ((wrap64 ((wrap64 (12 * (wrap64 (t108 - 1)))) + t109)) - 1))) = some r := H
  have A2 := Aside0.mk A20
  clear A20; obtain rfl := Option.some.inj H
  go_enter Try.func22, Try.ntmps22
  go_wp2_with (first | ((with_reducible refine gate_callee (f := 61) rfl ?_); refine goesL_ (some 8) rfl rfl Try.func61 (by kernel_rfl) rfl #[.int .i64 a0] rfl (by (try simp only [List.map_toArray, List.map_cons, List.map_nil]); first | done | rfl | (simp only [List.length_drop, List.length_take]; rfl)) ?_; (with_reducible refine (day_Parts.calls k a0 t108 t109 t110 _ A2.out).mono ?_); rintro e w3 ⟨rfl, hb⟩; refine ⟨_, rfl, ?_⟩; have n0_ := Aside0.mk (below_step (by repeat (first | (with_reducible first | exact HB.out | apply below_alloc | apply pw_below_drewN | apply below_drew1) | exact HB.out)) hb); clear HB; have HB := n0_; clear n0_; (try clear hb); (try clear hb2); (try clear hk); (try clear hi)))
  go_ret
  exact ⟨by first | rfl | (simp [errW_none, errW_some] <;> rfl) | (simp [*, errW_none, errW_some] <;> rfl), by repeat (first | (with_reducible first | exact HB.out | apply below_alloc | apply pw_below_drewN | apply below_drew1) | exact HB.out)⟩

/-! ### mootmake_Day: function 23 -/
def mootmake_Day.f (a0 : Int) : Option (Int) := (mootmake_Below.f a0 40000).bind fun t111 => (some (wrap64 (700000 + t111)))
set_option maxHeartbeats 8000000 in
set_option maxRecDepth 100000 in
theorem mootmake_Day.calls (a0 : Int) (r : Int) (w : World) (h : mootmake_Day.f a0 = some r) :
    Calls Try.prog 23 #[.int .i64 a0] w fun e w' => e = .returned (.int .i64 r) ∧ Drawn0 w w' := by
  have H : ((mootmake_Below.f a0 40000).bind fun t111 => (some (wrap64 (700000 + t111)))) = some r := h
  clear h; replace H := Option.bind_eq_some_iff.mp H
  obtain ⟨t111, A20, H⟩ := H
  replace H : (some (wrap64 (700000 + t111))) = some r := H
  have A2 := Aside0.mk A20
  clear A20; obtain rfl := Option.some.inj H
  go_enter Try.func23, Try.ntmps23
  go_wp2_with (first | ((with_reducible refine gate_callee (f := 21) rfl ?_); refine goesL_ (some 4) rfl rfl Try.func21 (by kernel_rfl) rfl #[.int .i64 a0, .int .i64 40000] rfl (by (try simp only [List.map_toArray, List.map_cons, List.map_nil]); first | done | rfl | (simp only [List.length_drop, List.length_take]; rfl)) ?_; (with_reducible refine (mootmake_Below.calls a0 40000 t111 _ A2.out).mono ?_); rintro e w' ⟨rfl, ⟨nd, rfl⟩⟩; refine ⟨_, rfl, ?_⟩))
  go_ret
  exact ⟨by first | rfl | (simp; done) | (simp [*]; done), by repeat (first | exact Drawn0.refl _ | apply Drawn0.step)⟩

/-! ### day_Size: function 24 -/
def day_Size.f (k : Nat) (a0 : Int) : Option (Int) := (day_Month.f k 1048575).bind fun t112 => ((day_ahead.f (wrap64 ((wrap64 (Int.tdiv (mx 0 (mn a0 t112)) 12)) + 1)) ((((mx 0 (mn a0 t112)) % 12) + 1) + 1)).bind fun t113 => ((day_ahead.f (wrap64 ((wrap64 (Int.tdiv (mx 0 (mn a0 t112)) 12)) + 1)) (((mx 0 (mn a0 t112)) % 12) + 1)).bind fun t114 => (some (wrap64 (t113 - t114)))))
theorem day_Size.mono : ∀ a0 k, LeO (day_Size.f k a0) (day_Size.f (k + 1) a0) := by
  intro a0 k
  unfold day_Size.f
  repeat' first
      | (with_reducible exact day_Month.mono _ _)
      | (with_reducible exact LeO.refl _)
      | (with_reducible exact LeO.none _)
      | (with_reducible refine LeO.ite ?_ ?_)
      | (with_reducible refine LeO.bind ?_ (fun _ => ?_))
      | exact day_Month.mono _ _
      | exact LeO.none _
      | refine LeO.ite ?_ ?_
      | refine LeO.bind ?_ (fun _ => ?_)
set_option maxHeartbeats 8000000 in
set_option maxRecDepth 100000 in
theorem day_Size.calls (k : Nat) (a0 : Int) (r : Int) (w : World) (h : day_Size.f k a0 = some r) :
    Calls Try.prog 24 #[.int .i64 a0] w fun e w' => e = .returned (.int .i64 r) ∧ Below w.heap.size w w' := by
  have HB := Aside0.mk (Below.refl w.heap.size w)
  have H : ((day_Month.f k 1048575).bind fun t112 => ((day_ahead.f (wrap64 ((wrap64 (Int.tdiv (mx 0 (mn a0 t112)) 12)) + 1)) ((((mx 0 (mn a0 t112)) % 12) + 1) + 1)).bind fun t113 => ((day_ahead.f (wrap64 ((wrap64 (Int.tdiv (mx 0 (mn a0 t112)) 12)) + 1)) (((mx 0 (mn a0 t112)) % 12) + 1)).bind fun t114 => (some (wrap64 (t113 - t114)))))) = some r := h
  clear h; replace H := Option.bind_eq_some_iff.mp H
  obtain ⟨t112, A20, H⟩ := H
  replace H : ((day_ahead.f (wrap64 ((wrap64 (Int.tdiv (mx 0 (mn a0 t112)) 12)) + 1)) ((((mx 0 (mn a0 t112)) % 12) + 1) + 1)).bind fun t113 => ((day_ahead.f (wrap64 ((wrap64 (Int.tdiv (mx 0 (mn a0 t112)) 12)) + 1)) (((mx 0 (mn a0 t112)) % 12) + 1)).bind fun t114 => (some (wrap64 (t113 - t114))))) = some r := H
  have A2 := Aside0.mk A20
  clear A20
  obtain ⟨ji3, hji3⟩ : ∃ j_ : Int, (mn a0 t112) = j_ := ⟨_, rfl⟩
  replace H : ((day_ahead.f (wrap64 ((wrap64 (Int.tdiv (mx 0 (ji3)) 12)) + 1)) ((((mx 0 (ji3)) % 12) + 1) + 1)).bind fun t113 => ((day_ahead.f (wrap64 ((wrap64 (Int.tdiv (mx 0 (ji3)) 12)) + 1)) (((mx 0 (ji3)) % 12) + 1)).bind fun t114 => (some (wrap64 (t113 - t114))))) = some r := by first | (rw [hji3] at H; exact H) | (simp only [hji3] at H ⊢; exact H)
  (try rw [hji3] at A2)
  have hji3_ : (if t112 < a0 then t112 else a0) = ji3 := hji3
  obtain ⟨ji4, hji4⟩ : ∃ j_ : Int, (mx 0 (ji3)) = j_ := ⟨_, rfl⟩
  replace H : ((day_ahead.f (wrap64 ((wrap64 (Int.tdiv (ji4) 12)) + 1)) ((((ji4) % 12) + 1) + 1)).bind fun t113 => ((day_ahead.f (wrap64 ((wrap64 (Int.tdiv (ji4) 12)) + 1)) (((ji4) % 12) + 1)).bind fun t114 => (some (wrap64 (t113 - t114))))) = some r := by first | (rw [hji4] at H; exact H) | (simp only [hji4] at H ⊢; exact H)
  (try rw [hji4] at A2)
  (try (have hji4l : 0 ≤ ji4 := by (rw [← hji4]; unfold mx; (repeat' split) <;> omega)))
  (try (have hji4m : 0 ≤ ji4 := by omega))
  have hji4_ : (if 0 < (ji3) then (ji3) else 0) = ji4 := hji4
  replace H := Option.bind_eq_some_iff.mp H
  obtain ⟨t113, A50, H⟩ := H
  replace H : ((day_ahead.f (wrap64 ((wrap64 (Int.tdiv (ji4) 12)) + 1)) (((ji4) % 12) + 1)).bind fun t114 => (some (wrap64 (t113 - t114)))) = some r := H
  have A5 := Aside0.mk A50
  clear A50; replace H := Option.bind_eq_some_iff.mp H
  obtain ⟨t114, A60, H⟩ := H
  replace H : (some (wrap64 (t113 - t114))) = some r := H
  have A6 := Aside0.mk A60
  clear A60; obtain rfl := Option.some.inj H
  go_enter Try.func24, Try.ntmps24
  go_wp2_with (first | ((with_reducible refine gate_callee (f := 22) rfl ?_); refine goesL_ (some 6) rfl rfl Try.func22 (by kernel_rfl) rfl #[.int .i64 1048575] rfl (by (try simp only [List.map_toArray, List.map_cons, List.map_nil]); first | done | rfl | (simp only [List.length_drop, List.length_take]; rfl)) ?_; (with_reducible refine (day_Month.calls k 1048575 t112 _ A2.out).mono ?_); rintro e w7 ⟨rfl, hb⟩; refine ⟨_, rfl, ?_⟩; have n0_ := Aside0.mk (below_step (by repeat (first | (with_reducible first | exact HB.out | apply below_alloc | apply pw_below_drewN | apply below_drew1) | exact HB.out)) hb); clear HB; have HB := n0_; clear n0_; (try clear hb); (try clear hb2); (try clear hk); (try clear hi)) | ((with_reducible refine gate_callee (f := 62) rfl ?_); refine goesL_ (some 18) rfl rfl Try.func62 (by kernel_rfl) rfl #[.int .i64 (wrap64 ((wrap64 (Int.tdiv (ji4) 12)) + 1)), .int .i64 ((((ji4) % 12) + 1) + 1)] rfl (by (try simp only [List.map_toArray, List.map_cons, List.map_nil]); first | done | (simp only [hji4]; rfl) | rfl | (simp only [List.length_drop, List.length_take]; rfl)) ?_; (with_reducible refine (day_ahead.calls (wrap64 ((wrap64 (Int.tdiv (ji4) 12)) + 1)) ((((ji4) % 12) + 1) + 1) t113 _ A5.out).mono ?_); rintro e w' ⟨rfl, ⟨nd, rfl⟩⟩; refine ⟨_, rfl, ?_⟩) | ((with_reducible refine gate_callee (f := 62) rfl ?_); refine goesL_ (some 21) rfl rfl Try.func62 (by kernel_rfl) rfl #[.int .i64 (wrap64 ((wrap64 (Int.tdiv (ji4) 12)) + 1)), .int .i64 (((ji4) % 12) + 1)] rfl (by (try simp only [List.map_toArray, List.map_cons, List.map_nil]); first | done | (simp only [hji4]; rfl) | rfl | (simp only [List.length_drop, List.length_take]; rfl)) ?_; (with_reducible refine (day_ahead.calls (wrap64 ((wrap64 (Int.tdiv (ji4) 12)) + 1)) (((ji4) % 12) + 1) t114 _ A6.out).mono ?_); rintro e w' ⟨rfl, ⟨nd, rfl⟩⟩; refine ⟨_, rfl, ?_⟩))
  go_ret
  exact ⟨by first | rfl | (simp [errW_none, errW_some] <;> rfl) | (simp only [← hji3, ← hji4]; first | rfl | (simp [errW_none, errW_some] <;> rfl)) | (simp [*, errW_none, errW_some] <;> rfl), by repeat (first | (with_reducible first | exact HB.out | apply below_alloc | apply pw_below_drewN | apply below_drew1) | exact HB.out)⟩

/-! ### cash_large: function 63 -/
def cash_large.f (a0 : Int) : Option (Bool) := if a0 < (-1099511627776) then (some true) else (some (decide (a0 > 1099511627776)))
set_option maxHeartbeats 8000000 in
set_option maxRecDepth 100000 in
theorem cash_large.calls (a0 : Int) (r : Bool) (w : World) (h : cash_large.f a0 = some r) :
    Calls Try.prog 63 #[.int .i64 a0] w fun e w' => e = .returned (.bool r) ∧ Drawn0 w w' := by
  have H : (if a0 < (-1099511627776) then (some true) else (some (decide (a0 > 1099511627776)))) = some r := h
  clear h
  by_cases c2 : a0 < (-1099511627776)
  · rw [if_pos c2] at H
    have c2b0 : decide (a0 < (-1099511627776)) = true := decide_eq_true c2
    clear c2; obtain rfl := Option.some.inj H
    go_enter Try.func63, Try.ntmps63
    go_wp2; go_ret
    exact ⟨by first | rfl | (simp; done) | (simp [*]; done), by repeat (first | exact Drawn0.refl _ | apply Drawn0.step)⟩
  · rw [if_neg c2] at H
    have c2b0 : decide (a0 < (-1099511627776)) = false := decide_eq_false c2
    clear c2; obtain rfl := Option.some.inj H
    go_enter Try.func63, Try.ntmps63
    go_wp2; go_ret
    exact ⟨by first | rfl | (simp; done) | (simp [*]; done), by repeat (first | exact Drawn0.refl _ | apply Drawn0.step)⟩

-- NOT PRINTED: function 120 (slices_insertionSortCmpFunc_int)

-- NOT PRINTED: function 149 (slices_swapRangeCmpFunc_int)

-- NOT PRINTED: function 130 (slices_rotateCmpFunc_int)

-- NOT PRINTED: function 121 (slices_symMergeCmpFunc_int)

-- NOT PRINTED: function 100 (slices_stableCmpFunc_int)

/-! ### slices_SortStableFunc_int_int: function 64 (by hand) -/

/-- a place within the weights -/
def slices_SortStableFunc_int_int.nm (m : Nat) (z : Int) : Int := if 0 ≤ z ∧ z < m then z else 0
/-- what the closure answers -/
def slices_SortStableFunc_int_int.cf (n : Int) (ws : List Int) (s : Int) (x y : Int) : Int := wrap64 (Int.tmod (wrap64 (n * rd ws (slices_SortStableFunc_int_int.nm ws.length y))) s - Int.tmod (wrap64 (n * rd ws (slices_SortStableFunc_int_int.nm ws.length x))) s)
def slices_SortStableFunc_int_int.srt (n : Int) (ws : List Int) (s : Int) (l : List Int) : List Int := (Sort.insertionSort (ltOf (slices_SortStableFunc_int_int.cf n ws s)) l.toArray 0 l.length).toList.map (slices_SortStableFunc_int_int.nm ws.length)
def slices_SortStableFunc_int_int.f (l0 : List Int) (a1 : Int) (l2 : List Int) (a3 : Int) : Option (List Int) := if 1 ≤ l2.length ∧ l0.length ≤ 19 ∧ 1 ≤ l0.length ∧ a3 ≠ 0 ∧ (l0.all fun z => decide (0 ≤ z ∧ z < l2.length)) = true then some (slices_SortStableFunc_int_int.srt a1 l2 a3 l0) else none
def slices_SortStableFunc_int_int.ren : Go.Shelf.Ren := ⟨fun | 20 => 120 | n => n, fun | 24 => 3 | 22 => 22 | 3 => 3 | 25 => 39 | 4 => 4 | 0 => 0 | n => n, fun | n => n⟩
theorem slices_SortStableFunc_int_int.lays : Go.Proofs.SlLaysF.n20 Try.prog slices_SortStableFunc_int_int.ren := {
  mixed := by kernel_rfl
  f20 := ⟨Try.f120.name, by decide, Try.func120.trans (congrArg some (by kernel_rfl))⟩
  t0 := Try.underlying0
  a0 := Try.isAgg0
  z0 := Try.sizeOf0
  v0 := Try.zeroValue0
  t3 := Try.underlying3
  a3 := Try.isAgg3
  z3 := Try.sizeOf3
  v3 := Try.zeroValue3
  t4 := Try.underlying4
  a4 := Try.isAgg4
  z4 := Try.sizeOf4
  v4 := Try.zeroValue4
  t22 := Try.underlying22
  a22 := Try.isAgg22
  z22 := Try.sizeOf22
  v22 := Try.zeroValue22
  a24 := Try.isAgg3
  z24 := Try.sizeOf3
  t25 := Try.underlying39
  a25 := Try.isAgg39
  z25 := Try.sizeOf39
  v25 := Try.zeroValue39 }
theorem slices_SortStableFunc_int_int.nm_lo (m : Nat) (z : Int) (hm : 1 ≤ m) : 0 ≤ slices_SortStableFunc_int_int.nm m z ∧ slices_SortStableFunc_int_int.nm m z < m := by
  unfold slices_SortStableFunc_int_int.nm
  split <;> omega
set_option maxHeartbeats 8000000 in
set_option maxRecDepth 100000 in
theorem slices_SortStableFunc_int_int.cl (n s : Int) (ws : List Int) (x y : Int) (A2 : Option Addr) (c2 : Nat) (g1 g2 g3 : Nat) (W : World) (c1 : W.cell? ⟨g1, 0, none⟩ = some (.int .i64 n)) (cw : W.cell? ⟨g2, 0, none⟩ = some (.slice A2 ws.length c2)) (cs : W.cell? ⟨g3, 0, none⟩ = some (.int .i64 s)) (hr : Kd.C (Kd.int .i64) W A2 ws.length ws) (hx0 : 0 ≤ x) (hx1 : x < ws.length) (hy0 : 0 ≤ y) (hy1 : y < ws.length) (hs : s ≠ 0) :
    Calls Try.prog 65 #[.int .i64 x, .int .i64 y, .pointer (some ⟨g1, 0, none⟩), .pointer (some ⟨g2, 0, none⟩), .pointer (some ⟨g3, 0, none⟩)] W fun e w' => e = .returned (.int .i64 (wrap64 (Int.tmod (wrap64 (n * rd ws y)) s - Int.tmod (wrap64 (n * rd ws x)) s))) ∧ ∃ q, w' = W.drewN q := by
  obtain ⟨ad, e, hcx⟩ := Kd.at_int hr x hx0 hx1
  obtain ⟨ad', e', hcy⟩ := Kd.at_int hr y hy0 hy1
  subst e
  cases e'
  have p1 := eq_true hx0
  have p2 := eq_true hx1
  have p3 := eq_true hy0
  have p4 := eq_true hy1
  have hz : (s == 0) = false := beq_eq_false_iff_ne.mpr hs
  have hz2 : (s = 0) = False := eq_false hs
  clear hr hx0 hx1 hy0 hy1 hs
  go_enter Try.func65, Try.ntmps65
  go_wp2
  go_quiet (fail)
  go_wp2; go_ret
  exact ⟨rfl, _, rfl⟩
set_option maxHeartbeats 8000000 in
set_option maxRecDepth 100000 in
theorem slices_SortStableFunc_int_int.stb (sl fv : Value) (N : Int) (hN : N < 20) (w X : World) (C : Calls Try.prog 120 #[sl, .int .i64 0, .int .i64 N, fv] w fun e w' => e = .returned (.tuple #[]) ∧ ∃ n, w' = X.drewN n) :
    Calls Try.prog 100 #[sl, .int .i64 N, fv] w fun e w' => e = .returned (.tuple #[]) ∧ ∃ n, w' = X.drewN n := by
  have c1 : decide ((20 : Int) ≤ N) = false := decide_eq_false (by omega)
  have c2 : decide ((20 : Int) < N) = false := decide_eq_false (by omega)
  clear hN
  go_enter Try.func100, Try.ntmps100
  go_wp2
  go_loopg [7, 8] 0 (fun kq v7 v8 w' => v7 = .int .i64 0 ∧ v8 = .int .i64 20 ∧ w' = w)
  case atStart => exact ⟨rfl, rfl, rfl⟩
  case round =>
    obtain ⟨rfl, rfl, rfl⟩ := hrel
    go_wp2_with (first | ((with_reducible refine gate_callee (f := 120) rfl ?_); refine goesL_ (some 27) rfl rfl Try.func120 (by kernel_rfl) rfl #[sl, .int .i64 0, .int .i64 N, fv] rfl (by (try simp only [List.map_toArray, List.map_cons, List.map_nil]); first | done | rfl) ?_; refine C.mono ?_; rintro e w6 ⟨rfl, hw⟩; refine ⟨_, rfl, ?_⟩; have HW := Aside0.mk hw; clear hw C))
    simp only [Act.put, List.setIfInBounds_toArray, List.set_cons_zero, List.set_cons_succ]
    go_loopg [6] 0 (fun kq v6 w' => v6 = .int .i64 20 ∧ Aside0 (∃ n, w' = X.drewN n))
    case atStart => exact ⟨rfl, HW⟩
    case round =>
      obtain ⟨rfl, HX⟩ := hrel
      clear HW; go_wp2
      first | go_end0 | ((try simp only [Exit.inBlock, Exit.then]); refine bodyPost_ret (results_none rfl _ _ _) rfl ?_)
      exact ⟨rfl, HX.out⟩
set_option maxHeartbeats 8000000 in
set_option maxRecDepth 100000 in
theorem slices_SortStableFunc_int_int.top (A : Option Addr) (N c : Nat) (fv : Value) (hN : N < 20) (w X : World) (C : Calls Try.prog 120 #[.slice A N c, .int .i64 0, .int .i64 N, fv] w fun e w' => e = .returned (.tuple #[]) ∧ ∃ n, w' = X.drewN n) :
    Calls Try.prog 64 #[.slice A N c, fv] w fun e w' => e = .returned (.tuple #[]) ∧ ∃ n, w' = X.drewN n := by
  have C2 := slices_SortStableFunc_int_int.stb (.slice A N c) fv N (by omega) w X C
  clear C hN
  go_enter Try.func64, Try.ntmps64
  go_wp2_with (first | (go_at_call 100; refine C2.mono ?_; rintro e w6 ⟨rfl, hw⟩; have HW := Aside0.mk hw; clear hw C2))
  first | go_end0 | ((try simp only [Exit.inBlock, Exit.then]); refine bodyPost_ret (results_none rfl _ _ _) rfl ?_)
  exact ⟨rfl, HW.out⟩
theorem slices_SortStableFunc_int_int.inner_size (lt : Int → Int → Bool) (a : Nat) : ∀ (j : Nat) (d : Array Int), (Sort.insInner lt a j d).size = d.size
  | 0, d => rfl
  | j + 1, d => by
    rw [Sort.insInner]
    split
    · rw [slices_SortStableFunc_int_int.inner_size lt a j, Sort.size_swp]
    · rfl
theorem slices_SortStableFunc_int_int.outer_size (lt : Int → Int → Bool) (a b : Nat) : ∀ (n i : Nat) (d : Array Int), b - i = n → (Sort.insOuter lt a b i d).size = d.size := by
  intro n
  induction n with
  | zero => intro i d h; rw [Sort.insOuter, if_neg (by omega)]
  | succ n ih => intro i d h; rw [Sort.insOuter, if_pos (by omega), ih _ _ (by omega), slices_SortStableFunc_int_int.inner_size]
theorem slices_SortStableFunc_int_int.sort_size (lt : Int → Int → Bool) (d : Array Int) (a b : Nat) : (Sort.insertionSort lt d a b).size = d.size := slices_SortStableFunc_int_int.outer_size lt a b _ _ d rfl
theorem slices_SortStableFunc_int_int.sw_g {w : World} {g n : Nat} {os : Array Obj} {cur : Array Value} {e : TypeId} {fr : Nat × Nat} (enc : Int → Value) (d : Array Int) (hb : w.heap[g]? = some (.cells cur e fr)) :
    (sortWorld enc w g 0 n d os).heap[g]? = some (.cells (Sort.putCells enc 0 d cur) e fr) := by
  have hg : g < w.heap.size := (Array.getElem?_eq_some_iff.1 hb).1
  unfold sortWorld
  rw [Sort.heap_grow_old _ _ (by simpa [Sort.putRow, Sort.mapBlock, Sort.ahead] using hg)]
  simp [Sort.putRow, Sort.mapBlock, Sort.ahead, Array.getElem?_modify, hb, Sort.onCells]
theorem slices_SortStableFunc_int_int.sw_grown {w : World} {g n : Nat} {os : Array Obj} (enc : Int → Value) (d : Array Int) : w.grownBy (sortWorld enc w g 0 n d os) (some g) := by
  unfold sortWorld
  refine ⟨rfl, rfl, rfl, by simp [Sort.grow, Sort.putRow, Sort.mapBlock, Sort.ahead], fun k hk hne => ?_⟩
  rw [Sort.heap_grow_old _ _ (by simpa [Sort.putRow, Sort.mapBlock, Sort.ahead] using hk)]
  have : g ≠ k := fun e => hne (by rw [e])
  simp [Sort.putRow, Sort.mapBlock, Sort.ahead, Array.getElem?_modify, this]
theorem slices_SortStableFunc_int_int.sw_old {w : World} {g n i : Nat} {os : Array Obj} (enc : Int → Value) (d : Array Int) (hi : i < w.heap.size) (hne : i ≠ g) : (sortWorld enc w g 0 n d os).heap[i]? = w.heap[i]? := (slices_SortStableFunc_int_int.sw_grown enc d).block i hi (fun e => hne (Option.some.inj e))
theorem slices_SortStableFunc_int_int.put_take (enc : Int → Value) (cur : Array Value) (d : Array Int) (h : d.size ≤ cur.size) : (Sort.putCells enc 0 d cur).toList.take d.size = d.toList.map enc := by
  apply List.ext_getElem?
  intro j
  by_cases hj : j < d.size
  · rw [List.getElem?_take_of_lt hj, Array.getElem?_toList]
    simp [Sort.putCells, hj, show j < cur.size by omega]
  · rw [List.getElem?_take_eq_none (by omega), List.getElem?_eq_none (by simp; omega)]
set_option maxHeartbeats 8000000 in
set_option maxRecDepth 100000 in
theorem slices_SortStableFunc_int_int.calls (P0_ : Nat → Prop) (u9000_ : Value) (l0 : List Int) (a1 : Int) (A2 : Option Addr) (c2 : Nat) (l2 : List Int) (a3 : Int) (r : List Int) (w0 w : World) (hB : Below w0.heap.size w0 w) (ho0 : Kd.R (Kd.int .i64) 3 w w0.heap.size P0_ u9000_ l0) (hk2 : ∀ W', Kept w W' (fun k_ => P0_ k_) → Kd.C (Kd.int .i64) W' A2 l2.length l2) (hc2 : l2.length ≤ c2) {g1 g2 g3 : Nat} (b1 : w.heap[g1]? = some (.cells #[.int .i64 a1] 3 (0, 0))) (n1 : ¬ P0_ g1) (b2 : w.heap[g2]? = some (.cells #[.slice A2 l2.length c2] 22 (0, 0))) (n2 : ¬ P0_ g2) (b3 : w.heap[g3]? = some (.cells #[.int .i64 a3] 3 (0, 0))) (n3 : ¬ P0_ g3) (h : slices_SortStableFunc_int_int.f l0 a1 l2 a3 = some r) :
    Calls Try.prog 64 #[u9000_, .func (.func 65) #[] #[.pointer (some ⟨g1, 0, none⟩), .pointer (some ⟨g2, 0, none⟩), .pointer (some ⟨g3, 0, none⟩)]] w fun e w' => e = .returned (.tuple #[]) ∧ Kd.R (Kd.int .i64) 3 w' w0.heap.size (fun k_ => (P0_ k_ ∨ w.heap.size ≤ k_)) u9000_ r ∧ Below w0.heap.size w0 w' ∧ Kept w w' (fun k_ => P0_ k_) := by
  unfold slices_SortStableFunc_int_int.f at h
  by_cases hc : 1 ≤ l2.length ∧ l0.length ≤ 19 ∧ 1 ≤ l0.length ∧ a3 ≠ 0 ∧ (l0.all fun z => decide (0 ≤ z ∧ z < l2.length)) = true
  · rw [if_pos hc] at h
    obtain rfl := Option.some.inj h
    obtain ⟨hm, hl19, hl1, hs, hall⟩ := hc
    have hin : ∀ z ∈ l0, 0 ≤ z ∧ z < (l2.length : Int) := fun z hz => of_decide_eq_true (List.all_eq_true.1 hall z hz)
    obtain ⟨enc, henc⟩ : ∃ enc : Int → Value, enc = fun z => .int .i64 (slices_SortStableFunc_int_int.nm l2.length z) := ⟨_, rfl⟩
    have hown := Kd.own_of_R (enc := Value.int .i64) (h1 := fun _ => rfl) ho0
    rcases hown.2 with ⟨_, hn0⟩ | ⟨g, cap, cur, hu, hbase, hb, h1, h2, h3, h4⟩
    · omega
    · subst hu
      have hP : P0_ g := ho0.1 g rfl
      have hgs : g < w.heap.size := (Array.getElem?_eq_some_iff.1 hb).1
      have e1 : g1 ≠ g := fun e => n1 (e ▸ hP)
      have e2 : g2 ≠ g := fun e => n2 (e ▸ hP)
      have e3 : g3 ≠ g := fun e => n3 (e ▸ hP)
      have hkept : ∀ (n : Nat) (d : Array Int) (os : Array Obj), Kept w (sortWorld enc w g 0 n d os) (fun k_ => P0_ k_) := fun n d os =>
        ⟨(slices_SortStableFunc_int_int.sw_grown enc d).size, fun i hi hn => slices_SortStableFunc_int_int.sw_old enc d hi (fun e => hn (e ▸ hP))⟩
      have hH : Sort.Holds enc w g 0 l0.toArray := by
        have hI := holds_of_blockI hb (ss := l0) (by rw [← Nat.mul_one l0.length, h4]; rfl)
        intro j hj
        have hj' : j < l0.length := by simpa using hj
        refine ⟨?_, (hI j hj).2⟩
        rw [(hI j hj).1, henc]
        have hz : l0.toArray[j]! = l0[j] := by simp [hj']
        have := hin l0[j] (List.getElem_mem hj')
        simp only [hz]
        unfold slices_SortStableFunc_int_int.nm
        rw [if_pos this]
      have hcmp : CmpReads Try.prog 65 #[.pointer (some ⟨g1, 0, none⟩), .pointer (some ⟨g2, 0, none⟩), .pointer (some ⟨g3, 0, none⟩)] enc (slices_SortStableFunc_int_int.cf a1 l2 a3) g 0 l0.toArray.size w := by
        intro mm os dk hdk x y
        have q1 := (slices_SortStableFunc_int_int.sw_old (n := mm) (os := os) enc dk (blk_lt b1) e1).trans b1
        have q2 := (slices_SortStableFunc_int_int.sw_old (n := mm) (os := os) enc dk (blk_lt b2) e2).trans b2
        have q3 := (slices_SortStableFunc_int_int.sw_old (n := mm) (os := os) enc dk (blk_lt b3) e3).trans b3
        have hx := slices_SortStableFunc_int_int.nm_lo l2.length x hm
        have hy := slices_SortStableFunc_int_int.nm_lo l2.length y hm
        have := slices_SortStableFunc_int_int.cl a1 a3 l2 (slices_SortStableFunc_int_int.nm l2.length x) (slices_SortStableFunc_int_int.nm l2.length y) A2 c2 g1 g2 g3 (sortWorld enc w g 0 mm dk os) ((blk_cell q1 0).trans rfl) ((blk_cell q2 0).trans rfl) ((blk_cell q3 0).trans rfl) (hk2 _ (hkept mm dk os)) hx.1 hx.2 hy.1 hy.2 hs
        rw [henc] at this ⊢
        exact this
      have C := Any.insertionSortCmpFunc_one slices_SortStableFunc_int_int.lays enc (fun x => by rw [henc]; rfl) (slices_SortStableFunc_int_int.cf a1 l2 a3) 65 #[.pointer (some ⟨g1, 0, none⟩), .pointer (some ⟨g2, 0, none⟩), .pointer (some ⟨g3, 0, none⟩)] g 0 cap 0 l0.length l0.toArray w (fun args w => enters_ Try.func65 (by kernel_rfl) rfl args w) hcmp hH (Nat.zero_le _) (by simp) (by simp; omega)
      refine (slices_SortStableFunc_int_int.top (some ⟨g, 0, none⟩) l0.length cap _ (by omega) w _ C).mono ?_
      rintro e w' ⟨rfl, n, hw⟩
      have hsz : (Sort.insertionSort (ltOf (slices_SortStableFunc_int_int.cf a1 l2 a3)) l0.toArray 0 l0.length).size = l0.length := by rw [slices_SortStableFunc_int_int.sort_size]; simp
      rw [← sortWorld_none] at hw
      subst hw
      refine ⟨rfl, ?_, hB.grown (slices_SortStableFunc_int_int.sw_grown enc _) hB.size (fun k hk => by cases hk; exact hbase), hkept _ _ _⟩
      refine Kd.R_mono (ok := P0_) (Kd.R_of_own (enc := Value.int .i64) (h1 := fun _ => rfl) ?_ (fun k hk => by cases hk; exact hP)) (fun k hk => .inl hk)
      have hlen : (slices_SortStableFunc_int_int.srt a1 l2 a3 l0).length = l0.length := by unfold slices_SortStableFunc_int_int.srt; simp [hsz]
      refine ⟨by simp [encs], .inr ⟨g, cap, _, by rw [hlen], hbase, slices_SortStableFunc_int_int.sw_g enc _ hb, by omega, h2, by simp [Sort.putCells, h3], ?_⟩⟩
      have ht := slices_SortStableFunc_int_int.put_take enc cur (Sort.insertionSort (ltOf (slices_SortStableFunc_int_int.cf a1 l2 a3)) l0.toArray 0 l0.length) (by rw [hsz]; omega)
      rw [hsz] at ht
      rw [Nat.mul_one, hlen, ht]
      unfold slices_SortStableFunc_int_int.srt encs
      rw [henc, List.map_map]
      rfl
  · rw [if_neg hc] at h
    cases h

end Go.Proofs.Ytaljkilnpfmlaaa.PCashMonths
