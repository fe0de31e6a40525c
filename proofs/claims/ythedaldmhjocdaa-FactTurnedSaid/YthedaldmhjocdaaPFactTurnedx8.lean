/- The machine side of a law, written by a program of this session (wip/mp). -/
import Derived.Test.YthedaldmhjocdaaPFactTurnedx0
import Derived.Test.YthedaldmhjocdaaPFactTurnedx1
import Derived.Test.YthedaldmhjocdaaPFactTurnedx2
import Derived.Test.YthedaldmhjocdaaPFactTurnedx3
import Derived.Test.YthedaldmhjocdaaPFactTurnedx4
import Derived.Test.YthedaldmhjocdaaPFactTurnedx5
import Derived.Test.YthedaldmhjocdaaPFactTurnedx6
import Derived.Test.YthedaldmhjocdaaPFactTurnedx7
import Derived.Test.YthedaldmhjocdaaIns
namespace Go.Proofs.Ythedaldmhjocdaa.PFactTurned
open Go.RowKit Go.Proofs.YthedaldmhjocdaaW.PrintWords Go.Proofs.YthedaldmhjocdaaW.PrintLast Go.Proofs.YthedaldmhjocdaaW.PrintMore
attribute [local go_sem] max2_int min2_int max_two min_two max_three min_three max_four min_four   -- for this text's walks alone
set_option linter.unusedVariables false
set_option linter.unusedSimpArgs false

attribute [local go_sem high] eqA50 eqA52
attribute [local go_sem] fld50_1
/-! ### fact_Span: function 39 -/
def fact_Span.l0 : Nat → List (S52) → List (S52) → Int → Int → Option (Bool)
  | 0, _, _, _, _ => none
  | k + 1, x0, x1, x12, x13 => if x13 < x12 then (if 0 ≤ x13 then (if x13 < (x0.length : Int) then (if x13 < (x1.length : Int) then (if (!(((rd_T52 x0 x13).f0) == ((rd_T52 x1 x13).f0)) || (!(((rd_T52 x0 x13).f1) == ((rd_T52 x1 x13).f1)) || ((!(((rd_T52 x0 x13).f2.f0) == ((rd_T52 x1 x13).f2.f0)) || (!(((rd_T52 x0 x13).f2.f1) == ((rd_T52 x1 x13).f2.f1))))))) = true then (some false) else (fact_Span.l0 k x0 x1 x12 (wrap64 (x13 + 1)))) else (none)) else (none)) else (none)) else (some true)
def fact_Span.f (k : Nat) (l0 : List (S52)) (l1 : List (S52)) : Option (Bool) := if (l0.length : Int) = (l1.length : Int) then (fact_Span.l0 k l0 l1 (l0.length : Int) 0) else (some false)
theorem fact_Span.mono_l : ∀ k, (∀ y0 y1 y2 y3, LeO (fact_Span.l0 k y0 y1 y2 y3) (fact_Span.l0 (k + 1) y0 y1 y2 y3))
  | 0 => fun _ _ _ _ r h => by simp [fact_Span.l0] at h
  | k + 1 => by
    have ih0 := fact_Span.mono_l k
    · intro y0 y1 y2 y3
      unfold fact_Span.l0
      repeat' first
      | (with_reducible exact ih0 _ _ _ _)
      | (with_reducible exact LeO.refl _)
      | (with_reducible exact LeO.none _)
      | (with_reducible refine LeO.ite ?_ ?_)
      | (with_reducible refine LeO.bind ?_ (fun _ => ?_))
      | exact ih0 _ _ _ _
      | exact LeO.none _
      | refine LeO.ite ?_ ?_
      | refine LeO.bind ?_ (fun _ => ?_)
theorem fact_Span.mono : ∀ a0 a1 k, LeO (fact_Span.f k a0 a1) (fact_Span.f (k + 1) a0 a1) := by
  intro a0 a1 k
  have ih0 := fact_Span.mono_l k
  unfold fact_Span.f
  repeat' first
      | (with_reducible exact ih0 _ _ _ _)
      | (with_reducible exact LeO.refl _)
      | (with_reducible exact LeO.none _)
      | (with_reducible refine LeO.ite ?_ ?_)
      | (with_reducible refine LeO.bind ?_ (fun _ => ?_))
      | exact ih0 _ _ _ _
      | exact LeO.none _
      | refine LeO.ite ?_ ?_
      | refine LeO.bind ?_ (fun _ => ?_)
set_option maxHeartbeats 8000000 in
set_option maxRecDepth 100000 in
theorem fact_Span.calls (k : Nat) (A0 : Option Addr) (c0 : Nat) (l0 : List (S52)) (A1 : Option Addr) (c1 : Nat) (l1 : List (S52)) (r : Bool) (w : World) (hr0 : Kd.C k52 w A0 l0.length l0) (hc0 : l0.length ≤ c0) (hr1 : Kd.C k52 w A1 l1.length l1) (hc1 : l1.length ≤ c1) (h : fact_Span.f k l0 l1 = some r) :
    Calls Try.prog 39 #[.slice A0 l0.length c0, .slice A1 l1.length c1] w fun e w' => e = .returned (.bool r) ∧ Drawn0 w w' := by
  have hu52 := Try.underlying52
  have HR0 := Aside0.mk hr0
  have HC0 := Aside0.mk hc0
  clear hr0 hc0
  have HR1 := Aside0.mk hr1
  have HC1 := Aside0.mk hc1
  clear hr1 hc1
  have H : (if (l0.length : Int) = (l1.length : Int) then (fact_Span.l0 k l0 l1 (l0.length : Int) 0) else (some false)) = some r := h
  clear h
  by_cases c3 : (l0.length : Int) = (l1.length : Int)
  · rw [if_pos c3] at H
    have c3b0 : ((l0.length : Int) == (l1.length : Int)) = true := beq_iff_eq.mpr c3
    have c3b1 : ((l0.length : Int) != (l1.length : Int)) = false := bne_eq_false_iff_eq.mpr c3
    have c3b2 : (l0.length == l1.length) = true := by first | simpa using c3 | (simp at c3 ⊢; omega)
    clear c3
    have H' := Aside0.mk H
    clear H
    go_enter Try.func39, Try.ntmps39
    go_wp2
    repeat (go_quiet (fail); try go_wp2)
    go_loopg [13] k (fun kq v13 w' => ∃ (x13_1 : Int), v13 = .int .i64 x13_1 ∧ Aside0 (fact_Span.l0 kq l0 l1 (l0.length : Int) x13_1 = some r) ∧ Aside0 (kq ≤ k) ∧ Drawn0 w w')
    case atStart => exact ⟨(0), (by first | rfl | (simp; done) | (simp [*]; done)), H', ⟨Nat.le_refl _⟩, by repeat (first | exact Drawn0.refl _ | apply Drawn0.step)⟩
    case round =>
      clear H'
      try clear c1
      try clear p2
      try clear c3
      try clear c3b0
      try clear c3b1
      try clear c3b2
      obtain ⟨x13_1, rfl, HA, HK1, ⟨m1, rfl⟩⟩ := hrel
      cases gk with
      | zero => exact absurd HA.out (by simp [fact_Span.l0])
      | succ k1 =>
        have H := HA.out
        clear HA
        simp only [fact_Span.l0] at H
        by_cases c4 : x13_1 < (l0.length : Int)
        · rw [if_pos c4] at H
          have c4b0 : decide (x13_1 < (l0.length : Int)) = true := decide_eq_true c4
          clear c4
          by_cases c5 : 0 ≤ x13_1
          · rw [if_pos c5] at H
            have c5b0 : decide (0 ≤ x13_1) = true := decide_eq_true c5
            clear c5
            by_cases c6 : x13_1 < (l0.length : Int)
            · rw [if_pos c6] at H
              have c6b0 : decide (x13_1 < (l0.length : Int)) = true := decide_eq_true c6
              clear c6
              by_cases c7 : x13_1 < (l1.length : Int)
              · rw [if_pos c7] at H
                have c7b0 : decide (x13_1 < (l1.length : Int)) = true := decide_eq_true c7
                clear c7
                by_cases c8 : (!(((rd_T52 l0 x13_1).f0) == ((rd_T52 l1 x13_1).f0)) || (!(((rd_T52 l0 x13_1).f1) == ((rd_T52 l1 x13_1).f1)) || ((!(((rd_T52 l0 x13_1).f2.f0) == ((rd_T52 l1 x13_1).f2.f0)) || (!(((rd_T52 l0 x13_1).f2.f1) == ((rd_T52 l1 x13_1).f2.f1))))))) = true
                · rw [if_pos c8] at H
                  have c8b0 : (!(((rd_T52 l0 x13_1).f0) == ((rd_T52 l1 x13_1).f0)) || (!(((rd_T52 l0 x13_1).f1) == ((rd_T52 l1 x13_1).f1)) || ((!(((rd_T52 l0 x13_1).f2.f0) == ((rd_T52 l1 x13_1).f2.f0)) || (!(((rd_T52 l0 x13_1).f2.f1) == ((rd_T52 l1 x13_1).f2.f1))))))) = true := c8
                  clear c8
                  obtain rfl := Option.some.inj H
                  have p168 : 0 ≤ (x13_1 : Int) := of_decide_eq_true (by first | (with_reducible assumption) | assumption)
                  have q168 : x13_1 < (l0.length : Int) := of_decide_eq_true (by first | (with_reducible assumption) | assumption)
                  obtain ⟨ad168, e168, hx168_0, hx168_1, hx168_2, hx168_3⟩ := at_T52 HR0.out x13_1 p168 q168
                  cases e168
                  replace p168 := eq_true p168
                  replace q168 := eq_true q168
                  have p169 : 0 ≤ (x13_1 : Int) := of_decide_eq_true (by first | (with_reducible assumption) | assumption)
                  have q169 : x13_1 < (l1.length : Int) := of_decide_eq_true (by first | (with_reducible assumption) | assumption)
                  obtain ⟨ad169, e169, hx169_0, hx169_1, hx169_2, hx169_3⟩ := at_T52 HR1.out x13_1 p169 q169
                  cases e169
                  replace p169 := eq_true p169
                  replace q169 := eq_true q169
                  go_wp2
                  repeat (go_quiet (fail); try go_wp2)
                  go_ret
                  exact ⟨by first | rfl | (simp; done) | (simp [*]; done), by repeat (first | exact Drawn0.refl _ | apply Drawn0.step)⟩
                · rw [if_neg c8] at H
                  have c8b0 : (!(((rd_T52 l0 x13_1).f0) == ((rd_T52 l1 x13_1).f0)) || (!(((rd_T52 l0 x13_1).f1) == ((rd_T52 l1 x13_1).f1)) || ((!(((rd_T52 l0 x13_1).f2.f0) == ((rd_T52 l1 x13_1).f2.f0)) || (!(((rd_T52 l0 x13_1).f2.f1) == ((rd_T52 l1 x13_1).f2.f1))))))) = false := by simpa using c8
                  clear c8
                  have H' := Aside0.mk H
                  clear H
                  have p168 : 0 ≤ (x13_1 : Int) := of_decide_eq_true (by first | (with_reducible assumption) | assumption)
                  have q168 : x13_1 < (l0.length : Int) := of_decide_eq_true (by first | (with_reducible assumption) | assumption)
                  obtain ⟨ad168, e168, hx168_0, hx168_1, hx168_2, hx168_3⟩ := at_T52 HR0.out x13_1 p168 q168
                  cases e168
                  replace p168 := eq_true p168
                  replace q168 := eq_true q168
                  have p169 : 0 ≤ (x13_1 : Int) := of_decide_eq_true (by first | (with_reducible assumption) | assumption)
                  have q169 : x13_1 < (l1.length : Int) := of_decide_eq_true (by first | (with_reducible assumption) | assumption)
                  obtain ⟨ad169, e169, hx169_0, hx169_1, hx169_2, hx169_3⟩ := at_T52 HR1.out x13_1 p169 q169
                  cases e169
                  replace p169 := eq_true p169
                  replace q169 := eq_true q169
                  go_wp2
                  repeat (go_quiet (fail); try go_wp2)
                  go_roundg k1
                  case measure => have := HK1.out; omega
                  case rel => exact ⟨(wrap64 (x13_1 + 1)), (by first | rfl | (simp; done) | (simp [*]; done)), H', ⟨by have := HK1.out; omega⟩, by repeat (first | exact Drawn0.refl _ | apply Drawn0.step)⟩
              · rw [if_neg c7] at H
                exact absurd H (by simp)
            · rw [if_neg c6] at H
              exact absurd H (by simp)
          · rw [if_neg c5] at H
            exact absurd H (by simp)
        · rw [if_neg c4] at H
          have c4b0 : decide (x13_1 < (l0.length : Int)) = false := decide_eq_false c4
          clear c4
          obtain rfl := Option.some.inj H
          go_wp2
          repeat (go_quiet (fail); try go_wp2)
          go_ret
          exact ⟨by first | rfl | (simp; done) | (simp [*]; done), by repeat (first | exact Drawn0.refl _ | apply Drawn0.step)⟩
  · rw [if_neg c3] at H
    have c3b0 : ((l0.length : Int) == (l1.length : Int)) = false := beq_eq_false_iff_ne.mpr c3
    have c3b1 : ((l0.length : Int) != (l1.length : Int)) = true := bne_iff_ne.mpr c3
    have c3b2 : (l0.length == l1.length) = false := by first | simpa using c3 | (simp at c3 ⊢; omega)
    obtain rfl := Option.some.inj H
    go_enter Try.func39, Try.ntmps39
    go_wp2
    repeat (go_quiet (fail); try go_wp2)
    go_ret
    exact ⟨by first | rfl | (simp; done) | (simp [*]; done), by repeat (first | exact Drawn0.refl _ | apply Drawn0.step)⟩
/-! ### mootkeep1_FactTurned: function 9 -/
def mootkeep1_FactTurned.l0 : Nat → Int → Int → List (S77) → List (S77) → List (S77) → Int → Int → Option (Bool)
  | 0, _, _, _, _, _, _, _ => none
  | k + 1, x1, x2, x9, x10, x16, x17, x18 => if x18 < x17 then (if 0 ≤ x18 then (if x18 < (x16.length : Int) then (if 0 ≤ (rd_T77 x16 x18).f5 ∧ (rd_T77 x16 x18).f5 ≤ 1000 then (if (x9.any fun y_ => y_.f5 == (rd_T77 x16 x18).f5) = true then (mootkeep1_FactTurned.l0 k x1 x2 x9 x10 x16 x17 (wrap64 (x18 + 1))) else ((some (([(⟨(rd_T77 x16 x18).f0, (rd_T77 x16 x18).f1, (⟨(rd_T77 x16 x18).f2.f0, (rd_T77 x16 x18).f2.f1⟩ : S50), (rd_T77 x16 x18).f3, (rd_T77 x16 x18).f4, (rd_T77 x16 x18).f5⟩ : S77)] : List (S77)) : List (S77))).bind fun y175 => (if x9.length + y175.length < 2199023255552 then ((slices_Insert.one.f x10 0 (([(⟨(rd_T77 x16 x18).f0, (rd_T77 x16 x18).f1, (⟨(rd_T77 x16 x18).f2.f0, (rd_T77 x16 x18).f2.f1⟩ : S50), (rd_T77 x16 x18).f3, (rd_T77 x16 x18).f4, (rd_T77 x16 x18).f5⟩ : S77)] : List (S77)))).bind fun bt184 => (mootkeep1_FactTurned.l0 k x1 x2 (x9 ++ y175) bt184.1 x16 x17 (wrap64 (x18 + 1)))) else (none)))) else (none)) else (none)) else (none)) else ((mootmake_Below.f x1 100).bind fun t188 => ((mootmake_Below.f x2 22).bind fun t189 => ((mootkeep1_told.f k).bind fun t190 => (if t190 = true then ((fact_At.f k x9 1 (⟨#[97]⟩ : ByteArray) t188 t189).bind fun bt191 => ((fact_At.f k x10 1 (⟨#[97]⟩ : ByteArray) t188 t189).bind fun bt193 => (if (bt191.1 == bt193.1 && (bt191.2 == bt193.2)) = true then ((fact_Line.f k x9 0 (⟨#[98]⟩ : ByteArray) t189).bind fun t195 => ((fact_Line.f k x10 0 (⟨#[98]⟩ : ByteArray) t189).bind fun t198 => ((fact_Span.f k t195 t198).bind fun t201 => (some t201)))) else (none)))) else (none)))))
def mootkeep1_FactTurned.f (k : Nat) (l0 : List Int) (a1 : Int) (a2 : Int) : Option (Bool) := (mootkeep1_facts.f k l0).bind fun t170 => (mootkeep1_FactTurned.l0 k a1 a2 ([] : List (S77)) ([] : List (S77)) t170 (t170.length : Int) 0)
theorem mootkeep1_FactTurned.mono_l : ∀ k, (∀ y0 y1 y2 y3 y4 y5 y6, LeO (mootkeep1_FactTurned.l0 k y0 y1 y2 y3 y4 y5 y6) (mootkeep1_FactTurned.l0 (k + 1) y0 y1 y2 y3 y4 y5 y6))
  | 0 => fun _ _ _ _ _ _ _ r h => by simp [mootkeep1_FactTurned.l0] at h
  | k + 1 => by
    have ih0 := mootkeep1_FactTurned.mono_l k
    · intro y0 y1 y2 y3 y4 y5 y6
      unfold mootkeep1_FactTurned.l0
      repeat' first
      | (with_reducible exact ih0 _ _ _ _ _ _ _)
      | (with_reducible exact fact_At.mono _ _ _ _ _ _)
      | (with_reducible exact fact_Line.mono _ _ _ _ _)
      | (with_reducible exact fact_Span.mono _ _ _)
      | (with_reducible exact mootkeep1_facts.mono _ _)
      | (with_reducible exact mootkeep1_told.mono _)
      | (with_reducible exact LeO.refl _)
      | (with_reducible exact LeO.none _)
      | (with_reducible refine LeO.ite ?_ ?_)
      | (with_reducible refine LeO.bind ?_ (fun _ => ?_))
      | exact ih0 _ _ _ _ _ _ _
      | exact fact_At.mono _ _ _ _ _ _
      | exact fact_Line.mono _ _ _ _ _
      | exact fact_Span.mono _ _ _
      | exact mootkeep1_facts.mono _ _
      | exact mootkeep1_told.mono _
      | exact LeO.none _
      | refine LeO.ite ?_ ?_
      | refine LeO.bind ?_ (fun _ => ?_)
theorem mootkeep1_FactTurned.mono : ∀ a0 a1 a2 k, LeO (mootkeep1_FactTurned.f k a0 a1 a2) (mootkeep1_FactTurned.f (k + 1) a0 a1 a2) := by
  intro a0 a1 a2 k
  have ih0 := mootkeep1_FactTurned.mono_l k
  unfold mootkeep1_FactTurned.f
  repeat' first
      | (with_reducible exact ih0 _ _ _ _ _ _ _)
      | (with_reducible exact fact_At.mono _ _ _ _ _ _)
      | (with_reducible exact fact_Line.mono _ _ _ _ _)
      | (with_reducible exact fact_Span.mono _ _ _)
      | (with_reducible exact mootkeep1_facts.mono _ _)
      | (with_reducible exact mootkeep1_told.mono _)
      | (with_reducible exact LeO.refl _)
      | (with_reducible exact LeO.none _)
      | (with_reducible refine LeO.ite ?_ ?_)
      | (with_reducible refine LeO.bind ?_ (fun _ => ?_))
      | exact ih0 _ _ _ _ _ _ _
      | exact fact_At.mono _ _ _ _ _ _
      | exact fact_Line.mono _ _ _ _ _
      | exact fact_Span.mono _ _ _
      | exact mootkeep1_facts.mono _ _
      | exact mootkeep1_told.mono _
      | exact LeO.none _
      | refine LeO.ite ?_ ?_
      | refine LeO.bind ?_ (fun _ => ?_)
def mootkeep1_FactTurned.T9 : Bool × List (List Nat × List Nat) := (true, [([], []), ([], []), ([1], [1]), ([0, 2], [0, 2]), ([], []), ([], []), ([5], [5]), ([4, 6, 3], [4, 6]), ([3, 7, 0, 1, 2, 3], [0, 3]), ([7, 8, 0, 1, 2, 3, 4, 5, 6, 7, 8], [4, 7])])
def mootkeep1_FactTurned.B9 : List Nat := [0, 0, 2, 7, 0, 0, 32, 127, 255, 511]
theorem mootkeep1_FactTurned.tab9 : rtab .any (opsOf Try.f9 9) = mootkeep1_FactTurned.T9 := by kernel_rfl
theorem mootkeep1_FactTurned.bits9 : waitsOk mootkeep1_FactTurned.T9.2 mootkeep1_FactTurned.B9 = true := by kernel_rfl
set_option maxHeartbeats 8000000 in
set_option maxRecDepth 100000 in
theorem mootkeep1_FactTurned.calls (k : Nat) (A0 : Option Addr) (c0 : Nat) (l0 : List Int) (a1 : Int) (a2 : Int) (r : Bool) (w : World) (hr0 : Kd.C (Kd.int .i64) w A0 l0.length l0) (hc0 : l0.length ≤ c0) (h : mootkeep1_FactTurned.f k l0 a1 a2 = some r) :
    Calls Try.prog 9 #[.slice A0 l0.length c0, .int .i64 a1, .int .i64 a2] w fun e w' => e = .returned (.bool r) ∧ Below w.heap.size w w' := by
  have hu77 := Try.underlying77
  have HR0 := Aside0.mk hr0
  have HC0 := Aside0.mk hc0
  clear hr0 hc0
  have HB := Aside0.mk (Below.refl w.heap.size w)
  have H : ((mootkeep1_facts.f k l0).bind fun t170 => (mootkeep1_FactTurned.l0 k a1 a2 ([] : List (S77)) ([] : List (S77)) t170 (t170.length : Int) 0)) = some r := h
  clear h
  replace H := Option.bind_eq_some_iff.mp H
  obtain ⟨t170, A40, H⟩ := H
  replace H : (mootkeep1_FactTurned.l0 k a1 a2 ([] : List (S77)) ([] : List (S77)) t170 (t170.length : Int) 0) = some r := H
  have A4 := Aside0.mk A40
  clear A40
  have H' := Aside0.mk H
  clear H
  have hmm := @run_makeMap Try.prog
  go_enter Try.func9, Try.ntmps9
  go_wp2_with (first | ((with_reducible refine gate_callee (f := 33) rfl ?_); refine goesL_ (some 14) rfl rfl Try.func33 (by kernel_rfl) rfl #[.slice A0 l0.length c0] rfl (by (try simp only [List.map_toArray, List.map_cons, List.map_nil]); first | done | rfl | (simp only [List.length_drop, List.length_take]; rfl)) ?_; (with_reducible refine (mootkeep1_facts.calls k _ _ l0 t170 _ ?side1 ?side2 A4.out).mono ?_); (case side1 => repeat (first | exact HR0.out | (with_reducible refine Kd.C_alloc ?_ _) | (with_reducible refine Kd.C_drewN ?_ _) | (with_reducible refine Kd.C_drew ?_))); (case side2 => exact HC0.out); rintro e w5 ⟨v171, rfl, ho0, hb⟩; refine ⟨_, rfl, ?_⟩; have n0_ := Aside0.mk (Kd.R_lower ho0 (below_size (by repeat (first | (with_reducible first | exact HB.out | apply below_alloc | apply pw_below_drewN | apply below_drew1) | exact HB.out)))); have n1_ := Aside0.mk (below_step (by repeat (first | (with_reducible first | exact HB.out | apply below_alloc | apply pw_below_drewN | apply below_drew1) | exact HB.out)) hb); clear HB; have HO172 := n0_; have HB := n1_; clear n0_ n1_; (try clear hb); (try clear hb2); (try clear hk); (try clear hi); (try clear ho0); obtain ⟨Ao6, co6, eo6⟩ := Kd.R_slice HO172.out; subst eo6))
  clear hmm
  have HMge := Aside0.mk (HB.out.size)
  go_loopg [9, 10, 18] k (fun kq v9 v10 v18 w' => ∃ (x9_1 : List (S77)) (x10_1 : List (S77)) (x16_1 : List (S77)) (x18_1 : Int), v18 = .int .i64 x18_1 ∧ Aside0 (mootkeep1_FactTurned.l0 kq a1 a2 x9_1 x10_1 x16_1 (t170.length : Int) x18_1 = some r) ∧ Aside0 (kq ≤ k) ∧ Aside0 (Kd.R k77 77 w' w.heap.size (fun k_ => some k_ ≠ (v10 : Value).ownBlock ∧ some k_ ≠ ((.slice Ao6 t170.length co6) : Value).ownBlock) v9 x9_1) ∧ Aside0 (Kd.R k77 77 w' w.heap.size (fun k_ => some k_ ≠ (v9 : Value).ownBlock ∧ some k_ ≠ ((.slice Ao6 t170.length co6) : Value).ownBlock) v10 x10_1) ∧ Aside0 (Kd.R k77 77 w' w.heap.size (fun k_ => some k_ ≠ (v9 : Value).ownBlock ∧ some k_ ≠ (v10 : Value).ownBlock) (.slice Ao6 t170.length co6) x16_1) ∧ Aside0 (Below w.heap.size w w') ∧ Aside0 (MapIs w' w5.heap.size x9_1))
  case atStart => exact ⟨(([] : List (S77))), (([] : List (S77))), (t170), (0), (by first | rfl | (simp; done) | (simp [*]; done)), H', ⟨Nat.le_refl _⟩, ⟨by first | exact Kd.R_nil _ _ _ _ _ | exact Kd.N_nil _ _ _ _ _ | exact Kd.V_nil _ _ _ _ _ | exact Kd.Q_nil _ _ _ _ _ | exact Kd.S_nil _ _ _ _ _⟩, ⟨by first | exact Kd.R_nil _ _ _ _ _ | exact Kd.N_nil _ _ _ _ _ | exact Kd.V_nil _ _ _ _ _ | exact Kd.Q_nil _ _ _ _ _ | exact Kd.S_nil _ _ _ _ _⟩, ⟨by (with_reducible repeat (first | apply Kd.R_alloc | apply Kd.R_drewN | apply Kd.R_drew)); exact Kd.R_mono HO172.out (fun _ hk => ⟨(by simp [Value.ownBlock]), (by simp [Value.ownBlock])⟩)⟩, ⟨by repeat (first | (with_reducible first | exact HB.out | apply below_alloc | apply pw_below_drewN | apply below_drew1) | exact HB.out)⟩, ⟨by with_reducible repeat (first | exact MapIs.made _ | apply MapIs.drew | apply MapIs.drewN)⟩⟩
  case round =>
    clear H'
    try clear p1
    try clear p2
    try clear c3
    obtain ⟨x9_1, x10_1, x16_1, x18_1, rfl, HA, HK1, HO_9, HO_10, HO_16, HB, HM⟩ := hrel
    have hl16_1 := (Kd.R_reads' HO_16.out).1
    rw [hl16_1] at HO_16
    (try simp only [hl16_1])
    (try simp only [hl16_1] at HO_9)
    (try simp only [hl16_1] at HO_10)
    cases gk with
    | zero => exact absurd HA.out (by simp [mootkeep1_FactTurned.l0])
    | succ k1 =>
      have H := HA.out
      clear HA
      simp only [mootkeep1_FactTurned.l0] at H
      by_cases c7 : x18_1 < (t170.length : Int)
      · rw [if_pos c7] at H
        have c7b0 : decide (x18_1 < (t170.length : Int)) = true := decide_eq_true c7
        clear c7
        by_cases c8 : 0 ≤ x18_1
        · rw [if_pos c8] at H
          have c8b0 : decide (0 ≤ x18_1) = true := decide_eq_true c8
          clear c8
          by_cases c9 : x18_1 < (x16_1.length : Int)
          · rw [if_pos c9] at H
            have c9b0 : decide (x18_1 < (x16_1.length : Int)) = true := decide_eq_true c9
            clear c9
            by_cases cw : 0 ≤ (rd_T77 x16_1 x18_1).f5 ∧ (rd_T77 x16_1 x18_1).f5 ≤ 1000
            case neg => rw [if_neg cw] at H; exact absurd H (by simp)
            rw [if_pos cw] at H
            have hlo := Aside0.mk cw.1
            have hhi := Aside0.mk cw.2
            clear cw
            by_cases cs : (x9_1.any fun y_ => y_.f5 == (rd_T77 x16_1 x18_1).f5) = true
            · rw [if_pos cs] at H
              have hseen := Aside0.mk cs
              clear cs
              have H' := Aside0.mk H
              clear H
              have p173 : 0 ≤ (x18_1 : Int) := of_decide_eq_true (by first | (with_reducible assumption) | assumption)
              have q173 : x18_1 < (x16_1.length : Int) := of_decide_eq_true (by first | (with_reducible assumption) | assumption)
              obtain ⟨ad173, e173, hx173_0, hx173_1, hx173_2, hx173_3, hx173_4, hx173_5, hx173_6⟩ := at_T77 (Kd.R_reads' HO_16.out).2.2 x18_1 p173 q173
              cases e173
              replace p173 := eq_true p173
              replace q173 := eq_true q173
              go_wp2_with (first | ((with_reducible refine gate_dst (N := 12) rfl ?_); refine box_event ?hg (N := 12) ?hd (cs := #[.int .i64 0, .string (⟨#[]⟩ : ByteArray), .int .i64 0, .int .i64 0, .int .i64 0, .int .i64 0, .int .i64 0]) (t := 77) ?hr ?_; (case hd => rfl); (case hg => rfl); (case hr => first | (go_simp; done) | (go_simp; rfl)); intro gb174 hg w12 hbox hb; have HMN := Aside0.mk (show w5.heap.size ≠ gb174 by rw [hg]; exact Nat.ne_of_lt HM.out.lt); have HM12 := Aside0.mk (HM.out.below hb); have n0_ := Aside0.mk (Kd.R_below (Kd.R_elderB (by (with_reducible repeat (first | apply Kd.R_alloc | apply Kd.R_drewN | apply Kd.R_drew)); exact HO_9.out) gb174 (Nat.le_of_eq hg.symm)) hb); have n1_ := Aside0.mk (Kd.R_below (Kd.R_elderB (by (with_reducible repeat (first | apply Kd.R_alloc | apply Kd.R_drewN | apply Kd.R_drew)); exact HO_10.out) gb174 (Nat.le_of_eq hg.symm)) hb); have n2_ := Aside0.mk (Kd.R_below (Kd.R_elderB (by (with_reducible repeat (first | apply Kd.R_alloc | apply Kd.R_drewN | apply Kd.R_drew)); exact HO_16.out) gb174 (Nat.le_of_eq hg.symm)) hb); have n3_ := Aside0.mk (below_step (by repeat (first | (with_reducible first | exact HB.out | apply below_alloc | apply pw_below_drewN | apply below_drew1) | exact HB.out)) hb); have n4_ := Aside0.mk (hbox); have n5_ := Aside0.mk ((by rw [hg]; exact (below_size (by repeat (first | (with_reducible first | exact HB.out | apply below_alloc | apply pw_below_drewN | apply below_drew1) | exact HB.out))) : w.heap.size ≤ gb174)); have n6_ := Aside0.mk ((by rw [hg]; exact (below_size (by repeat (first | (with_reducible first | exact HB.out | apply below_alloc | apply pw_below_drewN | apply below_drew1) | exact HB.out))) : w.heap.size ≤ gb174)); clear HO_9; clear HO_10; clear HO_16; clear HB; have HO_9 := n0_; have HO_10 := n1_; have HO_16 := n2_; have HB := n3_; have BK174 := n4_; have GW174 := n5_; have GE174 := n6_; clear n0_ n1_ n2_ n3_ n4_ n5_ n6_; clear hb hbox hg; have hcz13_0 : w12.cell? ⟨gb174, 0, none⟩ = some (.int .i64 0) := (blk_cell BK174.out 0).trans rfl; have hcz13_1 : w12.cell? ⟨gb174, 1, none⟩ = some (.string (⟨#[]⟩ : ByteArray)) := (blk_cell BK174.out 1).trans rfl; have hcz13_2 : w12.cell? ⟨gb174, 2, none⟩ = some (.int .i64 0) := (blk_cell BK174.out 2).trans rfl; have hcz13_3 : w12.cell? ⟨gb174, 3, none⟩ = some (.int .i64 0) := (blk_cell BK174.out 3).trans rfl; have hcz13_4 : w12.cell? ⟨gb174, 4, none⟩ = some (.int .i64 0) := (blk_cell BK174.out 4).trans rfl; have hcz13_5 : w12.cell? ⟨gb174, 5, none⟩ = some (.int .i64 0) := (blk_cell BK174.out 5).trans rfl; have hcz13_6 : w12.cell? ⟨gb174, 6, none⟩ = some (.int .i64 0) := (blk_cell BK174.out 6).trans rfl; have hfz13_0 := blk_frozen BK174.out 0; have hfz13_1 := blk_frozen BK174.out 1; have hfz13_2 := blk_frozen BK174.out 2; have hfz13_3 := blk_frozen BK174.out 3; have hfz13_4 := blk_frozen BK174.out 4; have hfz13_5 := blk_frozen BK174.out 5; have hfz13_6 := blk_frozen BK174.out 6; obtain ⟨Ao14, co14, eo14⟩ := Kd.R_slice HO_9.out; subst eo14; obtain ⟨Ao15, co15, eo15⟩ := Kd.R_slice HO_10.out; subst eo15) | (at_lookup; refine MapIs.wp_lookup rfl _ _ rfl w5.heap.size x9_1 (by with_reducible repeat (first | exact HM12.out | refine MapIs.far ?_ HMN.out _ | apply MapIs.drew)) rfl ((rd_T77 x16_1 x18_1).f5) rfl hlo.out hhi.out true hseen.out ?_))
              have n0_ : Aside0 (Kd.R k77 77 (((((((w12.setCell ⟨gb174, 0, none⟩ (.int .i64 ((rd_T77 x16_1 x18_1).f0))).setCell ⟨gb174, 1, none⟩ (.string ((rd_T77 x16_1 x18_1).f1))).setCell ⟨gb174, 2, none⟩ (.int .i64 ((rd_T77 x16_1 x18_1).f2.f0))).setCell ⟨gb174, 3, none⟩ (.int .i64 ((rd_T77 x16_1 x18_1).f2.f1))).setCell ⟨gb174, 4, none⟩ (.int .i64 ((rd_T77 x16_1 x18_1).f3))).setCell ⟨gb174, 5, none⟩ (.int .i64 ((rd_T77 x16_1 x18_1).f4))).setCell ⟨gb174, 6, none⟩ (.int .i64 ((rd_T77 x16_1 x18_1).f5))) w.heap.size (fun k_ => some k_ ≠ (.slice Ao15 x10_1.length co15 : Value).ownBlock ∧ some k_ ≠ (.slice (some ad173) x16_1.length co6 : Value).ownBlock ∧ k_ ≠ gb174) (.slice Ao14 x9_1.length co14) x9_1) := ⟨by (with_reducible repeat (first | apply Kd.R_alloc | apply Kd.R_drewN | apply Kd.R_drew)); exact Kd.R_mono (Kd.R_far (p := ⟨gb174, 6, none⟩) (Kd.R_far (p := ⟨gb174, 5, none⟩) (Kd.R_far (p := ⟨gb174, 4, none⟩) (Kd.R_far (p := ⟨gb174, 3, none⟩) (Kd.R_far (p := ⟨gb174, 2, none⟩) (Kd.R_far (p := ⟨gb174, 1, none⟩) (Kd.R_far (p := ⟨gb174, 0, none⟩) (Kd.R_mono HO_9.out (fun k_ hk => (⟨hk, hk.2⟩ : _ ∧ k_ ≠ gb174))) (fun _ hk => hk.2) (.int .i64 ((rd_T77 x16_1 x18_1).f0))) (fun _ hk => hk.2) (.string ((rd_T77 x16_1 x18_1).f1))) (fun _ hk => hk.2) (.int .i64 ((rd_T77 x16_1 x18_1).f2.f0))) (fun _ hk => hk.2) (.int .i64 ((rd_T77 x16_1 x18_1).f2.f1))) (fun _ hk => hk.2) (.int .i64 ((rd_T77 x16_1 x18_1).f3))) (fun _ hk => hk.2) (.int .i64 ((rd_T77 x16_1 x18_1).f4))) (fun _ hk => hk.2) (.int .i64 ((rd_T77 x16_1 x18_1).f5))) (fun _ hk => ⟨hk.1.1.1, ⟨hk.1.1.2, hk.1.2⟩⟩)⟩
              have n1_ : Aside0 (Kd.R k77 77 (((((((w12.setCell ⟨gb174, 0, none⟩ (.int .i64 ((rd_T77 x16_1 x18_1).f0))).setCell ⟨gb174, 1, none⟩ (.string ((rd_T77 x16_1 x18_1).f1))).setCell ⟨gb174, 2, none⟩ (.int .i64 ((rd_T77 x16_1 x18_1).f2.f0))).setCell ⟨gb174, 3, none⟩ (.int .i64 ((rd_T77 x16_1 x18_1).f2.f1))).setCell ⟨gb174, 4, none⟩ (.int .i64 ((rd_T77 x16_1 x18_1).f3))).setCell ⟨gb174, 5, none⟩ (.int .i64 ((rd_T77 x16_1 x18_1).f4))).setCell ⟨gb174, 6, none⟩ (.int .i64 ((rd_T77 x16_1 x18_1).f5))) w.heap.size (fun k_ => some k_ ≠ (.slice Ao14 x9_1.length co14 : Value).ownBlock ∧ some k_ ≠ (.slice (some ad173) x16_1.length co6 : Value).ownBlock ∧ k_ ≠ gb174) (.slice Ao15 x10_1.length co15) x10_1) := ⟨by (with_reducible repeat (first | apply Kd.R_alloc | apply Kd.R_drewN | apply Kd.R_drew)); exact Kd.R_mono (Kd.R_far (p := ⟨gb174, 6, none⟩) (Kd.R_far (p := ⟨gb174, 5, none⟩) (Kd.R_far (p := ⟨gb174, 4, none⟩) (Kd.R_far (p := ⟨gb174, 3, none⟩) (Kd.R_far (p := ⟨gb174, 2, none⟩) (Kd.R_far (p := ⟨gb174, 1, none⟩) (Kd.R_far (p := ⟨gb174, 0, none⟩) (Kd.R_mono HO_10.out (fun k_ hk => (⟨hk, hk.2⟩ : _ ∧ k_ ≠ gb174))) (fun _ hk => hk.2) (.int .i64 ((rd_T77 x16_1 x18_1).f0))) (fun _ hk => hk.2) (.string ((rd_T77 x16_1 x18_1).f1))) (fun _ hk => hk.2) (.int .i64 ((rd_T77 x16_1 x18_1).f2.f0))) (fun _ hk => hk.2) (.int .i64 ((rd_T77 x16_1 x18_1).f2.f1))) (fun _ hk => hk.2) (.int .i64 ((rd_T77 x16_1 x18_1).f3))) (fun _ hk => hk.2) (.int .i64 ((rd_T77 x16_1 x18_1).f4))) (fun _ hk => hk.2) (.int .i64 ((rd_T77 x16_1 x18_1).f5))) (fun _ hk => ⟨hk.1.1.1, ⟨hk.1.1.2, hk.1.2⟩⟩)⟩
              have n2_ : Aside0 (Kd.R k77 77 (((((((w12.setCell ⟨gb174, 0, none⟩ (.int .i64 ((rd_T77 x16_1 x18_1).f0))).setCell ⟨gb174, 1, none⟩ (.string ((rd_T77 x16_1 x18_1).f1))).setCell ⟨gb174, 2, none⟩ (.int .i64 ((rd_T77 x16_1 x18_1).f2.f0))).setCell ⟨gb174, 3, none⟩ (.int .i64 ((rd_T77 x16_1 x18_1).f2.f1))).setCell ⟨gb174, 4, none⟩ (.int .i64 ((rd_T77 x16_1 x18_1).f3))).setCell ⟨gb174, 5, none⟩ (.int .i64 ((rd_T77 x16_1 x18_1).f4))).setCell ⟨gb174, 6, none⟩ (.int .i64 ((rd_T77 x16_1 x18_1).f5))) w.heap.size (fun k_ => some k_ ≠ (.slice Ao14 x9_1.length co14 : Value).ownBlock ∧ some k_ ≠ (.slice Ao15 x10_1.length co15 : Value).ownBlock ∧ k_ ≠ gb174) (.slice (some ad173) x16_1.length co6) x16_1) := ⟨by (with_reducible repeat (first | apply Kd.R_alloc | apply Kd.R_drewN | apply Kd.R_drew)); exact Kd.R_mono (Kd.R_far (p := ⟨gb174, 6, none⟩) (Kd.R_far (p := ⟨gb174, 5, none⟩) (Kd.R_far (p := ⟨gb174, 4, none⟩) (Kd.R_far (p := ⟨gb174, 3, none⟩) (Kd.R_far (p := ⟨gb174, 2, none⟩) (Kd.R_far (p := ⟨gb174, 1, none⟩) (Kd.R_far (p := ⟨gb174, 0, none⟩) (Kd.R_mono HO_16.out (fun k_ hk => (⟨hk, hk.2⟩ : _ ∧ k_ ≠ gb174))) (fun _ hk => hk.2) (.int .i64 ((rd_T77 x16_1 x18_1).f0))) (fun _ hk => hk.2) (.string ((rd_T77 x16_1 x18_1).f1))) (fun _ hk => hk.2) (.int .i64 ((rd_T77 x16_1 x18_1).f2.f0))) (fun _ hk => hk.2) (.int .i64 ((rd_T77 x16_1 x18_1).f2.f1))) (fun _ hk => hk.2) (.int .i64 ((rd_T77 x16_1 x18_1).f3))) (fun _ hk => hk.2) (.int .i64 ((rd_T77 x16_1 x18_1).f4))) (fun _ hk => hk.2) (.int .i64 ((rd_T77 x16_1 x18_1).f5))) (fun _ hk => ⟨hk.1.1.1, ⟨hk.1.1.2, hk.1.2⟩⟩)⟩
              have n3_ : Aside0 ((((((((w12.setCell ⟨gb174, 0, none⟩ (.int .i64 ((rd_T77 x16_1 x18_1).f0))).setCell ⟨gb174, 1, none⟩ (.string ((rd_T77 x16_1 x18_1).f1))).setCell ⟨gb174, 2, none⟩ (.int .i64 ((rd_T77 x16_1 x18_1).f2.f0))).setCell ⟨gb174, 3, none⟩ (.int .i64 ((rd_T77 x16_1 x18_1).f2.f1))).setCell ⟨gb174, 4, none⟩ (.int .i64 ((rd_T77 x16_1 x18_1).f3))).setCell ⟨gb174, 5, none⟩ (.int .i64 ((rd_T77 x16_1 x18_1).f4))).setCell ⟨gb174, 6, none⟩ (.int .i64 ((rd_T77 x16_1 x18_1).f5))).heap[gb174]? = some (.cells #[.int .i64 ((rd_T77 x16_1 x18_1).f0), .string ((rd_T77 x16_1 x18_1).f1), .int .i64 ((rd_T77 x16_1 x18_1).f2.f0), .int .i64 ((rd_T77 x16_1 x18_1).f2.f1), .int .i64 ((rd_T77 x16_1 x18_1).f3), .int .i64 ((rd_T77 x16_1 x18_1).f4), .int .i64 ((rd_T77 x16_1 x18_1).f5)] 77 (0, 0))) := ⟨by (with_reducible repeat (first | refine blk_drewN ?_ _ | refine blk_drew ?_ | refine blk_alloc ?_ _)); refine blk_put (cs := #[.int .i64 ((rd_T77 x16_1 x18_1).f0), .string ((rd_T77 x16_1 x18_1).f1), .int .i64 ((rd_T77 x16_1 x18_1).f2.f0), .int .i64 ((rd_T77 x16_1 x18_1).f2.f1), .int .i64 ((rd_T77 x16_1 x18_1).f3), .int .i64 ((rd_T77 x16_1 x18_1).f4), .int .i64 0]) ?_ 6 _ rfl; (with_reducible repeat (first | refine blk_drewN ?_ _ | refine blk_drew ?_ | refine blk_alloc ?_ _)); refine blk_put (cs := #[.int .i64 ((rd_T77 x16_1 x18_1).f0), .string ((rd_T77 x16_1 x18_1).f1), .int .i64 ((rd_T77 x16_1 x18_1).f2.f0), .int .i64 ((rd_T77 x16_1 x18_1).f2.f1), .int .i64 ((rd_T77 x16_1 x18_1).f3), .int .i64 0, .int .i64 0]) ?_ 5 _ rfl; (with_reducible repeat (first | refine blk_drewN ?_ _ | refine blk_drew ?_ | refine blk_alloc ?_ _)); refine blk_put (cs := #[.int .i64 ((rd_T77 x16_1 x18_1).f0), .string ((rd_T77 x16_1 x18_1).f1), .int .i64 ((rd_T77 x16_1 x18_1).f2.f0), .int .i64 ((rd_T77 x16_1 x18_1).f2.f1), .int .i64 0, .int .i64 0, .int .i64 0]) ?_ 4 _ rfl; (with_reducible repeat (first | refine blk_drewN ?_ _ | refine blk_drew ?_ | refine blk_alloc ?_ _)); refine blk_put (cs := #[.int .i64 ((rd_T77 x16_1 x18_1).f0), .string ((rd_T77 x16_1 x18_1).f1), .int .i64 ((rd_T77 x16_1 x18_1).f2.f0), .int .i64 0, .int .i64 0, .int .i64 0, .int .i64 0]) ?_ 3 _ rfl; (with_reducible repeat (first | refine blk_drewN ?_ _ | refine blk_drew ?_ | refine blk_alloc ?_ _)); refine blk_put (cs := #[.int .i64 ((rd_T77 x16_1 x18_1).f0), .string ((rd_T77 x16_1 x18_1).f1), .int .i64 0, .int .i64 0, .int .i64 0, .int .i64 0, .int .i64 0]) ?_ 2 _ rfl; (with_reducible repeat (first | refine blk_drewN ?_ _ | refine blk_drew ?_ | refine blk_alloc ?_ _)); refine blk_put (cs := #[.int .i64 ((rd_T77 x16_1 x18_1).f0), .string (⟨#[]⟩ : ByteArray), .int .i64 0, .int .i64 0, .int .i64 0, .int .i64 0, .int .i64 0]) ?_ 1 _ rfl; (with_reducible repeat (first | refine blk_drewN ?_ _ | refine blk_drew ?_ | refine blk_alloc ?_ _)); refine blk_put (cs := #[.int .i64 0, .string (⟨#[]⟩ : ByteArray), .int .i64 0, .int .i64 0, .int .i64 0, .int .i64 0, .int .i64 0]) ?_ 0 _ rfl; (with_reducible repeat (first | refine blk_drewN ?_ _ | refine blk_drew ?_ | refine blk_alloc ?_ _)); exact BK174.out⟩
              have n4_ : Aside0 (Below w.heap.size w (((((((w12.setCell ⟨gb174, 0, none⟩ (.int .i64 ((rd_T77 x16_1 x18_1).f0))).setCell ⟨gb174, 1, none⟩ (.string ((rd_T77 x16_1 x18_1).f1))).setCell ⟨gb174, 2, none⟩ (.int .i64 ((rd_T77 x16_1 x18_1).f2.f0))).setCell ⟨gb174, 3, none⟩ (.int .i64 ((rd_T77 x16_1 x18_1).f2.f1))).setCell ⟨gb174, 4, none⟩ (.int .i64 ((rd_T77 x16_1 x18_1).f3))).setCell ⟨gb174, 5, none⟩ (.int .i64 ((rd_T77 x16_1 x18_1).f4))).setCell ⟨gb174, 6, none⟩ (.int .i64 ((rd_T77 x16_1 x18_1).f5)))) := ⟨by repeat (first | (with_reducible first | exact HB.out | apply below_alloc | apply pw_below_drewN | apply below_drew1 | refine below_set ?_ GE174.out) | exact HB.out)⟩
              (try clear HO_9)
              (try clear HO_10)
              (try clear HO_16)
              (try clear BK174)
              (try clear HB)
              have n5_ : Aside0 (MapIs ((((((((w12.setCell ⟨gb174, 0, none⟩ (.int .i64 ((rd_T77 x16_1 x18_1).f0))).setCell ⟨gb174, 1, none⟩ (.string ((rd_T77 x16_1 x18_1).f1))).setCell ⟨gb174, 2, none⟩ (.int .i64 ((rd_T77 x16_1 x18_1).f2.f0))).setCell ⟨gb174, 3, none⟩ (.int .i64 ((rd_T77 x16_1 x18_1).f2.f1))).setCell ⟨gb174, 4, none⟩ (.int .i64 ((rd_T77 x16_1 x18_1).f3))).setCell ⟨gb174, 5, none⟩ (.int .i64 ((rd_T77 x16_1 x18_1).f4))).setCell ⟨gb174, 6, none⟩ (.int .i64 ((rd_T77 x16_1 x18_1).f5)))) w5.heap.size x9_1) := ⟨by with_reducible repeat (first | exact HM12.out | refine MapIs.far ?_ HMN.out _ | apply MapIs.drew)⟩
              generalize (((((((w12.setCell ⟨gb174, 0, none⟩ (.int .i64 ((rd_T77 x16_1 x18_1).f0))).setCell ⟨gb174, 1, none⟩ (.string ((rd_T77 x16_1 x18_1).f1))).setCell ⟨gb174, 2, none⟩ (.int .i64 ((rd_T77 x16_1 x18_1).f2.f0))).setCell ⟨gb174, 3, none⟩ (.int .i64 ((rd_T77 x16_1 x18_1).f2.f1))).setCell ⟨gb174, 4, none⟩ (.int .i64 ((rd_T77 x16_1 x18_1).f3))).setCell ⟨gb174, 5, none⟩ (.int .i64 ((rd_T77 x16_1 x18_1).f4))).setCell ⟨gb174, 6, none⟩ (.int .i64 ((rd_T77 x16_1 x18_1).f5))) = w16 at n0_ n1_ n2_ n3_ n4_ n5_ ⊢
              (try simp only [← hl16_1])
              go_roundg k1
              case measure => have := HK1.out; omega
              case rel => exact ⟨(x9_1), (x10_1), (x16_1), (wrap64 (x18_1 + 1)), (by first | rfl | (simp; done) | (simp [*]; done)), H', ⟨by have := HK1.out; omega⟩, ⟨by (try simp only [hl16_1]); (with_reducible repeat (first | apply Kd.R_alloc | apply Kd.R_drewN | apply Kd.R_drew)); exact Kd.R_mono n0_.out (fun _ hk => ⟨hk.1, hk.2.1⟩)⟩, ⟨by (try simp only [hl16_1]); (with_reducible repeat (first | apply Kd.R_alloc | apply Kd.R_drewN | apply Kd.R_drew)); exact Kd.R_mono n1_.out (fun _ hk => ⟨hk.1, hk.2.1⟩)⟩, ⟨by (try simp only [hl16_1]); (with_reducible repeat (first | apply Kd.R_alloc | apply Kd.R_drewN | apply Kd.R_drew)); exact Kd.R_mono n2_.out (fun _ hk => ⟨hk.1, hk.2.1⟩)⟩, ⟨by repeat (first | (with_reducible first | exact n4_.out | apply below_alloc | apply pw_below_drewN | apply below_drew1) | exact n4_.out)⟩, ⟨by with_reducible repeat (first | exact n5_.out | apply MapIs.drew | apply MapIs.drewN)⟩⟩
            · rw [if_neg cs] at H
              have hseen := Aside0.mk (Bool.eq_false_iff.mpr cs)
              clear cs
              obtain ⟨y175, hy175⟩ : ∃ y_ : List (S77), y_ = (([(⟨(rd_T77 x16_1 x18_1).f0, (rd_T77 x16_1 x18_1).f1, (⟨(rd_T77 x16_1 x18_1).f2.f0, (rd_T77 x16_1 x18_1).f2.f1⟩ : S50), (rd_T77 x16_1 x18_1).f3, (rd_T77 x16_1 x18_1).f4, (rd_T77 x16_1 x18_1).f5⟩ : S77)] : List (S77))) := ⟨_, rfl⟩
              replace H : (if x9_1.length + y175.length < 2199023255552 then ((slices_Insert.one.f x10_1 0 (([(⟨(rd_T77 x16_1 x18_1).f0, (rd_T77 x16_1 x18_1).f1, (⟨(rd_T77 x16_1 x18_1).f2.f0, (rd_T77 x16_1 x18_1).f2.f1⟩ : S50), (rd_T77 x16_1 x18_1).f3, (rd_T77 x16_1 x18_1).f4, (rd_T77 x16_1 x18_1).f5⟩ : S77)] : List (S77)))).bind fun bt184 => (mootkeep1_FactTurned.l0 k1 a1 a2 (x9_1 ++ y175) bt184.1 x16_1 (t170.length : Int) (wrap64 (x18_1 + 1)))) else (none)) = some r := by first | (rw [hy175]; with_reducible exact H) | (have H2_ := (Option.bind_some _ _).symm.trans H; rw [hy175]; with_reducible exact H2_) | (have H2_ := (Option.bind_some _ _).symm.trans H; with_reducible exact H2_) | with_reducible exact H | (rw [hy175]; exact H) | exact H
              have Ny175 := Aside0.mk hy175
              clear hy175
              by_cases c10 : x9_1.length + y175.length < 2199023255552
              · rw [if_pos c10] at H
                have LMc10 := Aside0.mk c10
                have hlen := Aside0.mk (show x9_1.length < 2199023255552 by omega)
                clear c10
                obtain ⟨y178, hy178⟩ : ∃ y_ : List (S77), y_ = (x9_1 ++ y175) := ⟨_, rfl⟩
                replace H : ((slices_Insert.one.f x10_1 0 (([(⟨(rd_T77 x16_1 x18_1).f0, (rd_T77 x16_1 x18_1).f1, (⟨(rd_T77 x16_1 x18_1).f2.f0, (rd_T77 x16_1 x18_1).f2.f1⟩ : S50), (rd_T77 x16_1 x18_1).f3, (rd_T77 x16_1 x18_1).f4, (rd_T77 x16_1 x18_1).f5⟩ : S77)] : List (S77)))).bind fun bt184 => (mootkeep1_FactTurned.l0 k1 a1 a2 y178 bt184.1 x16_1 (t170.length : Int) (wrap64 (x18_1 + 1)))) = some r := by first | (rw [hy178]; with_reducible exact H) | (have H2_ := (Option.bind_some _ _).symm.trans H; rw [hy178]; with_reducible exact H2_) | (have H2_ := (Option.bind_some _ _).symm.trans H; with_reducible exact H2_) | with_reducible exact H | (rw [hy178]; exact H) | exact H
                have Ny178 := Aside0.mk hy178
                clear hy178
                obtain ⟨y181, hy181⟩ : ∃ y_ : List (S77), y_ = (([(⟨(rd_T77 x16_1 x18_1).f0, (rd_T77 x16_1 x18_1).f1, (⟨(rd_T77 x16_1 x18_1).f2.f0, (rd_T77 x16_1 x18_1).f2.f1⟩ : S50), (rd_T77 x16_1 x18_1).f3, (rd_T77 x16_1 x18_1).f4, (rd_T77 x16_1 x18_1).f5⟩ : S77)] : List (S77))) := ⟨_, rfl⟩
                replace H : ((slices_Insert.one.f x10_1 0 y181).bind fun bt184 => (mootkeep1_FactTurned.l0 k1 a1 a2 y178 bt184.1 x16_1 (t170.length : Int) (wrap64 (x18_1 + 1)))) = some r := by first | (rw [hy181]; with_reducible exact H) | (have H2_ := (Option.bind_some _ _).symm.trans H; rw [hy181]; with_reducible exact H2_) | (have H2_ := (Option.bind_some _ _).symm.trans H; with_reducible exact H2_) | with_reducible exact H | (rw [hy181]; exact H) | exact H
                have Ny181 := Aside0.mk hy181
                clear hy181
                replace H := Option.bind_eq_some_iff.mp H
                obtain ⟨⟨t184, t187⟩, A110, H⟩ := H
                replace H : (mootkeep1_FactTurned.l0 k1 a1 a2 y178 t184 x16_1 (t170.length : Int) (wrap64 (x18_1 + 1))) = some r := H
                have A11 := Aside0.mk A110
                clear A110
                have H' := Aside0.mk H
                clear H
                have p173 : 0 ≤ (x18_1 : Int) := of_decide_eq_true (by first | (with_reducible assumption) | assumption)
                have q173 : x18_1 < (x16_1.length : Int) := of_decide_eq_true (by first | (with_reducible assumption) | assumption)
                obtain ⟨ad173, e173, hx173_0, hx173_1, hx173_2, hx173_3, hx173_4, hx173_5, hx173_6⟩ := at_T77 (Kd.R_reads' HO_16.out).2.2 x18_1 p173 q173
                cases e173
                replace p173 := eq_true p173
                replace q173 := eq_true q173
                go_wp2_with (first | ((with_reducible refine gate_dst (N := 12) rfl ?_); refine box_event ?hg (N := 12) ?hd (cs := #[.int .i64 0, .string (⟨#[]⟩ : ByteArray), .int .i64 0, .int .i64 0, .int .i64 0, .int .i64 0, .int .i64 0]) (t := 77) ?hr ?_; (case hd => rfl); (case hg => rfl); (case hr => first | (go_simp; done) | (go_simp; rfl)); intro gb174 hg w12 hbox hb; have HMN := Aside0.mk (show w5.heap.size ≠ gb174 by rw [hg]; exact Nat.ne_of_lt HM.out.lt); have HM12 := Aside0.mk (HM.out.below hb); have n0_ := Aside0.mk (Kd.R_below (Kd.R_elderB (by (with_reducible repeat (first | apply Kd.R_alloc | apply Kd.R_drewN | apply Kd.R_drew)); exact HO_9.out) gb174 (Nat.le_of_eq hg.symm)) hb); have n1_ := Aside0.mk (Kd.R_below (Kd.R_elderB (by (with_reducible repeat (first | apply Kd.R_alloc | apply Kd.R_drewN | apply Kd.R_drew)); exact HO_10.out) gb174 (Nat.le_of_eq hg.symm)) hb); have n2_ := Aside0.mk (Kd.R_below (Kd.R_elderB (by (with_reducible repeat (first | apply Kd.R_alloc | apply Kd.R_drewN | apply Kd.R_drew)); exact HO_16.out) gb174 (Nat.le_of_eq hg.symm)) hb); have n3_ := Aside0.mk (below_step (by repeat (first | (with_reducible first | exact HB.out | apply below_alloc | apply pw_below_drewN | apply below_drew1) | exact HB.out)) hb); have n4_ := Aside0.mk (hbox); have n5_ := Aside0.mk ((by rw [hg]; exact (below_size (by repeat (first | (with_reducible first | exact HB.out | apply below_alloc | apply pw_below_drewN | apply below_drew1) | exact HB.out))) : w.heap.size ≤ gb174)); have n6_ := Aside0.mk ((by rw [hg]; exact (below_size (by repeat (first | (with_reducible first | exact HB.out | apply below_alloc | apply pw_below_drewN | apply below_drew1) | exact HB.out))) : w.heap.size ≤ gb174)); clear HO_9; clear HO_10; clear HO_16; clear HB; have HO_9 := n0_; have HO_10 := n1_; have HO_16 := n2_; have HB := n3_; have BK174 := n4_; have GW174 := n5_; have GE174 := n6_; clear n0_ n1_ n2_ n3_ n4_ n5_ n6_; clear hb hbox hg; have hcz13_0 : w12.cell? ⟨gb174, 0, none⟩ = some (.int .i64 0) := (blk_cell BK174.out 0).trans rfl; have hcz13_1 : w12.cell? ⟨gb174, 1, none⟩ = some (.string (⟨#[]⟩ : ByteArray)) := (blk_cell BK174.out 1).trans rfl; have hcz13_2 : w12.cell? ⟨gb174, 2, none⟩ = some (.int .i64 0) := (blk_cell BK174.out 2).trans rfl; have hcz13_3 : w12.cell? ⟨gb174, 3, none⟩ = some (.int .i64 0) := (blk_cell BK174.out 3).trans rfl; have hcz13_4 : w12.cell? ⟨gb174, 4, none⟩ = some (.int .i64 0) := (blk_cell BK174.out 4).trans rfl; have hcz13_5 : w12.cell? ⟨gb174, 5, none⟩ = some (.int .i64 0) := (blk_cell BK174.out 5).trans rfl; have hcz13_6 : w12.cell? ⟨gb174, 6, none⟩ = some (.int .i64 0) := (blk_cell BK174.out 6).trans rfl; have hfz13_0 := blk_frozen BK174.out 0; have hfz13_1 := blk_frozen BK174.out 1; have hfz13_2 := blk_frozen BK174.out 2; have hfz13_3 := blk_frozen BK174.out 3; have hfz13_4 := blk_frozen BK174.out 4; have hfz13_5 := blk_frozen BK174.out 5; have hfz13_6 := blk_frozen BK174.out 6; obtain ⟨Ao14, co14, eo14⟩ := Kd.R_slice HO_9.out; subst eo14; obtain ⟨Ao15, co15, eo15⟩ := Kd.R_slice HO_10.out; subst eo15) | (at_lookup; refine MapIs.wp_lookup rfl _ _ rfl w5.heap.size x9_1 (by with_reducible repeat (first | exact HM12.out | refine MapIs.far ?_ HMN.out _ | apply MapIs.drew)) rfl ((rd_T77 x16_1 x18_1).f5) rfl hlo.out hhi.out false hseen.out ?_) | (at_mapUpdate; refine MapIs.wp_update rfl _ _ _ rfl w5.heap.size x9_1 (by with_reducible repeat (first | exact HM12.out | refine MapIs.far ?_ HMN.out _ | apply MapIs.drew)) hlen.out rfl (⟨(rd_T77 x16_1 x18_1).f0, (rd_T77 x16_1 x18_1).f1, (⟨(rd_T77 x16_1 x18_1).f2.f0, (rd_T77 x16_1 x18_1).f2.f1⟩ : S50), (rd_T77 x16_1 x18_1).f3, (rd_T77 x16_1 x18_1).f4, (rd_T77 x16_1 x18_1).f5⟩ : S77) rfl rfl hlo.out hhi.out ?_; intro w16 HMU hgr; have HMU := Aside0.mk HMU; have hgr := Aside0.mk hgr))
                have n0_ : Aside0 (Kd.R k77 77 (((((((w12.setCell ⟨gb174, 0, none⟩ (.int .i64 ((rd_T77 x16_1 x18_1).f0))).setCell ⟨gb174, 1, none⟩ (.string ((rd_T77 x16_1 x18_1).f1))).setCell ⟨gb174, 2, none⟩ (.int .i64 ((rd_T77 x16_1 x18_1).f2.f0))).setCell ⟨gb174, 3, none⟩ (.int .i64 ((rd_T77 x16_1 x18_1).f2.f1))).setCell ⟨gb174, 4, none⟩ (.int .i64 ((rd_T77 x16_1 x18_1).f3))).setCell ⟨gb174, 5, none⟩ (.int .i64 ((rd_T77 x16_1 x18_1).f4))).setCell ⟨gb174, 6, none⟩ (.int .i64 ((rd_T77 x16_1 x18_1).f5))) w.heap.size (fun k_ => some k_ ≠ (.slice Ao15 x10_1.length co15 : Value).ownBlock ∧ some k_ ≠ (.slice (some ad173) x16_1.length co6 : Value).ownBlock ∧ k_ ≠ gb174) (.slice Ao14 x9_1.length co14) x9_1) := ⟨by (with_reducible repeat (first | apply Kd.R_alloc | apply Kd.R_drewN | apply Kd.R_drew)); exact Kd.R_mono (Kd.R_far (p := ⟨gb174, 6, none⟩) (Kd.R_far (p := ⟨gb174, 5, none⟩) (Kd.R_far (p := ⟨gb174, 4, none⟩) (Kd.R_far (p := ⟨gb174, 3, none⟩) (Kd.R_far (p := ⟨gb174, 2, none⟩) (Kd.R_far (p := ⟨gb174, 1, none⟩) (Kd.R_far (p := ⟨gb174, 0, none⟩) (Kd.R_mono HO_9.out (fun k_ hk => (⟨hk, hk.2⟩ : _ ∧ k_ ≠ gb174))) (fun _ hk => hk.2) (.int .i64 ((rd_T77 x16_1 x18_1).f0))) (fun _ hk => hk.2) (.string ((rd_T77 x16_1 x18_1).f1))) (fun _ hk => hk.2) (.int .i64 ((rd_T77 x16_1 x18_1).f2.f0))) (fun _ hk => hk.2) (.int .i64 ((rd_T77 x16_1 x18_1).f2.f1))) (fun _ hk => hk.2) (.int .i64 ((rd_T77 x16_1 x18_1).f3))) (fun _ hk => hk.2) (.int .i64 ((rd_T77 x16_1 x18_1).f4))) (fun _ hk => hk.2) (.int .i64 ((rd_T77 x16_1 x18_1).f5))) (fun _ hk => ⟨hk.1.1.1, ⟨hk.1.1.2, hk.1.2⟩⟩)⟩
                have n1_ : Aside0 (Kd.R k77 77 (((((((w12.setCell ⟨gb174, 0, none⟩ (.int .i64 ((rd_T77 x16_1 x18_1).f0))).setCell ⟨gb174, 1, none⟩ (.string ((rd_T77 x16_1 x18_1).f1))).setCell ⟨gb174, 2, none⟩ (.int .i64 ((rd_T77 x16_1 x18_1).f2.f0))).setCell ⟨gb174, 3, none⟩ (.int .i64 ((rd_T77 x16_1 x18_1).f2.f1))).setCell ⟨gb174, 4, none⟩ (.int .i64 ((rd_T77 x16_1 x18_1).f3))).setCell ⟨gb174, 5, none⟩ (.int .i64 ((rd_T77 x16_1 x18_1).f4))).setCell ⟨gb174, 6, none⟩ (.int .i64 ((rd_T77 x16_1 x18_1).f5))) w.heap.size (fun k_ => some k_ ≠ (.slice Ao14 x9_1.length co14 : Value).ownBlock ∧ some k_ ≠ (.slice (some ad173) x16_1.length co6 : Value).ownBlock ∧ k_ ≠ gb174) (.slice Ao15 x10_1.length co15) x10_1) := ⟨by (with_reducible repeat (first | apply Kd.R_alloc | apply Kd.R_drewN | apply Kd.R_drew)); exact Kd.R_mono (Kd.R_far (p := ⟨gb174, 6, none⟩) (Kd.R_far (p := ⟨gb174, 5, none⟩) (Kd.R_far (p := ⟨gb174, 4, none⟩) (Kd.R_far (p := ⟨gb174, 3, none⟩) (Kd.R_far (p := ⟨gb174, 2, none⟩) (Kd.R_far (p := ⟨gb174, 1, none⟩) (Kd.R_far (p := ⟨gb174, 0, none⟩) (Kd.R_mono HO_10.out (fun k_ hk => (⟨hk, hk.2⟩ : _ ∧ k_ ≠ gb174))) (fun _ hk => hk.2) (.int .i64 ((rd_T77 x16_1 x18_1).f0))) (fun _ hk => hk.2) (.string ((rd_T77 x16_1 x18_1).f1))) (fun _ hk => hk.2) (.int .i64 ((rd_T77 x16_1 x18_1).f2.f0))) (fun _ hk => hk.2) (.int .i64 ((rd_T77 x16_1 x18_1).f2.f1))) (fun _ hk => hk.2) (.int .i64 ((rd_T77 x16_1 x18_1).f3))) (fun _ hk => hk.2) (.int .i64 ((rd_T77 x16_1 x18_1).f4))) (fun _ hk => hk.2) (.int .i64 ((rd_T77 x16_1 x18_1).f5))) (fun _ hk => ⟨hk.1.1.1, ⟨hk.1.1.2, hk.1.2⟩⟩)⟩
                have n2_ : Aside0 (Kd.R k77 77 (((((((w12.setCell ⟨gb174, 0, none⟩ (.int .i64 ((rd_T77 x16_1 x18_1).f0))).setCell ⟨gb174, 1, none⟩ (.string ((rd_T77 x16_1 x18_1).f1))).setCell ⟨gb174, 2, none⟩ (.int .i64 ((rd_T77 x16_1 x18_1).f2.f0))).setCell ⟨gb174, 3, none⟩ (.int .i64 ((rd_T77 x16_1 x18_1).f2.f1))).setCell ⟨gb174, 4, none⟩ (.int .i64 ((rd_T77 x16_1 x18_1).f3))).setCell ⟨gb174, 5, none⟩ (.int .i64 ((rd_T77 x16_1 x18_1).f4))).setCell ⟨gb174, 6, none⟩ (.int .i64 ((rd_T77 x16_1 x18_1).f5))) w.heap.size (fun k_ => some k_ ≠ (.slice Ao14 x9_1.length co14 : Value).ownBlock ∧ some k_ ≠ (.slice Ao15 x10_1.length co15 : Value).ownBlock ∧ k_ ≠ gb174) (.slice (some ad173) x16_1.length co6) x16_1) := ⟨by (with_reducible repeat (first | apply Kd.R_alloc | apply Kd.R_drewN | apply Kd.R_drew)); exact Kd.R_mono (Kd.R_far (p := ⟨gb174, 6, none⟩) (Kd.R_far (p := ⟨gb174, 5, none⟩) (Kd.R_far (p := ⟨gb174, 4, none⟩) (Kd.R_far (p := ⟨gb174, 3, none⟩) (Kd.R_far (p := ⟨gb174, 2, none⟩) (Kd.R_far (p := ⟨gb174, 1, none⟩) (Kd.R_far (p := ⟨gb174, 0, none⟩) (Kd.R_mono HO_16.out (fun k_ hk => (⟨hk, hk.2⟩ : _ ∧ k_ ≠ gb174))) (fun _ hk => hk.2) (.int .i64 ((rd_T77 x16_1 x18_1).f0))) (fun _ hk => hk.2) (.string ((rd_T77 x16_1 x18_1).f1))) (fun _ hk => hk.2) (.int .i64 ((rd_T77 x16_1 x18_1).f2.f0))) (fun _ hk => hk.2) (.int .i64 ((rd_T77 x16_1 x18_1).f2.f1))) (fun _ hk => hk.2) (.int .i64 ((rd_T77 x16_1 x18_1).f3))) (fun _ hk => hk.2) (.int .i64 ((rd_T77 x16_1 x18_1).f4))) (fun _ hk => hk.2) (.int .i64 ((rd_T77 x16_1 x18_1).f5))) (fun _ hk => ⟨hk.1.1.1, ⟨hk.1.1.2, hk.1.2⟩⟩)⟩
                have n3_ : Aside0 ((((((((w12.setCell ⟨gb174, 0, none⟩ (.int .i64 ((rd_T77 x16_1 x18_1).f0))).setCell ⟨gb174, 1, none⟩ (.string ((rd_T77 x16_1 x18_1).f1))).setCell ⟨gb174, 2, none⟩ (.int .i64 ((rd_T77 x16_1 x18_1).f2.f0))).setCell ⟨gb174, 3, none⟩ (.int .i64 ((rd_T77 x16_1 x18_1).f2.f1))).setCell ⟨gb174, 4, none⟩ (.int .i64 ((rd_T77 x16_1 x18_1).f3))).setCell ⟨gb174, 5, none⟩ (.int .i64 ((rd_T77 x16_1 x18_1).f4))).setCell ⟨gb174, 6, none⟩ (.int .i64 ((rd_T77 x16_1 x18_1).f5))).heap[gb174]? = some (.cells #[.int .i64 ((rd_T77 x16_1 x18_1).f0), .string ((rd_T77 x16_1 x18_1).f1), .int .i64 ((rd_T77 x16_1 x18_1).f2.f0), .int .i64 ((rd_T77 x16_1 x18_1).f2.f1), .int .i64 ((rd_T77 x16_1 x18_1).f3), .int .i64 ((rd_T77 x16_1 x18_1).f4), .int .i64 ((rd_T77 x16_1 x18_1).f5)] 77 (0, 0))) := ⟨by (with_reducible repeat (first | refine blk_drewN ?_ _ | refine blk_drew ?_ | refine blk_alloc ?_ _)); refine blk_put (cs := #[.int .i64 ((rd_T77 x16_1 x18_1).f0), .string ((rd_T77 x16_1 x18_1).f1), .int .i64 ((rd_T77 x16_1 x18_1).f2.f0), .int .i64 ((rd_T77 x16_1 x18_1).f2.f1), .int .i64 ((rd_T77 x16_1 x18_1).f3), .int .i64 ((rd_T77 x16_1 x18_1).f4), .int .i64 0]) ?_ 6 _ rfl; (with_reducible repeat (first | refine blk_drewN ?_ _ | refine blk_drew ?_ | refine blk_alloc ?_ _)); refine blk_put (cs := #[.int .i64 ((rd_T77 x16_1 x18_1).f0), .string ((rd_T77 x16_1 x18_1).f1), .int .i64 ((rd_T77 x16_1 x18_1).f2.f0), .int .i64 ((rd_T77 x16_1 x18_1).f2.f1), .int .i64 ((rd_T77 x16_1 x18_1).f3), .int .i64 0, .int .i64 0]) ?_ 5 _ rfl; (with_reducible repeat (first | refine blk_drewN ?_ _ | refine blk_drew ?_ | refine blk_alloc ?_ _)); refine blk_put (cs := #[.int .i64 ((rd_T77 x16_1 x18_1).f0), .string ((rd_T77 x16_1 x18_1).f1), .int .i64 ((rd_T77 x16_1 x18_1).f2.f0), .int .i64 ((rd_T77 x16_1 x18_1).f2.f1), .int .i64 0, .int .i64 0, .int .i64 0]) ?_ 4 _ rfl; (with_reducible repeat (first | refine blk_drewN ?_ _ | refine blk_drew ?_ | refine blk_alloc ?_ _)); refine blk_put (cs := #[.int .i64 ((rd_T77 x16_1 x18_1).f0), .string ((rd_T77 x16_1 x18_1).f1), .int .i64 ((rd_T77 x16_1 x18_1).f2.f0), .int .i64 0, .int .i64 0, .int .i64 0, .int .i64 0]) ?_ 3 _ rfl; (with_reducible repeat (first | refine blk_drewN ?_ _ | refine blk_drew ?_ | refine blk_alloc ?_ _)); refine blk_put (cs := #[.int .i64 ((rd_T77 x16_1 x18_1).f0), .string ((rd_T77 x16_1 x18_1).f1), .int .i64 0, .int .i64 0, .int .i64 0, .int .i64 0, .int .i64 0]) ?_ 2 _ rfl; (with_reducible repeat (first | refine blk_drewN ?_ _ | refine blk_drew ?_ | refine blk_alloc ?_ _)); refine blk_put (cs := #[.int .i64 ((rd_T77 x16_1 x18_1).f0), .string (⟨#[]⟩ : ByteArray), .int .i64 0, .int .i64 0, .int .i64 0, .int .i64 0, .int .i64 0]) ?_ 1 _ rfl; (with_reducible repeat (first | refine blk_drewN ?_ _ | refine blk_drew ?_ | refine blk_alloc ?_ _)); refine blk_put (cs := #[.int .i64 0, .string (⟨#[]⟩ : ByteArray), .int .i64 0, .int .i64 0, .int .i64 0, .int .i64 0, .int .i64 0]) ?_ 0 _ rfl; (with_reducible repeat (first | refine blk_drewN ?_ _ | refine blk_drew ?_ | refine blk_alloc ?_ _)); exact BK174.out⟩
                have n4_ : Aside0 (Below w.heap.size w (((((((w12.setCell ⟨gb174, 0, none⟩ (.int .i64 ((rd_T77 x16_1 x18_1).f0))).setCell ⟨gb174, 1, none⟩ (.string ((rd_T77 x16_1 x18_1).f1))).setCell ⟨gb174, 2, none⟩ (.int .i64 ((rd_T77 x16_1 x18_1).f2.f0))).setCell ⟨gb174, 3, none⟩ (.int .i64 ((rd_T77 x16_1 x18_1).f2.f1))).setCell ⟨gb174, 4, none⟩ (.int .i64 ((rd_T77 x16_1 x18_1).f3))).setCell ⟨gb174, 5, none⟩ (.int .i64 ((rd_T77 x16_1 x18_1).f4))).setCell ⟨gb174, 6, none⟩ (.int .i64 ((rd_T77 x16_1 x18_1).f5)))) := ⟨by repeat (first | (with_reducible first | exact HB.out | apply below_alloc | apply pw_below_drewN | apply below_drew1 | refine below_set ?_ GE174.out) | exact HB.out)⟩
                (try clear HO_9)
                (try clear HO_10)
                (try clear HO_16)
                (try clear BK174)
                (try clear HB)
                have HMc : Aside0 (MapIs ((((((((w12.setCell ⟨gb174, 0, none⟩ (.int .i64 ((rd_T77 x16_1 x18_1).f0))).setCell ⟨gb174, 1, none⟩ (.string ((rd_T77 x16_1 x18_1).f1))).setCell ⟨gb174, 2, none⟩ (.int .i64 ((rd_T77 x16_1 x18_1).f2.f0))).setCell ⟨gb174, 3, none⟩ (.int .i64 ((rd_T77 x16_1 x18_1).f2.f1))).setCell ⟨gb174, 4, none⟩ (.int .i64 ((rd_T77 x16_1 x18_1).f3))).setCell ⟨gb174, 5, none⟩ (.int .i64 ((rd_T77 x16_1 x18_1).f4))).setCell ⟨gb174, 6, none⟩ (.int .i64 ((rd_T77 x16_1 x18_1).f5)))) w5.heap.size x9_1) := ⟨by with_reducible repeat (first | exact HM12.out | refine MapIs.far ?_ HMN.out _ | apply MapIs.drew)⟩
                generalize (((((((w12.setCell ⟨gb174, 0, none⟩ (.int .i64 ((rd_T77 x16_1 x18_1).f0))).setCell ⟨gb174, 1, none⟩ (.string ((rd_T77 x16_1 x18_1).f1))).setCell ⟨gb174, 2, none⟩ (.int .i64 ((rd_T77 x16_1 x18_1).f2.f0))).setCell ⟨gb174, 3, none⟩ (.int .i64 ((rd_T77 x16_1 x18_1).f2.f1))).setCell ⟨gb174, 4, none⟩ (.int .i64 ((rd_T77 x16_1 x18_1).f3))).setCell ⟨gb174, 5, none⟩ (.int .i64 ((rd_T77 x16_1 x18_1).f4))).setCell ⟨gb174, 6, none⟩ (.int .i64 ((rd_T77 x16_1 x18_1).f5))) = wc at n0_ n1_ n2_ n3_ n4_ hgr HMc
                have hMb := Aside0.mk (show ∃ es clock, wc.heap[w5.heap.size]? = some (.map es clock) from HMc.out.block)
                have n0_ := Aside0.mk (R_mapped n0_.out hMb.out hgr.out)
                have n1_ := Aside0.mk (R_mapped n1_.out hMb.out hgr.out)
                have n2_ := Aside0.mk (R_mapped n2_.out hMb.out hgr.out)
                have n3_ := Aside0.mk (blk_grown n3_.out hgr.out (fun e => (by obtain ⟨es_, ck_, hm_⟩ := hMb.out; have := hm_.symm.trans ((Option.some.inj e) ▸ n3_.out); cases this)))
                have n4_ := Aside0.mk (n4_.out.grown hgr.out n4_.out.size (fun k_ e => by cases e; exact HMge.out))
                obtain ⟨oM, hoM⟩ : ∃ o : Obj, w16.heap[w5.heap.size]? = some o := by obtain ⟨es_, ck_, hm_⟩ := HMU.out.block; exact ⟨_, hm_⟩
                have hoMap := Aside0.mk (show ∃ es clock, oM = .map es clock by obtain ⟨es_, ck_, hm_⟩ := HMU.out.block; exact ⟨es_, ck_, by rw [hoM] at hm_; exact Option.some.inj hm_⟩)
                have BKM := Aside0.mk hoM
                have BKM0 := Aside0.mk hoM
                clear hoM
                have HO_9 := n0_
                have HO_10 := n1_
                have HO_16 := n2_
                have BK174 := n3_
                have HB := n4_
                clear n0_ n1_ n2_ n3_ n4_
                have n0_ := Aside0.mk (Kd.R_drew HO_9.out)
                have n1_ := Aside0.mk (Kd.R_drew HO_10.out)
                have n2_ := Aside0.mk (Kd.R_drew HO_16.out)
                have n3_ := Aside0.mk (blk_drew BK174.out)
                have BKM := Aside0.mk (blk_drew BKM.out)
                have n4_ := Aside0.mk (below_drew1 HB.out)
                clear HO_9
                clear HO_10
                clear HO_16
                clear BK174
                clear HB
                have HO_9 := n0_
                have HO_10 := n1_
                have HO_16 := n2_
                have BK174 := n3_
                have HB := n4_
                clear n0_ n1_ n2_ n3_ n4_
                refine start_ (n := 10) (S := fun w' => w'.cell? ⟨gb174, 0, none⟩ = some (.int .i64 ((rd_T77 x16_1 x18_1).f0)) ∧ w'.cell? ⟨gb174, 1, none⟩ = some (.string ((rd_T77 x16_1 x18_1).f1)) ∧ w'.cell? ⟨gb174, 2, none⟩ = some (.int .i64 ((rd_T77 x16_1 x18_1).f2.f0)) ∧ w'.cell? ⟨gb174, 3, none⟩ = some (.int .i64 ((rd_T77 x16_1 x18_1).f2.f1)) ∧ w'.cell? ⟨gb174, 4, none⟩ = some (.int .i64 ((rd_T77 x16_1 x18_1).f3)) ∧ w'.cell? ⟨gb174, 5, none⟩ = some (.int .i64 ((rd_T77 x16_1 x18_1).f4)) ∧ w'.cell? ⟨gb174, 6, none⟩ = some (.int .i64 ((rd_T77 x16_1 x18_1).f5))) (ds := []) #[false, false, false, false, false, false, false, false, false, false] (by kernel_rfl) rfl rfl ⟨(blk_cell BK174.out 0).trans rfl, (blk_cell BK174.out 1).trans rfl, (blk_cell BK174.out 2).trans rfl, (blk_cell BK174.out 3).trans rfl, (blk_cell BK174.out 4).trans rfl, (blk_cell BK174.out 5).trans rfl, (blk_cell BK174.out 6).trans rfl⟩ (fun hHeld => ?_); refine with_tabW mootkeep1_FactTurned.tab9 mootkeep1_FactTurned.bits9 (fun HT_ HW_ => ?_)
                generalize w16.drew = w17 at HO_9 HO_10 HO_16 BK174 BKM HB hHeld ⊢
                refine pure_ (i := 0) (N := some 30) (v := ?_) (a' := ?_) #[true, false, false, false, false, false, false, false, false, false] rfl rfl (any_of HT_.out (by kernel_rfl)) (fun _ _ _ h => h) (Or.inl ⟨by rfl, ?_⟩) ?_ ?_
                rotate_left
                · intro w'
                  go_simp
                  with_reducible rfl
                rotate_left
                · simp only [Act.put, List.setIfInBounds_toArray, List.set_cons_zero, List.set_cons_succ, i64_w, i32_w]
                  rfl
                refine pure_ (i := 4) (N := some 34) (v := ?_) (a' := ?_) #[true, false, false, false, true, false, false, false, false, false] rfl rfl (any_of HT_.out (by kernel_rfl)) (fun _ _ _ h => h) (Or.inl ⟨by rfl, ?_⟩) ?_ ?_
                rotate_left
                · intro w'
                  go_simp
                  with_reducible rfl
                rotate_left
                · simp only [Act.put, List.setIfInBounds_toArray, List.set_cons_zero, List.set_cons_succ, i64_w, i32_w]
                  rfl
                refine take_ (i := 1) (N := some 31) (v := ?_) (a' := ?_) #[true, true, false, false, true, false, false, false, false, false] rfl rfl (take_ofW HT_.out HW_.out (by kernel_rfl)) (fun _ _ _ h => h) (Or.inl ⟨by rfl, ?_⟩) hHeld ?_ ?_
                rotate_left
                · rintro w' ⟨s0, s1, s2, s3, s4, s5, s6⟩
                  go_simp
                  with_reducible rfl
                rotate_left
                · simp only [Act.put, List.setIfInBounds_toArray, List.set_cons_zero, List.set_cons_succ, i64_w, i32_w]
                  rfl
                refine take_ (i := 5) (N := some 35) (v := ?_) (a' := ?_) #[true, true, false, false, true, true, false, false, false, false] rfl rfl (take_ofW HT_.out HW_.out (by kernel_rfl)) (fun _ _ _ h => h) (Or.inl ⟨by rfl, ?_⟩) hHeld ?_ ?_
                rotate_left
                · rintro w' ⟨s0, s1, s2, s3, s4, s5, s6⟩
                  go_simp
                  with_reducible rfl
                rotate_left
                · simp only [Act.put, List.setIfInBounds_toArray, List.set_cons_zero, List.set_cons_succ, i64_w, i32_w]
                  rfl
                refine join_ (σ := Value × Value × Value) 3 #[true, true, true, true, true, true, true, false, false, false] (fun s_ => [(32, s_.1), (33, s_.2.1), (36, s_.2.2)]) (fun s_ w' => (w'.cell? ⟨gb174, 0, none⟩ = some (.int .i64 ((rd_T77 x16_1 x18_1).f0)) ∧ w'.cell? ⟨gb174, 1, none⟩ = some (.string ((rd_T77 x16_1 x18_1).f1)) ∧ w'.cell? ⟨gb174, 2, none⟩ = some (.int .i64 ((rd_T77 x16_1 x18_1).f2.f0)) ∧ w'.cell? ⟨gb174, 3, none⟩ = some (.int .i64 ((rd_T77 x16_1 x18_1).f2.f1)) ∧ w'.cell? ⟨gb174, 4, none⟩ = some (.int .i64 ((rd_T77 x16_1 x18_1).f3)) ∧ w'.cell? ⟨gb174, 5, none⟩ = some (.int .i64 ((rd_T77 x16_1 x18_1).f4)) ∧ w'.cell? ⟨gb174, 6, none⟩ = some (.int .i64 ((rd_T77 x16_1 x18_1).f5))) ∧ (Kd.R k77 77 w' w.heap.size (fun k_ => some k_ ≠ (s_.2.1 : Value).ownBlock ∧ some k_ ≠ (s_.2.2 : Value).ownBlock ∧ some k_ ≠ (.slice Ao15 x10_1.length co15 : Value).ownBlock ∧ some k_ ≠ (.slice (some ad173) x16_1.length co6 : Value).ownBlock ∧ k_ ≠ gb174) s_.1 y175) ∧ (Kd.R k77 77 w' w.heap.size (fun k_ => some k_ ≠ (s_.1 : Value).ownBlock ∧ some k_ ≠ (s_.2.2 : Value).ownBlock ∧ some k_ ≠ (.slice Ao15 x10_1.length co15 : Value).ownBlock ∧ some k_ ≠ (.slice (some ad173) x16_1.length co6 : Value).ownBlock ∧ k_ ≠ gb174) s_.2.1 y178) ∧ (Kd.R k77 77 w' w.heap.size (fun k_ => some k_ ≠ (s_.1 : Value).ownBlock ∧ some k_ ≠ (s_.2.1 : Value).ownBlock ∧ some k_ ≠ (.slice Ao15 x10_1.length co15 : Value).ownBlock ∧ some k_ ≠ (.slice (some ad173) x16_1.length co6 : Value).ownBlock ∧ k_ ≠ gb174) s_.2.2 y181) ∧ (Kd.R k77 77 w' w.heap.size (fun k_ => some k_ ≠ (s_.1 : Value).ownBlock ∧ some k_ ≠ (s_.2.1 : Value).ownBlock ∧ some k_ ≠ (s_.2.2 : Value).ownBlock ∧ some k_ ≠ (.slice (some ad173) x16_1.length co6 : Value).ownBlock ∧ k_ ≠ gb174) (.slice Ao15 x10_1.length co15) x10_1) ∧ (Kd.R k77 77 w' w.heap.size (fun k_ => some k_ ≠ (s_.1 : Value).ownBlock ∧ some k_ ≠ (s_.2.1 : Value).ownBlock ∧ some k_ ≠ (s_.2.2 : Value).ownBlock ∧ some k_ ≠ (.slice Ao15 x10_1.length co15 : Value).ownBlock ∧ k_ ≠ gb174) (.slice (some ad173) x16_1.length co6) x16_1) ∧ (w'.heap[gb174]? = some (.cells #[.int .i64 ((rd_T77 x16_1 x18_1).f0), .string ((rd_T77 x16_1 x18_1).f1), .int .i64 ((rd_T77 x16_1 x18_1).f2.f0), .int .i64 ((rd_T77 x16_1 x18_1).f2.f1), .int .i64 ((rd_T77 x16_1 x18_1).f3), .int .i64 ((rd_T77 x16_1 x18_1).f4), .int .i64 ((rd_T77 x16_1 x18_1).f5)] 77 (0, 0))) ∧ (Below w.heap.size w w') ∧ (w'.heap[w5.heap.size]? = some oM)) ?_ ?_
                rotate_left
                · intro hCont
                  refine two_ (i := 2) (j := 6) (Ni := some 32) (Nj := some 36) #[true, true, true, false, true, true, false, false, false, false] #[true, true, false, false, true, true, true, false, false, false] rfl rfl rfl rfl (two_of HT_.out (by kernel_rfl)) (by decide) (by decide) (fun K hK => ?_) (fun K hK => ?_)
                  · skip
                    refine Kd.R_lit_step k77 _ 77 ?hg (N := 32) ?hd (xs := ([(⟨(rd_T77 x16_1 x18_1).f0, (rd_T77 x16_1 x18_1).f1, (⟨(rd_T77 x16_1 x18_1).f2.f0, (rd_T77 x16_1 x18_1).f2.f1⟩ : S50), (rd_T77 x16_1 x18_1).f3, (rd_T77 x16_1 x18_1).f4, (rd_T77 x16_1 x18_1).f5⟩ : S77)] : List (S77))) (inner := [.int .i64 ((rd_T77 x16_1 x18_1).f0), .string ((rd_T77 x16_1 x18_1).f1), .int .i64 ((rd_T77 x16_1 x18_1).f2.f0), .int .i64 ((rd_T77 x16_1 x18_1).f2.f1), .int .i64 ((rd_T77 x16_1 x18_1).f3), .int .i64 ((rd_T77 x16_1 x18_1).f4), .int .i64 ((rd_T77 x16_1 x18_1).f5)]) (ok := fun _ => True) (okp := fun _ => True) ?hr ?hp (fun _ hk => hk) trivial (Below.refl _ _) (Nat.le_refl _) (by simp) ?_; (case hd => rfl); (case hg => rfl); (case hr => first | (go_simp; done) | (go_simp; rfl)); (case hp => exact (Reps.c7 (show Kd.M k77 _ _ _ (⟨(rd_T77 x16_1 x18_1).f0, (rd_T77 x16_1 x18_1).f1, (⟨(rd_T77 x16_1 x18_1).f2.f0, (rd_T77 x16_1 x18_1).f2.f1⟩ : S50), (rd_T77 x16_1 x18_1).f3, (rd_T77 x16_1 x18_1).f4, (rd_T77 x16_1 x18_1).f5⟩ : S77) [.int .i64 ((rd_T77 x16_1 x18_1).f0), .string ((rd_T77 x16_1 x18_1).f1), .int .i64 ((rd_T77 x16_1 x18_1).f2.f0), .int .i64 ((rd_T77 x16_1 x18_1).f2.f1), .int .i64 ((rd_T77 x16_1 x18_1).f3), .int .i64 ((rd_T77 x16_1 x18_1).f4), .int .i64 ((rd_T77 x16_1 x18_1).f5)] from (k77_mkM _ _ _ (⟨(rd_T77 x16_1 x18_1).f0, (rd_T77 x16_1 x18_1).f1, (⟨(rd_T77 x16_1 x18_1).f2.f0, (rd_T77 x16_1 x18_1).f2.f1⟩ : S50), (rd_T77 x16_1 x18_1).f3, (rd_T77 x16_1 x18_1).f4, (rd_T77 x16_1 x18_1).f5⟩ : S77) )) (Reps.none _ _)))
                    intro v176 w18 ho19 hb hg_ hnew_
                    clear hg_ hnew_
                    (first | rw [← Ny175.out] at ho19 | (simp only [Int.reduceToNat] at ho19; rw [← Ny175.out] at ho19))
                    have n0_ := Aside0.mk (Kd.R_elder' (by (with_reducible repeat (first | apply Kd.R_alloc | apply Kd.R_drewN | apply Kd.R_drew)); exact HO_9.out) (Kd.R_base ho19) hb)
                    have n1_ := Aside0.mk (Kd.R_elder' (by (with_reducible repeat (first | apply Kd.R_alloc | apply Kd.R_drewN | apply Kd.R_drew)); exact HO_10.out) (Kd.R_base ho19) hb)
                    have n2_ := Aside0.mk (Kd.R_elder' (by (with_reducible repeat (first | apply Kd.R_alloc | apply Kd.R_drewN | apply Kd.R_drew)); exact HO_16.out) (Kd.R_base ho19) hb)
                    have n3_ := Aside0.mk (Kd.R_lower (Kd.R_newB (Kd.R_new' (Kd.R_new' (Kd.R_new' ho19 (Kd.R_lt (by (with_reducible repeat (first | apply Kd.R_alloc | apply Kd.R_drewN | apply Kd.R_drew)); exact HO_9.out))) (Kd.R_lt (by (with_reducible repeat (first | apply Kd.R_alloc | apply Kd.R_drewN | apply Kd.R_drew)); exact HO_10.out))) (Kd.R_lt (by (with_reducible repeat (first | apply Kd.R_alloc | apply Kd.R_drewN | apply Kd.R_drew)); exact HO_16.out))) (g := gb174) (o := .cells #[.int .i64 ((rd_T77 x16_1 x18_1).f0), .string ((rd_T77 x16_1 x18_1).f1), .int .i64 ((rd_T77 x16_1 x18_1).f2.f0), .int .i64 ((rd_T77 x16_1 x18_1).f2.f1), .int .i64 ((rd_T77 x16_1 x18_1).f3), .int .i64 ((rd_T77 x16_1 x18_1).f4), .int .i64 ((rd_T77 x16_1 x18_1).f5)] 77 (0, 0)) (by (with_reducible repeat (first | refine blk_drewN ?_ _ | refine blk_drew ?_ | refine blk_alloc ?_ _)); exact BK174.out)) (below_size (by repeat (first | (with_reducible first | exact HB.out | apply below_alloc | apply pw_below_drewN | apply below_drew1 | refine below_set ?_ GE174.out) | exact HB.out))))
                    have n4_ := Aside0.mk (blk_below (g := gb174) (o := .cells #[.int .i64 ((rd_T77 x16_1 x18_1).f0), .string ((rd_T77 x16_1 x18_1).f1), .int .i64 ((rd_T77 x16_1 x18_1).f2.f0), .int .i64 ((rd_T77 x16_1 x18_1).f2.f1), .int .i64 ((rd_T77 x16_1 x18_1).f3), .int .i64 ((rd_T77 x16_1 x18_1).f4), .int .i64 ((rd_T77 x16_1 x18_1).f5)] 77 (0, 0)) (by (with_reducible repeat (first | refine blk_drewN ?_ _ | refine blk_drew ?_ | refine blk_alloc ?_ _)); exact BK174.out) hb)
                    have BKM := Aside0.mk (blk_below (by (with_reducible repeat (first | refine blk_drewN ?_ _ | refine blk_drew ?_ | refine blk_alloc ?_ _)); exact BKM.out) hb)
                    have n5_ := Aside0.mk (below_step (by repeat (first | (with_reducible first | exact HB.out | apply below_alloc | apply pw_below_drewN | apply below_drew1 | refine below_set ?_ GE174.out) | exact HB.out)) hb)
                    clear HO_9
                    clear HO_10
                    clear HO_16
                    clear BK174
                    clear HB
                    have HO_9 := n0_
                    have HO_10 := n1_
                    have HO_16 := n2_
                    have HO177 := n3_
                    have BK174 := n4_
                    have HB := n5_
                    clear n0_ n1_ n2_ n3_ n4_ n5_
                    clear hb ho19
                    obtain ⟨Ao21, co21, eo21⟩ := Kd.R_slice HO177.out
                    (first | subst eo21 | (injection eo21 with f1_ f2_ f3_; have f4_ := f1_.symm; have f5_ := f3_.symm; clear f1_ f2_ f3_; subst f4_; subst f5_))
                    refine hK.out _ _ ⟨(blk_cell BK174.out 0).trans rfl, (blk_cell BK174.out 1).trans rfl, (blk_cell BK174.out 2).trans rfl, (blk_cell BK174.out 3).trans rfl, (blk_cell BK174.out 4).trans rfl, (blk_cell BK174.out 5).trans rfl, (blk_cell BK174.out 6).trans rfl⟩ (fun hHeld => ?_)
                    clear hK K
                    refine norm_ (a' := ?_) ?_ ?_
                    rotate_left
                    · show Act.put _ (some 32) _ = _
                      simp only [Act.put, List.setIfInBounds_toArray, List.set_cons_zero, List.set_cons_succ, i64_w, i32_w]
                      rfl
                    refine two_ (i := 3) (j := 6) (Ni := some 33) (Nj := some 36) #[true, true, true, true, true, true, false, false, false, false] #[true, true, true, false, true, true, true, false, false, false] rfl rfl rfl rfl (two_of HT_.out (by kernel_rfl)) (by decide) (by decide) (fun K hK => ?_) (fun K hK => ?_)
                    · skip
                      refine Kd.R_append_rows_step k77 (w0 := w) w.heap.size (by rfl) (.tmp 30) (.tmp 32) 69 77 (.agg #[(.int .i64 0), (.string ⟨#[]⟩), (.int .i64 0), (.int .i64 0), (.int .i64 0), (.int .i64 0), (.int .i64 0)]) 64 rfl Try.underlying69 info77 rfl (by decide) (by omega) (.slice Ao14 x9_1.length co14) x9_1 y175 _ _ _ (fun k_ => some k_ ≠ (.slice Ao15 x10_1.length co15 : Value).ownBlock ∧ some k_ ≠ (.slice (some ad173) x16_1.length co6 : Value).ownBlock ∧ some k_ ≠ (.slice Ao21 y175.length co21 : Value).ownBlock ∧ k_ ≠ gb174) (fun _ => False) rfl rfl ?aO ?aR (fun _ _ h => h) (fun _ h => h.elim) ?aF ?aB ?aS ?aL ?_
                      (case aR => repeat (first | exact (Kd.R_reads' HO177.out).2.2 | (with_reducible refine Kd.C_alloc ?_ _) | (with_reducible refine Kd.C_drewN ?_ _) | (with_reducible refine Kd.C_drew ?_)))
                      (case aB => exact (by repeat (first | (with_reducible first | exact HB.out | apply below_alloc | apply pw_below_drewN | apply below_drew1 | refine below_set ?_ GE174.out) | exact HB.out)))
                      (case aF => exact (fun k_ hk => ⟨Kd.fresh' (Kd.R_lt (by (with_reducible repeat (first | apply Kd.R_alloc | apply Kd.R_drewN | apply Kd.R_drew)); exact HO_10.out)) k_ hk, Kd.fresh' (Kd.R_lt (by (with_reducible repeat (first | apply Kd.R_alloc | apply Kd.R_drewN | apply Kd.R_drew)); exact HO_16.out)) k_ hk, Kd.fresh' (Kd.R_lt (by (with_reducible repeat (first | apply Kd.R_alloc | apply Kd.R_drewN | apply Kd.R_drew)); exact HO177.out)) k_ hk, Kd.freshB (g := gb174) (o := .cells #[.int .i64 ((rd_T77 x16_1 x18_1).f0), .string ((rd_T77 x16_1 x18_1).f1), .int .i64 ((rd_T77 x16_1 x18_1).f2.f0), .int .i64 ((rd_T77 x16_1 x18_1).f2.f1), .int .i64 ((rd_T77 x16_1 x18_1).f3), .int .i64 ((rd_T77 x16_1 x18_1).f4), .int .i64 ((rd_T77 x16_1 x18_1).f5)] 77 (0, 0)) (by (with_reducible repeat (first | refine blk_drewN ?_ _ | refine blk_drew ?_ | refine blk_alloc ?_ _)); exact BK174.out) k_ hk⟩))
                      (case aO => exact (by (with_reducible repeat (first | apply Kd.R_alloc | apply Kd.R_drewN | apply Kd.R_drew)); exact Kd.R_mono HO_9.out (fun _ hk => ⟨hk.1.1, ⟨hk.1.2.1, ⟨hk.2, hk.1.2.2⟩⟩⟩)))
                      (case aS => exact (below_size (by repeat (first | (with_reducible first | exact HB.out | apply below_alloc | apply pw_below_drewN | apply below_drew1 | refine below_set ?_ GE174.out) | exact HB.out))))
                      (case aL => have := LMc10.out; omega)
                      intro v179 w20 ho hb hg hat
                      rw [← Ny178.out] at ho
                      have n0_ := Aside0.mk (Kd.R_after (ok := (fun k_ => some k_ ≠ (.slice (some ad173) x16_1.length co6 : Value).ownBlock ∧ some k_ ≠ (.slice Ao21 y175.length co21 : Value).ownBlock ∧ k_ ≠ gb174)) (by (with_reducible repeat (first | apply Kd.R_alloc | apply Kd.R_drewN | apply Kd.R_drew)); exact Kd.R_mono HO_10.out (fun _ hk => ⟨⟨hk.1.2.1, ⟨hk.2, hk.1.2.2⟩⟩, hk.1.1⟩)) hg hat)
                      have n1_ := Aside0.mk (Kd.R_after (ok := (fun k_ => some k_ ≠ (.slice Ao15 x10_1.length co15 : Value).ownBlock ∧ some k_ ≠ (.slice Ao21 y175.length co21 : Value).ownBlock ∧ k_ ≠ gb174)) (by (with_reducible repeat (first | apply Kd.R_alloc | apply Kd.R_drewN | apply Kd.R_drew)); exact Kd.R_mono HO_16.out (fun _ hk => ⟨⟨hk.1.2.1, ⟨hk.2, hk.1.2.2⟩⟩, hk.1.1⟩)) hg hat)
                      have n2_ := Aside0.mk (blk_grown (g := gb174) (o := .cells #[.int .i64 ((rd_T77 x16_1 x18_1).f0), .string ((rd_T77 x16_1 x18_1).f1), .int .i64 ((rd_T77 x16_1 x18_1).f2.f0), .int .i64 ((rd_T77 x16_1 x18_1).f2.f1), .int .i64 ((rd_T77 x16_1 x18_1).f3), .int .i64 ((rd_T77 x16_1 x18_1).f4), .int .i64 ((rd_T77 x16_1 x18_1).f5)] 77 (0, 0)) (by (with_reducible repeat (first | refine blk_drewN ?_ _ | refine blk_drew ?_ | refine blk_alloc ?_ _)); exact BK174.out) hg (Kd.R_away HO_9.out (fun _ hk => hk.1.2.2)))
                      have BKM := Aside0.mk (blk_grown (by (with_reducible repeat (first | refine blk_drewN ?_ _ | refine blk_drew ?_ | refine blk_alloc ?_ _)); exact BKM.out) hg (R_neMap HO_9.out (obj_map BKM.out hoMap.out)))
                      have n3_ := Aside0.mk (Kd.R_after (ok := (fun k_ => some k_ ≠ (.slice Ao15 x10_1.length co15 : Value).ownBlock ∧ some k_ ≠ (.slice (some ad173) x16_1.length co6 : Value).ownBlock ∧ k_ ≠ gb174)) (by (with_reducible repeat (first | apply Kd.R_alloc | apply Kd.R_drewN | apply Kd.R_drew)); exact Kd.R_mono HO177.out (fun _ hk => ⟨⟨hk.1.1.2, ⟨hk.1.2, hk.2⟩⟩, hk.1.1.1.2⟩)) hg hat)
                      have n4_ := Aside0.mk (hb)
                      have n5_ := Aside0.mk (ho)
                      clear HO_10
                      clear HO_16
                      clear BK174
                      clear HO177
                      clear HB
                      clear HO_9
                      have HO_10 := n0_
                      have HO_16 := n1_
                      have BK174 := n2_
                      have HO177 := n3_
                      have HB := n4_
                      have HO180 := n5_
                      clear n0_ n1_ n2_ n3_ n4_ n5_
                      clear ho hb hg hat
                      refine hK.out _ _ ⟨(blk_cell BK174.out 0).trans rfl, (blk_cell BK174.out 1).trans rfl, (blk_cell BK174.out 2).trans rfl, (blk_cell BK174.out 3).trans rfl, (blk_cell BK174.out 4).trans rfl, (blk_cell BK174.out 5).trans rfl, (blk_cell BK174.out 6).trans rfl⟩ (fun hHeld => ?_)
                      clear hK K
                      refine norm_ (a' := ?_) ?_ ?_
                      rotate_left
                      · show Act.put _ (some 33) _ = _
                        simp only [Act.put, List.setIfInBounds_toArray, List.set_cons_zero, List.set_cons_succ, i64_w, i32_w]
                        rfl
                      refine one_ (i := 6) (N := some 36) #[true, true, true, true, true, true, true, false, false, false] rfl rfl (one_of HT_.out (by kernel_rfl)) (by decide) (fun K hK => ?_)
                      refine Kd.R_lit_step k77 _ 77 ?hg (N := 36) ?hd (xs := ([(⟨(rd_T77 x16_1 x18_1).f0, (rd_T77 x16_1 x18_1).f1, (⟨(rd_T77 x16_1 x18_1).f2.f0, (rd_T77 x16_1 x18_1).f2.f1⟩ : S50), (rd_T77 x16_1 x18_1).f3, (rd_T77 x16_1 x18_1).f4, (rd_T77 x16_1 x18_1).f5⟩ : S77)] : List (S77))) (inner := [.int .i64 ((rd_T77 x16_1 x18_1).f0), .string ((rd_T77 x16_1 x18_1).f1), .int .i64 ((rd_T77 x16_1 x18_1).f2.f0), .int .i64 ((rd_T77 x16_1 x18_1).f2.f1), .int .i64 ((rd_T77 x16_1 x18_1).f3), .int .i64 ((rd_T77 x16_1 x18_1).f4), .int .i64 ((rd_T77 x16_1 x18_1).f5)]) (ok := fun _ => True) (okp := fun _ => True) ?hr ?hp (fun _ hk => hk) trivial (Below.refl _ _) (Nat.le_refl _) (by simp) ?_; (case hd => rfl); (case hg => rfl); (case hr => first | (go_simp; done) | (go_simp; rfl)); (case hp => exact (Reps.c7 (show Kd.M k77 _ _ _ (⟨(rd_T77 x16_1 x18_1).f0, (rd_T77 x16_1 x18_1).f1, (⟨(rd_T77 x16_1 x18_1).f2.f0, (rd_T77 x16_1 x18_1).f2.f1⟩ : S50), (rd_T77 x16_1 x18_1).f3, (rd_T77 x16_1 x18_1).f4, (rd_T77 x16_1 x18_1).f5⟩ : S77) [.int .i64 ((rd_T77 x16_1 x18_1).f0), .string ((rd_T77 x16_1 x18_1).f1), .int .i64 ((rd_T77 x16_1 x18_1).f2.f0), .int .i64 ((rd_T77 x16_1 x18_1).f2.f1), .int .i64 ((rd_T77 x16_1 x18_1).f3), .int .i64 ((rd_T77 x16_1 x18_1).f4), .int .i64 ((rd_T77 x16_1 x18_1).f5)] from (k77_mkM _ _ _ (⟨(rd_T77 x16_1 x18_1).f0, (rd_T77 x16_1 x18_1).f1, (⟨(rd_T77 x16_1 x18_1).f2.f0, (rd_T77 x16_1 x18_1).f2.f1⟩ : S50), (rd_T77 x16_1 x18_1).f3, (rd_T77 x16_1 x18_1).f4, (rd_T77 x16_1 x18_1).f5⟩ : S77) )) (Reps.none _ _)))
                      intro v182 w22 ho23 hb hg_ hnew_
                      clear hg_ hnew_
                      (first | rw [← Ny181.out] at ho23 | (simp only [Int.reduceToNat] at ho23; rw [← Ny181.out] at ho23))
                      have n0_ := Aside0.mk (Kd.R_elder' (by (with_reducible repeat (first | apply Kd.R_alloc | apply Kd.R_drewN | apply Kd.R_drew)); exact HO_10.out) (Kd.R_base ho23) hb)
                      have n1_ := Aside0.mk (Kd.R_elder' (by (with_reducible repeat (first | apply Kd.R_alloc | apply Kd.R_drewN | apply Kd.R_drew)); exact HO_16.out) (Kd.R_base ho23) hb)
                      have n2_ := Aside0.mk (Kd.R_elder' (by (with_reducible repeat (first | apply Kd.R_alloc | apply Kd.R_drewN | apply Kd.R_drew)); exact HO177.out) (Kd.R_base ho23) hb)
                      have n3_ := Aside0.mk (Kd.R_elder' (by (with_reducible repeat (first | apply Kd.R_alloc | apply Kd.R_drewN | apply Kd.R_drew)); exact HO180.out) (Kd.R_base ho23) hb)
                      have n4_ := Aside0.mk (Kd.R_lower (Kd.R_newB (Kd.R_new' (Kd.R_new' (Kd.R_new' (Kd.R_new' ho23 (Kd.R_lt (by (with_reducible repeat (first | apply Kd.R_alloc | apply Kd.R_drewN | apply Kd.R_drew)); exact HO_10.out))) (Kd.R_lt (by (with_reducible repeat (first | apply Kd.R_alloc | apply Kd.R_drewN | apply Kd.R_drew)); exact HO_16.out))) (Kd.R_lt (by (with_reducible repeat (first | apply Kd.R_alloc | apply Kd.R_drewN | apply Kd.R_drew)); exact HO177.out))) (Kd.R_lt (by (with_reducible repeat (first | apply Kd.R_alloc | apply Kd.R_drewN | apply Kd.R_drew)); exact HO180.out))) (g := gb174) (o := .cells #[.int .i64 ((rd_T77 x16_1 x18_1).f0), .string ((rd_T77 x16_1 x18_1).f1), .int .i64 ((rd_T77 x16_1 x18_1).f2.f0), .int .i64 ((rd_T77 x16_1 x18_1).f2.f1), .int .i64 ((rd_T77 x16_1 x18_1).f3), .int .i64 ((rd_T77 x16_1 x18_1).f4), .int .i64 ((rd_T77 x16_1 x18_1).f5)] 77 (0, 0)) (by (with_reducible repeat (first | refine blk_drewN ?_ _ | refine blk_drew ?_ | refine blk_alloc ?_ _)); exact BK174.out)) (below_size (by repeat (first | (with_reducible first | exact HB.out | apply below_alloc | apply pw_below_drewN | apply below_drew1 | refine below_set ?_ GE174.out) | exact HB.out))))
                      have n5_ := Aside0.mk (blk_below (g := gb174) (o := .cells #[.int .i64 ((rd_T77 x16_1 x18_1).f0), .string ((rd_T77 x16_1 x18_1).f1), .int .i64 ((rd_T77 x16_1 x18_1).f2.f0), .int .i64 ((rd_T77 x16_1 x18_1).f2.f1), .int .i64 ((rd_T77 x16_1 x18_1).f3), .int .i64 ((rd_T77 x16_1 x18_1).f4), .int .i64 ((rd_T77 x16_1 x18_1).f5)] 77 (0, 0)) (by (with_reducible repeat (first | refine blk_drewN ?_ _ | refine blk_drew ?_ | refine blk_alloc ?_ _)); exact BK174.out) hb)
                      have BKM := Aside0.mk (blk_below (by (with_reducible repeat (first | refine blk_drewN ?_ _ | refine blk_drew ?_ | refine blk_alloc ?_ _)); exact BKM.out) hb)
                      have n6_ := Aside0.mk (below_step (by repeat (first | (with_reducible first | exact HB.out | apply below_alloc | apply pw_below_drewN | apply below_drew1 | refine below_set ?_ GE174.out) | exact HB.out)) hb)
                      clear HO_10
                      clear HO_16
                      clear HO177
                      clear HO180
                      clear BK174
                      clear HB
                      have HO_10 := n0_
                      have HO_16 := n1_
                      have HO177 := n2_
                      have HO180 := n3_
                      have HO183 := n4_
                      have BK174 := n5_
                      have HB := n6_
                      clear n0_ n1_ n2_ n3_ n4_ n5_ n6_
                      clear hb ho23
                      refine hK.out _ _ ⟨(blk_cell BK174.out 0).trans rfl, (blk_cell BK174.out 1).trans rfl, (blk_cell BK174.out 2).trans rfl, (blk_cell BK174.out 3).trans rfl, (blk_cell BK174.out 4).trans rfl, (blk_cell BK174.out 5).trans rfl, (blk_cell BK174.out 6).trans rfl⟩ (fun hHeld => ?_)
                      clear hK K
                      refine norm_ (a' := ?_) ?_ ?_
                      rotate_left
                      · show Act.put _ (some 36) _ = _
                        simp only [Act.put, List.setIfInBounds_toArray, List.set_cons_zero, List.set_cons_succ, i64_w, i32_w]
                        rfl
                      exact norm_ (by simp only [putAll, Act.put, List.setIfInBounds_toArray, List.set_cons_zero, List.set_cons_succ]) (hCont (.slice Ao21 y175.length co21, v179, v182) _ ⟨hHeld, (by (with_reducible repeat (first | apply Kd.R_alloc | apply Kd.R_drewN | apply Kd.R_drew)); exact Kd.R_mono HO177.out (fun _ hk => ⟨hk.1.2, ⟨hk.2, ⟨hk.1.1.1, ⟨hk.1.1.2.1, hk.1.1.2.2⟩⟩⟩⟩)), (by (with_reducible repeat (first | apply Kd.R_alloc | apply Kd.R_drewN | apply Kd.R_drew)); exact Kd.R_mono HO180.out (fun _ hk => ⟨hk.1.2.2.1, ⟨hk.2, ⟨hk.1.1, ⟨hk.1.2.1, hk.1.2.2.2⟩⟩⟩⟩)), (by (with_reducible repeat (first | apply Kd.R_alloc | apply Kd.R_drewN | apply Kd.R_drew)); exact Kd.R_mono HO183.out (fun _ hk => ⟨hk.1.1.2, ⟨hk.1.2, ⟨hk.1.1.1.1.2, ⟨hk.1.1.1.2, hk.2⟩⟩⟩⟩)), (by (with_reducible repeat (first | apply Kd.R_alloc | apply Kd.R_drewN | apply Kd.R_drew)); exact Kd.R_mono HO_10.out (fun _ hk => ⟨hk.1.1.2.1, ⟨hk.1.2, ⟨hk.2, ⟨hk.1.1.1, hk.1.1.2.2⟩⟩⟩⟩)), (by (with_reducible repeat (first | apply Kd.R_alloc | apply Kd.R_drewN | apply Kd.R_drew)); exact Kd.R_mono HO_16.out (fun _ hk => ⟨hk.1.1.2.1, ⟨hk.1.2, ⟨hk.2, ⟨hk.1.1.1, hk.1.1.2.2⟩⟩⟩⟩)), (by (with_reducible repeat (first | refine blk_drewN ?_ _ | refine blk_drew ?_ | refine blk_alloc ?_ _)); exact BK174.out), (by repeat (first | (with_reducible first | exact HB.out | apply below_alloc | apply pw_below_drewN | apply below_drew1 | refine below_set ?_ GE174.out) | exact HB.out)), (by (with_reducible repeat (first | refine blk_drewN ?_ _ | refine blk_drew ?_ | refine blk_alloc ?_ _)); exact BKM.out)⟩)
                    · skip
                      refine Kd.R_lit_step k77 _ 77 ?hg (N := 36) ?hd (xs := ([(⟨(rd_T77 x16_1 x18_1).f0, (rd_T77 x16_1 x18_1).f1, (⟨(rd_T77 x16_1 x18_1).f2.f0, (rd_T77 x16_1 x18_1).f2.f1⟩ : S50), (rd_T77 x16_1 x18_1).f3, (rd_T77 x16_1 x18_1).f4, (rd_T77 x16_1 x18_1).f5⟩ : S77)] : List (S77))) (inner := [.int .i64 ((rd_T77 x16_1 x18_1).f0), .string ((rd_T77 x16_1 x18_1).f1), .int .i64 ((rd_T77 x16_1 x18_1).f2.f0), .int .i64 ((rd_T77 x16_1 x18_1).f2.f1), .int .i64 ((rd_T77 x16_1 x18_1).f3), .int .i64 ((rd_T77 x16_1 x18_1).f4), .int .i64 ((rd_T77 x16_1 x18_1).f5)]) (ok := fun _ => True) (okp := fun _ => True) ?hr ?hp (fun _ hk => hk) trivial (Below.refl _ _) (Nat.le_refl _) (by simp) ?_; (case hd => rfl); (case hg => rfl); (case hr => first | (go_simp; done) | (go_simp; rfl)); (case hp => exact (Reps.c7 (show Kd.M k77 _ _ _ (⟨(rd_T77 x16_1 x18_1).f0, (rd_T77 x16_1 x18_1).f1, (⟨(rd_T77 x16_1 x18_1).f2.f0, (rd_T77 x16_1 x18_1).f2.f1⟩ : S50), (rd_T77 x16_1 x18_1).f3, (rd_T77 x16_1 x18_1).f4, (rd_T77 x16_1 x18_1).f5⟩ : S77) [.int .i64 ((rd_T77 x16_1 x18_1).f0), .string ((rd_T77 x16_1 x18_1).f1), .int .i64 ((rd_T77 x16_1 x18_1).f2.f0), .int .i64 ((rd_T77 x16_1 x18_1).f2.f1), .int .i64 ((rd_T77 x16_1 x18_1).f3), .int .i64 ((rd_T77 x16_1 x18_1).f4), .int .i64 ((rd_T77 x16_1 x18_1).f5)] from (k77_mkM _ _ _ (⟨(rd_T77 x16_1 x18_1).f0, (rd_T77 x16_1 x18_1).f1, (⟨(rd_T77 x16_1 x18_1).f2.f0, (rd_T77 x16_1 x18_1).f2.f1⟩ : S50), (rd_T77 x16_1 x18_1).f3, (rd_T77 x16_1 x18_1).f4, (rd_T77 x16_1 x18_1).f5⟩ : S77) )) (Reps.none _ _)))
                      intro v182 w20 ho21 hb hg_ hnew_
                      clear hg_ hnew_
                      (first | rw [← Ny181.out] at ho21 | (simp only [Int.reduceToNat] at ho21; rw [← Ny181.out] at ho21))
                      have n0_ := Aside0.mk (Kd.R_elder' (by (with_reducible repeat (first | apply Kd.R_alloc | apply Kd.R_drewN | apply Kd.R_drew)); exact HO_9.out) (Kd.R_base ho21) hb)
                      have n1_ := Aside0.mk (Kd.R_elder' (by (with_reducible repeat (first | apply Kd.R_alloc | apply Kd.R_drewN | apply Kd.R_drew)); exact HO_10.out) (Kd.R_base ho21) hb)
                      have n2_ := Aside0.mk (Kd.R_elder' (by (with_reducible repeat (first | apply Kd.R_alloc | apply Kd.R_drewN | apply Kd.R_drew)); exact HO_16.out) (Kd.R_base ho21) hb)
                      have n3_ := Aside0.mk (Kd.R_elder' (by (with_reducible repeat (first | apply Kd.R_alloc | apply Kd.R_drewN | apply Kd.R_drew)); exact HO177.out) (Kd.R_base ho21) hb)
                      have n4_ := Aside0.mk (Kd.R_lower (Kd.R_newB (Kd.R_new' (Kd.R_new' (Kd.R_new' (Kd.R_new' ho21 (Kd.R_lt (by (with_reducible repeat (first | apply Kd.R_alloc | apply Kd.R_drewN | apply Kd.R_drew)); exact HO_9.out))) (Kd.R_lt (by (with_reducible repeat (first | apply Kd.R_alloc | apply Kd.R_drewN | apply Kd.R_drew)); exact HO_10.out))) (Kd.R_lt (by (with_reducible repeat (first | apply Kd.R_alloc | apply Kd.R_drewN | apply Kd.R_drew)); exact HO_16.out))) (Kd.R_lt (by (with_reducible repeat (first | apply Kd.R_alloc | apply Kd.R_drewN | apply Kd.R_drew)); exact HO177.out))) (g := gb174) (o := .cells #[.int .i64 ((rd_T77 x16_1 x18_1).f0), .string ((rd_T77 x16_1 x18_1).f1), .int .i64 ((rd_T77 x16_1 x18_1).f2.f0), .int .i64 ((rd_T77 x16_1 x18_1).f2.f1), .int .i64 ((rd_T77 x16_1 x18_1).f3), .int .i64 ((rd_T77 x16_1 x18_1).f4), .int .i64 ((rd_T77 x16_1 x18_1).f5)] 77 (0, 0)) (by (with_reducible repeat (first | refine blk_drewN ?_ _ | refine blk_drew ?_ | refine blk_alloc ?_ _)); exact BK174.out)) (below_size (by repeat (first | (with_reducible first | exact HB.out | apply below_alloc | apply pw_below_drewN | apply below_drew1 | refine below_set ?_ GE174.out) | exact HB.out))))
                      have n5_ := Aside0.mk (blk_below (g := gb174) (o := .cells #[.int .i64 ((rd_T77 x16_1 x18_1).f0), .string ((rd_T77 x16_1 x18_1).f1), .int .i64 ((rd_T77 x16_1 x18_1).f2.f0), .int .i64 ((rd_T77 x16_1 x18_1).f2.f1), .int .i64 ((rd_T77 x16_1 x18_1).f3), .int .i64 ((rd_T77 x16_1 x18_1).f4), .int .i64 ((rd_T77 x16_1 x18_1).f5)] 77 (0, 0)) (by (with_reducible repeat (first | refine blk_drewN ?_ _ | refine blk_drew ?_ | refine blk_alloc ?_ _)); exact BK174.out) hb)
                      have BKM := Aside0.mk (blk_below (by (with_reducible repeat (first | refine blk_drewN ?_ _ | refine blk_drew ?_ | refine blk_alloc ?_ _)); exact BKM.out) hb)
                      have n6_ := Aside0.mk (below_step (by repeat (first | (with_reducible first | exact HB.out | apply below_alloc | apply pw_below_drewN | apply below_drew1 | refine below_set ?_ GE174.out) | exact HB.out)) hb)
                      clear HO_9
                      clear HO_10
                      clear HO_16
                      clear HO177
                      clear BK174
                      clear HB
                      have HO_9 := n0_
                      have HO_10 := n1_
                      have HO_16 := n2_
                      have HO177 := n3_
                      have HO183 := n4_
                      have BK174 := n5_
                      have HB := n6_
                      clear n0_ n1_ n2_ n3_ n4_ n5_ n6_
                      clear hb ho21
                      obtain ⟨Ao23, co23, eo23⟩ := Kd.R_slice HO177.out
                      (first | subst eo23 | (injection eo23 with f1_ f2_ f3_; have f4_ := f1_.symm; have f5_ := f3_.symm; clear f1_ f2_ f3_; subst f4_; subst f5_))
                      refine hK.out _ _ ⟨(blk_cell BK174.out 0).trans rfl, (blk_cell BK174.out 1).trans rfl, (blk_cell BK174.out 2).trans rfl, (blk_cell BK174.out 3).trans rfl, (blk_cell BK174.out 4).trans rfl, (blk_cell BK174.out 5).trans rfl, (blk_cell BK174.out 6).trans rfl⟩ (fun hHeld => ?_)
                      clear hK K
                      refine norm_ (a' := ?_) ?_ ?_
                      rotate_left
                      · show Act.put _ (some 36) _ = _
                        simp only [Act.put, List.setIfInBounds_toArray, List.set_cons_zero, List.set_cons_succ, i64_w, i32_w]
                        rfl
                      refine one_ (i := 3) (N := some 33) #[true, true, true, true, true, true, true, false, false, false] rfl rfl (one_of HT_.out (by kernel_rfl)) (by decide) (fun K hK => ?_)
                      refine Kd.R_append_rows_step k77 (w0 := w) w.heap.size (by rfl) (.tmp 30) (.tmp 32) 69 77 (.agg #[(.int .i64 0), (.string ⟨#[]⟩), (.int .i64 0), (.int .i64 0), (.int .i64 0), (.int .i64 0), (.int .i64 0)]) 64 rfl Try.underlying69 info77 rfl (by decide) (by omega) (.slice Ao14 x9_1.length co14) x9_1 y175 _ _ _ (fun k_ => some k_ ≠ (.slice Ao15 x10_1.length co15 : Value).ownBlock ∧ some k_ ≠ (.slice (some ad173) x16_1.length co6 : Value).ownBlock ∧ some k_ ≠ (.slice Ao23 y175.length co23 : Value).ownBlock ∧ some k_ ≠ (v182 : Value).ownBlock ∧ k_ ≠ gb174) (fun _ => False) rfl rfl ?aO ?aR (fun _ _ h => h) (fun _ h => h.elim) ?aF ?aB ?aS ?aL ?_
                      (case aR => repeat (first | exact (Kd.R_reads' HO177.out).2.2 | (with_reducible refine Kd.C_alloc ?_ _) | (with_reducible refine Kd.C_drewN ?_ _) | (with_reducible refine Kd.C_drew ?_)))
                      (case aB => exact (by repeat (first | (with_reducible first | exact HB.out | apply below_alloc | apply pw_below_drewN | apply below_drew1 | refine below_set ?_ GE174.out) | exact HB.out)))
                      (case aF => exact (fun k_ hk => ⟨Kd.fresh' (Kd.R_lt (by (with_reducible repeat (first | apply Kd.R_alloc | apply Kd.R_drewN | apply Kd.R_drew)); exact HO_10.out)) k_ hk, Kd.fresh' (Kd.R_lt (by (with_reducible repeat (first | apply Kd.R_alloc | apply Kd.R_drewN | apply Kd.R_drew)); exact HO_16.out)) k_ hk, Kd.fresh' (Kd.R_lt (by (with_reducible repeat (first | apply Kd.R_alloc | apply Kd.R_drewN | apply Kd.R_drew)); exact HO177.out)) k_ hk, Kd.fresh' (Kd.R_lt (by (with_reducible repeat (first | apply Kd.R_alloc | apply Kd.R_drewN | apply Kd.R_drew)); exact HO183.out)) k_ hk, Kd.freshB (g := gb174) (o := .cells #[.int .i64 ((rd_T77 x16_1 x18_1).f0), .string ((rd_T77 x16_1 x18_1).f1), .int .i64 ((rd_T77 x16_1 x18_1).f2.f0), .int .i64 ((rd_T77 x16_1 x18_1).f2.f1), .int .i64 ((rd_T77 x16_1 x18_1).f3), .int .i64 ((rd_T77 x16_1 x18_1).f4), .int .i64 ((rd_T77 x16_1 x18_1).f5)] 77 (0, 0)) (by (with_reducible repeat (first | refine blk_drewN ?_ _ | refine blk_drew ?_ | refine blk_alloc ?_ _)); exact BK174.out) k_ hk⟩))
                      (case aO => exact (by (with_reducible repeat (first | apply Kd.R_alloc | apply Kd.R_drewN | apply Kd.R_drew)); exact Kd.R_mono HO_9.out (fun _ hk => ⟨hk.1.1.1, ⟨hk.1.1.2.1, ⟨hk.1.2, ⟨hk.2, hk.1.1.2.2⟩⟩⟩⟩)))
                      (case aS => exact (below_size (by repeat (first | (with_reducible first | exact HB.out | apply below_alloc | apply pw_below_drewN | apply below_drew1 | refine below_set ?_ GE174.out) | exact HB.out))))
                      (case aL => have := LMc10.out; omega)
                      intro v179 w22 ho hb hg hat
                      rw [← Ny178.out] at ho
                      have n0_ := Aside0.mk (Kd.R_after (ok := (fun k_ => some k_ ≠ (.slice (some ad173) x16_1.length co6 : Value).ownBlock ∧ some k_ ≠ (.slice Ao23 y175.length co23 : Value).ownBlock ∧ some k_ ≠ (v182 : Value).ownBlock ∧ k_ ≠ gb174)) (by (with_reducible repeat (first | apply Kd.R_alloc | apply Kd.R_drewN | apply Kd.R_drew)); exact Kd.R_mono HO_10.out (fun _ hk => ⟨⟨hk.1.1.2.1, ⟨hk.1.2, ⟨hk.2, hk.1.1.2.2⟩⟩⟩, hk.1.1.1⟩)) hg hat)
                      have n1_ := Aside0.mk (Kd.R_after (ok := (fun k_ => some k_ ≠ (.slice Ao15 x10_1.length co15 : Value).ownBlock ∧ some k_ ≠ (.slice Ao23 y175.length co23 : Value).ownBlock ∧ some k_ ≠ (v182 : Value).ownBlock ∧ k_ ≠ gb174)) (by (with_reducible repeat (first | apply Kd.R_alloc | apply Kd.R_drewN | apply Kd.R_drew)); exact Kd.R_mono HO_16.out (fun _ hk => ⟨⟨hk.1.1.2.1, ⟨hk.1.2, ⟨hk.2, hk.1.1.2.2⟩⟩⟩, hk.1.1.1⟩)) hg hat)
                      have n2_ := Aside0.mk (blk_grown (g := gb174) (o := .cells #[.int .i64 ((rd_T77 x16_1 x18_1).f0), .string ((rd_T77 x16_1 x18_1).f1), .int .i64 ((rd_T77 x16_1 x18_1).f2.f0), .int .i64 ((rd_T77 x16_1 x18_1).f2.f1), .int .i64 ((rd_T77 x16_1 x18_1).f3), .int .i64 ((rd_T77 x16_1 x18_1).f4), .int .i64 ((rd_T77 x16_1 x18_1).f5)] 77 (0, 0)) (by (with_reducible repeat (first | refine blk_drewN ?_ _ | refine blk_drew ?_ | refine blk_alloc ?_ _)); exact BK174.out) hg (Kd.R_away HO_9.out (fun _ hk => hk.1.1.2.2)))
                      have BKM := Aside0.mk (blk_grown (by (with_reducible repeat (first | refine blk_drewN ?_ _ | refine blk_drew ?_ | refine blk_alloc ?_ _)); exact BKM.out) hg (R_neMap HO_9.out (obj_map BKM.out hoMap.out)))
                      have n3_ := Aside0.mk (Kd.R_after (ok := (fun k_ => some k_ ≠ (.slice Ao15 x10_1.length co15 : Value).ownBlock ∧ some k_ ≠ (.slice (some ad173) x16_1.length co6 : Value).ownBlock ∧ some k_ ≠ (v182 : Value).ownBlock ∧ k_ ≠ gb174)) (by (with_reducible repeat (first | apply Kd.R_alloc | apply Kd.R_drewN | apply Kd.R_drew)); exact Kd.R_mono HO177.out (fun _ hk => ⟨⟨hk.1.1.1.2, ⟨hk.1.1.2, ⟨hk.2, hk.1.2⟩⟩⟩, hk.1.1.1.1.2⟩)) hg hat)
                      have n4_ := Aside0.mk (Kd.R_after (ok := (fun k_ => some k_ ≠ (.slice Ao15 x10_1.length co15 : Value).ownBlock ∧ some k_ ≠ (.slice (some ad173) x16_1.length co6 : Value).ownBlock ∧ some k_ ≠ (.slice Ao23 y175.length co23 : Value).ownBlock ∧ k_ ≠ gb174)) (by (with_reducible repeat (first | apply Kd.R_alloc | apply Kd.R_drewN | apply Kd.R_drew)); exact Kd.R_mono HO183.out (fun _ hk => ⟨⟨hk.1.1.1.2, ⟨hk.1.1.2, ⟨hk.1.2, hk.2⟩⟩⟩, hk.1.1.1.1.2⟩)) hg hat)
                      have n5_ := Aside0.mk (hb)
                      have n6_ := Aside0.mk (ho)
                      clear HO_10
                      clear HO_16
                      clear BK174
                      clear HO177
                      clear HO183
                      clear HB
                      clear HO_9
                      have HO_10 := n0_
                      have HO_16 := n1_
                      have BK174 := n2_
                      have HO177 := n3_
                      have HO183 := n4_
                      have HB := n5_
                      have HO180 := n6_
                      clear n0_ n1_ n2_ n3_ n4_ n5_ n6_
                      clear ho hb hg hat
                      refine hK.out _ _ ⟨(blk_cell BK174.out 0).trans rfl, (blk_cell BK174.out 1).trans rfl, (blk_cell BK174.out 2).trans rfl, (blk_cell BK174.out 3).trans rfl, (blk_cell BK174.out 4).trans rfl, (blk_cell BK174.out 5).trans rfl, (blk_cell BK174.out 6).trans rfl⟩ (fun hHeld => ?_)
                      clear hK K
                      refine norm_ (a' := ?_) ?_ ?_
                      rotate_left
                      · show Act.put _ (some 33) _ = _
                        simp only [Act.put, List.setIfInBounds_toArray, List.set_cons_zero, List.set_cons_succ, i64_w, i32_w]
                        rfl
                      exact norm_ (by simp only [putAll, Act.put, List.setIfInBounds_toArray, List.set_cons_zero, List.set_cons_succ]) (hCont (.slice Ao23 y175.length co23, v179, v182) _ ⟨hHeld, (by (with_reducible repeat (first | apply Kd.R_alloc | apply Kd.R_drewN | apply Kd.R_drew)); exact Kd.R_mono HO177.out (fun _ hk => ⟨hk.2, ⟨hk.1.2.2.1, ⟨hk.1.1, ⟨hk.1.2.1, hk.1.2.2.2⟩⟩⟩⟩)), (by (with_reducible repeat (first | apply Kd.R_alloc | apply Kd.R_drewN | apply Kd.R_drew)); exact Kd.R_mono HO180.out (fun _ hk => ⟨hk.2.2.1, ⟨hk.2.2.2.1, ⟨hk.1, ⟨hk.2.1, hk.2.2.2.2⟩⟩⟩⟩)), (by (with_reducible repeat (first | apply Kd.R_alloc | apply Kd.R_drewN | apply Kd.R_drew)); exact Kd.R_mono HO183.out (fun _ hk => ⟨hk.1.2.2.1, ⟨hk.2, ⟨hk.1.1, ⟨hk.1.2.1, hk.1.2.2.2⟩⟩⟩⟩)), (by (with_reducible repeat (first | apply Kd.R_alloc | apply Kd.R_drewN | apply Kd.R_drew)); exact Kd.R_mono HO_10.out (fun _ hk => ⟨hk.1.2.1, ⟨hk.2, ⟨hk.1.2.2.1, ⟨hk.1.1, hk.1.2.2.2⟩⟩⟩⟩)), (by (with_reducible repeat (first | apply Kd.R_alloc | apply Kd.R_drewN | apply Kd.R_drew)); exact Kd.R_mono HO_16.out (fun _ hk => ⟨hk.1.2.1, ⟨hk.2, ⟨hk.1.2.2.1, ⟨hk.1.1, hk.1.2.2.2⟩⟩⟩⟩)), (by (with_reducible repeat (first | refine blk_drewN ?_ _ | refine blk_drew ?_ | refine blk_alloc ?_ _)); exact BK174.out), (by repeat (first | (with_reducible first | exact HB.out | apply below_alloc | apply pw_below_drewN | apply below_drew1 | refine below_set ?_ GE174.out) | exact HB.out)), (by (with_reducible repeat (first | refine blk_drewN ?_ _ | refine blk_drew ?_ | refine blk_alloc ?_ _)); exact BKM.out)⟩)
                  · skip
                    refine Kd.R_lit_step k77 _ 77 ?hg (N := 36) ?hd (xs := ([(⟨(rd_T77 x16_1 x18_1).f0, (rd_T77 x16_1 x18_1).f1, (⟨(rd_T77 x16_1 x18_1).f2.f0, (rd_T77 x16_1 x18_1).f2.f1⟩ : S50), (rd_T77 x16_1 x18_1).f3, (rd_T77 x16_1 x18_1).f4, (rd_T77 x16_1 x18_1).f5⟩ : S77)] : List (S77))) (inner := [.int .i64 ((rd_T77 x16_1 x18_1).f0), .string ((rd_T77 x16_1 x18_1).f1), .int .i64 ((rd_T77 x16_1 x18_1).f2.f0), .int .i64 ((rd_T77 x16_1 x18_1).f2.f1), .int .i64 ((rd_T77 x16_1 x18_1).f3), .int .i64 ((rd_T77 x16_1 x18_1).f4), .int .i64 ((rd_T77 x16_1 x18_1).f5)]) (ok := fun _ => True) (okp := fun _ => True) ?hr ?hp (fun _ hk => hk) trivial (Below.refl _ _) (Nat.le_refl _) (by simp) ?_; (case hd => rfl); (case hg => rfl); (case hr => first | (go_simp; done) | (go_simp; rfl)); (case hp => exact (Reps.c7 (show Kd.M k77 _ _ _ (⟨(rd_T77 x16_1 x18_1).f0, (rd_T77 x16_1 x18_1).f1, (⟨(rd_T77 x16_1 x18_1).f2.f0, (rd_T77 x16_1 x18_1).f2.f1⟩ : S50), (rd_T77 x16_1 x18_1).f3, (rd_T77 x16_1 x18_1).f4, (rd_T77 x16_1 x18_1).f5⟩ : S77) [.int .i64 ((rd_T77 x16_1 x18_1).f0), .string ((rd_T77 x16_1 x18_1).f1), .int .i64 ((rd_T77 x16_1 x18_1).f2.f0), .int .i64 ((rd_T77 x16_1 x18_1).f2.f1), .int .i64 ((rd_T77 x16_1 x18_1).f3), .int .i64 ((rd_T77 x16_1 x18_1).f4), .int .i64 ((rd_T77 x16_1 x18_1).f5)] from (k77_mkM _ _ _ (⟨(rd_T77 x16_1 x18_1).f0, (rd_T77 x16_1 x18_1).f1, (⟨(rd_T77 x16_1 x18_1).f2.f0, (rd_T77 x16_1 x18_1).f2.f1⟩ : S50), (rd_T77 x16_1 x18_1).f3, (rd_T77 x16_1 x18_1).f4, (rd_T77 x16_1 x18_1).f5⟩ : S77) )) (Reps.none _ _)))
                    intro v182 w18 ho19 hb hg_ hnew_
                    clear hg_ hnew_
                    (first | rw [← Ny181.out] at ho19 | (simp only [Int.reduceToNat] at ho19; rw [← Ny181.out] at ho19))
                    have n0_ := Aside0.mk (Kd.R_elder' (by (with_reducible repeat (first | apply Kd.R_alloc | apply Kd.R_drewN | apply Kd.R_drew)); exact HO_9.out) (Kd.R_base ho19) hb)
                    have n1_ := Aside0.mk (Kd.R_elder' (by (with_reducible repeat (first | apply Kd.R_alloc | apply Kd.R_drewN | apply Kd.R_drew)); exact HO_10.out) (Kd.R_base ho19) hb)
                    have n2_ := Aside0.mk (Kd.R_elder' (by (with_reducible repeat (first | apply Kd.R_alloc | apply Kd.R_drewN | apply Kd.R_drew)); exact HO_16.out) (Kd.R_base ho19) hb)
                    have n3_ := Aside0.mk (Kd.R_lower (Kd.R_newB (Kd.R_new' (Kd.R_new' (Kd.R_new' ho19 (Kd.R_lt (by (with_reducible repeat (first | apply Kd.R_alloc | apply Kd.R_drewN | apply Kd.R_drew)); exact HO_9.out))) (Kd.R_lt (by (with_reducible repeat (first | apply Kd.R_alloc | apply Kd.R_drewN | apply Kd.R_drew)); exact HO_10.out))) (Kd.R_lt (by (with_reducible repeat (first | apply Kd.R_alloc | apply Kd.R_drewN | apply Kd.R_drew)); exact HO_16.out))) (g := gb174) (o := .cells #[.int .i64 ((rd_T77 x16_1 x18_1).f0), .string ((rd_T77 x16_1 x18_1).f1), .int .i64 ((rd_T77 x16_1 x18_1).f2.f0), .int .i64 ((rd_T77 x16_1 x18_1).f2.f1), .int .i64 ((rd_T77 x16_1 x18_1).f3), .int .i64 ((rd_T77 x16_1 x18_1).f4), .int .i64 ((rd_T77 x16_1 x18_1).f5)] 77 (0, 0)) (by (with_reducible repeat (first | refine blk_drewN ?_ _ | refine blk_drew ?_ | refine blk_alloc ?_ _)); exact BK174.out)) (below_size (by repeat (first | (with_reducible first | exact HB.out | apply below_alloc | apply pw_below_drewN | apply below_drew1 | refine below_set ?_ GE174.out) | exact HB.out))))
                    have n4_ := Aside0.mk (blk_below (g := gb174) (o := .cells #[.int .i64 ((rd_T77 x16_1 x18_1).f0), .string ((rd_T77 x16_1 x18_1).f1), .int .i64 ((rd_T77 x16_1 x18_1).f2.f0), .int .i64 ((rd_T77 x16_1 x18_1).f2.f1), .int .i64 ((rd_T77 x16_1 x18_1).f3), .int .i64 ((rd_T77 x16_1 x18_1).f4), .int .i64 ((rd_T77 x16_1 x18_1).f5)] 77 (0, 0)) (by (with_reducible repeat (first | refine blk_drewN ?_ _ | refine blk_drew ?_ | refine blk_alloc ?_ _)); exact BK174.out) hb)
                    have BKM := Aside0.mk (blk_below (by (with_reducible repeat (first | refine blk_drewN ?_ _ | refine blk_drew ?_ | refine blk_alloc ?_ _)); exact BKM.out) hb)
                    have n5_ := Aside0.mk (below_step (by repeat (first | (with_reducible first | exact HB.out | apply below_alloc | apply pw_below_drewN | apply below_drew1 | refine below_set ?_ GE174.out) | exact HB.out)) hb)
                    clear HO_9
                    clear HO_10
                    clear HO_16
                    clear BK174
                    clear HB
                    have HO_9 := n0_
                    have HO_10 := n1_
                    have HO_16 := n2_
                    have HO183 := n3_
                    have BK174 := n4_
                    have HB := n5_
                    clear n0_ n1_ n2_ n3_ n4_ n5_
                    clear hb ho19
                    refine hK.out _ _ ⟨(blk_cell BK174.out 0).trans rfl, (blk_cell BK174.out 1).trans rfl, (blk_cell BK174.out 2).trans rfl, (blk_cell BK174.out 3).trans rfl, (blk_cell BK174.out 4).trans rfl, (blk_cell BK174.out 5).trans rfl, (blk_cell BK174.out 6).trans rfl⟩ (fun hHeld => ?_)
                    clear hK K
                    refine norm_ (a' := ?_) ?_ ?_
                    rotate_left
                    · show Act.put _ (some 36) _ = _
                      simp only [Act.put, List.setIfInBounds_toArray, List.set_cons_zero, List.set_cons_succ, i64_w, i32_w]
                      rfl
                    refine one_ (i := 2) (N := some 32) #[true, true, true, false, true, true, true, false, false, false] rfl rfl (one_of HT_.out (by kernel_rfl)) (by decide) (fun K hK => ?_)
                    refine Kd.R_lit_step k77 _ 77 ?hg (N := 32) ?hd (xs := ([(⟨(rd_T77 x16_1 x18_1).f0, (rd_T77 x16_1 x18_1).f1, (⟨(rd_T77 x16_1 x18_1).f2.f0, (rd_T77 x16_1 x18_1).f2.f1⟩ : S50), (rd_T77 x16_1 x18_1).f3, (rd_T77 x16_1 x18_1).f4, (rd_T77 x16_1 x18_1).f5⟩ : S77)] : List (S77))) (inner := [.int .i64 ((rd_T77 x16_1 x18_1).f0), .string ((rd_T77 x16_1 x18_1).f1), .int .i64 ((rd_T77 x16_1 x18_1).f2.f0), .int .i64 ((rd_T77 x16_1 x18_1).f2.f1), .int .i64 ((rd_T77 x16_1 x18_1).f3), .int .i64 ((rd_T77 x16_1 x18_1).f4), .int .i64 ((rd_T77 x16_1 x18_1).f5)]) (ok := fun _ => True) (okp := fun _ => True) ?hr ?hp (fun _ hk => hk) trivial (Below.refl _ _) (Nat.le_refl _) (by simp) ?_; (case hd => rfl); (case hg => rfl); (case hr => first | (go_simp; done) | (go_simp; rfl)); (case hp => exact (Reps.c7 (show Kd.M k77 _ _ _ (⟨(rd_T77 x16_1 x18_1).f0, (rd_T77 x16_1 x18_1).f1, (⟨(rd_T77 x16_1 x18_1).f2.f0, (rd_T77 x16_1 x18_1).f2.f1⟩ : S50), (rd_T77 x16_1 x18_1).f3, (rd_T77 x16_1 x18_1).f4, (rd_T77 x16_1 x18_1).f5⟩ : S77) [.int .i64 ((rd_T77 x16_1 x18_1).f0), .string ((rd_T77 x16_1 x18_1).f1), .int .i64 ((rd_T77 x16_1 x18_1).f2.f0), .int .i64 ((rd_T77 x16_1 x18_1).f2.f1), .int .i64 ((rd_T77 x16_1 x18_1).f3), .int .i64 ((rd_T77 x16_1 x18_1).f4), .int .i64 ((rd_T77 x16_1 x18_1).f5)] from (k77_mkM _ _ _ (⟨(rd_T77 x16_1 x18_1).f0, (rd_T77 x16_1 x18_1).f1, (⟨(rd_T77 x16_1 x18_1).f2.f0, (rd_T77 x16_1 x18_1).f2.f1⟩ : S50), (rd_T77 x16_1 x18_1).f3, (rd_T77 x16_1 x18_1).f4, (rd_T77 x16_1 x18_1).f5⟩ : S77) )) (Reps.none _ _)))
                    intro v176 w20 ho21 hb hg_ hnew_
                    clear hg_ hnew_
                    (first | rw [← Ny175.out] at ho21 | (simp only [Int.reduceToNat] at ho21; rw [← Ny175.out] at ho21))
                    have n0_ := Aside0.mk (Kd.R_elder' (by (with_reducible repeat (first | apply Kd.R_alloc | apply Kd.R_drewN | apply Kd.R_drew)); exact HO_9.out) (Kd.R_base ho21) hb)
                    have n1_ := Aside0.mk (Kd.R_elder' (by (with_reducible repeat (first | apply Kd.R_alloc | apply Kd.R_drewN | apply Kd.R_drew)); exact HO_10.out) (Kd.R_base ho21) hb)
                    have n2_ := Aside0.mk (Kd.R_elder' (by (with_reducible repeat (first | apply Kd.R_alloc | apply Kd.R_drewN | apply Kd.R_drew)); exact HO_16.out) (Kd.R_base ho21) hb)
                    have n3_ := Aside0.mk (Kd.R_elder' (by (with_reducible repeat (first | apply Kd.R_alloc | apply Kd.R_drewN | apply Kd.R_drew)); exact HO183.out) (Kd.R_base ho21) hb)
                    have n4_ := Aside0.mk (Kd.R_lower (Kd.R_newB (Kd.R_new' (Kd.R_new' (Kd.R_new' (Kd.R_new' ho21 (Kd.R_lt (by (with_reducible repeat (first | apply Kd.R_alloc | apply Kd.R_drewN | apply Kd.R_drew)); exact HO_9.out))) (Kd.R_lt (by (with_reducible repeat (first | apply Kd.R_alloc | apply Kd.R_drewN | apply Kd.R_drew)); exact HO_10.out))) (Kd.R_lt (by (with_reducible repeat (first | apply Kd.R_alloc | apply Kd.R_drewN | apply Kd.R_drew)); exact HO_16.out))) (Kd.R_lt (by (with_reducible repeat (first | apply Kd.R_alloc | apply Kd.R_drewN | apply Kd.R_drew)); exact HO183.out))) (g := gb174) (o := .cells #[.int .i64 ((rd_T77 x16_1 x18_1).f0), .string ((rd_T77 x16_1 x18_1).f1), .int .i64 ((rd_T77 x16_1 x18_1).f2.f0), .int .i64 ((rd_T77 x16_1 x18_1).f2.f1), .int .i64 ((rd_T77 x16_1 x18_1).f3), .int .i64 ((rd_T77 x16_1 x18_1).f4), .int .i64 ((rd_T77 x16_1 x18_1).f5)] 77 (0, 0)) (by (with_reducible repeat (first | refine blk_drewN ?_ _ | refine blk_drew ?_ | refine blk_alloc ?_ _)); exact BK174.out)) (below_size (by repeat (first | (with_reducible first | exact HB.out | apply below_alloc | apply pw_below_drewN | apply below_drew1 | refine below_set ?_ GE174.out) | exact HB.out))))
                    have n5_ := Aside0.mk (blk_below (g := gb174) (o := .cells #[.int .i64 ((rd_T77 x16_1 x18_1).f0), .string ((rd_T77 x16_1 x18_1).f1), .int .i64 ((rd_T77 x16_1 x18_1).f2.f0), .int .i64 ((rd_T77 x16_1 x18_1).f2.f1), .int .i64 ((rd_T77 x16_1 x18_1).f3), .int .i64 ((rd_T77 x16_1 x18_1).f4), .int .i64 ((rd_T77 x16_1 x18_1).f5)] 77 (0, 0)) (by (with_reducible repeat (first | refine blk_drewN ?_ _ | refine blk_drew ?_ | refine blk_alloc ?_ _)); exact BK174.out) hb)
                    have BKM := Aside0.mk (blk_below (by (with_reducible repeat (first | refine blk_drewN ?_ _ | refine blk_drew ?_ | refine blk_alloc ?_ _)); exact BKM.out) hb)
                    have n6_ := Aside0.mk (below_step (by repeat (first | (with_reducible first | exact HB.out | apply below_alloc | apply pw_below_drewN | apply below_drew1 | refine below_set ?_ GE174.out) | exact HB.out)) hb)
                    clear HO_9
                    clear HO_10
                    clear HO_16
                    clear HO183
                    clear BK174
                    clear HB
                    have HO_9 := n0_
                    have HO_10 := n1_
                    have HO_16 := n2_
                    have HO183 := n3_
                    have HO177 := n4_
                    have BK174 := n5_
                    have HB := n6_
                    clear n0_ n1_ n2_ n3_ n4_ n5_ n6_
                    clear hb ho21
                    obtain ⟨Ao23, co23, eo23⟩ := Kd.R_slice HO177.out
                    (first | subst eo23 | (injection eo23 with f1_ f2_ f3_; have f4_ := f1_.symm; have f5_ := f3_.symm; clear f1_ f2_ f3_; subst f4_; subst f5_))
                    refine hK.out _ _ ⟨(blk_cell BK174.out 0).trans rfl, (blk_cell BK174.out 1).trans rfl, (blk_cell BK174.out 2).trans rfl, (blk_cell BK174.out 3).trans rfl, (blk_cell BK174.out 4).trans rfl, (blk_cell BK174.out 5).trans rfl, (blk_cell BK174.out 6).trans rfl⟩ (fun hHeld => ?_)
                    clear hK K
                    refine norm_ (a' := ?_) ?_ ?_
                    rotate_left
                    · show Act.put _ (some 32) _ = _
                      simp only [Act.put, List.setIfInBounds_toArray, List.set_cons_zero, List.set_cons_succ, i64_w, i32_w]
                      rfl
                    refine one_ (i := 3) (N := some 33) #[true, true, true, true, true, true, true, false, false, false] rfl rfl (one_of HT_.out (by kernel_rfl)) (by decide) (fun K hK => ?_)
                    refine Kd.R_append_rows_step k77 (w0 := w) w.heap.size (by rfl) (.tmp 30) (.tmp 32) 69 77 (.agg #[(.int .i64 0), (.string ⟨#[]⟩), (.int .i64 0), (.int .i64 0), (.int .i64 0), (.int .i64 0), (.int .i64 0)]) 64 rfl Try.underlying69 info77 rfl (by decide) (by omega) (.slice Ao14 x9_1.length co14) x9_1 y175 _ _ _ (fun k_ => some k_ ≠ (.slice Ao15 x10_1.length co15 : Value).ownBlock ∧ some k_ ≠ (.slice (some ad173) x16_1.length co6 : Value).ownBlock ∧ some k_ ≠ (v182 : Value).ownBlock ∧ some k_ ≠ (.slice Ao23 y175.length co23 : Value).ownBlock ∧ k_ ≠ gb174) (fun _ => False) rfl rfl ?aO ?aR (fun _ _ h => h) (fun _ h => h.elim) ?aF ?aB ?aS ?aL ?_
                    (case aR => repeat (first | exact (Kd.R_reads' HO177.out).2.2 | (with_reducible refine Kd.C_alloc ?_ _) | (with_reducible refine Kd.C_drewN ?_ _) | (with_reducible refine Kd.C_drew ?_)))
                    (case aB => exact (by repeat (first | (with_reducible first | exact HB.out | apply below_alloc | apply pw_below_drewN | apply below_drew1 | refine below_set ?_ GE174.out) | exact HB.out)))
                    (case aF => exact (fun k_ hk => ⟨Kd.fresh' (Kd.R_lt (by (with_reducible repeat (first | apply Kd.R_alloc | apply Kd.R_drewN | apply Kd.R_drew)); exact HO_10.out)) k_ hk, Kd.fresh' (Kd.R_lt (by (with_reducible repeat (first | apply Kd.R_alloc | apply Kd.R_drewN | apply Kd.R_drew)); exact HO_16.out)) k_ hk, Kd.fresh' (Kd.R_lt (by (with_reducible repeat (first | apply Kd.R_alloc | apply Kd.R_drewN | apply Kd.R_drew)); exact HO183.out)) k_ hk, Kd.fresh' (Kd.R_lt (by (with_reducible repeat (first | apply Kd.R_alloc | apply Kd.R_drewN | apply Kd.R_drew)); exact HO177.out)) k_ hk, Kd.freshB (g := gb174) (o := .cells #[.int .i64 ((rd_T77 x16_1 x18_1).f0), .string ((rd_T77 x16_1 x18_1).f1), .int .i64 ((rd_T77 x16_1 x18_1).f2.f0), .int .i64 ((rd_T77 x16_1 x18_1).f2.f1), .int .i64 ((rd_T77 x16_1 x18_1).f3), .int .i64 ((rd_T77 x16_1 x18_1).f4), .int .i64 ((rd_T77 x16_1 x18_1).f5)] 77 (0, 0)) (by (with_reducible repeat (first | refine blk_drewN ?_ _ | refine blk_drew ?_ | refine blk_alloc ?_ _)); exact BK174.out) k_ hk⟩))
                    (case aO => exact (by (with_reducible repeat (first | apply Kd.R_alloc | apply Kd.R_drewN | apply Kd.R_drew)); exact Kd.R_mono HO_9.out (fun _ hk => ⟨hk.1.1.1, ⟨hk.1.1.2.1, ⟨hk.1.2, ⟨hk.2, hk.1.1.2.2⟩⟩⟩⟩)))
                    (case aS => exact (below_size (by repeat (first | (with_reducible first | exact HB.out | apply below_alloc | apply pw_below_drewN | apply below_drew1 | refine below_set ?_ GE174.out) | exact HB.out))))
                    (case aL => have := LMc10.out; omega)
                    intro v179 w22 ho hb hg hat
                    rw [← Ny178.out] at ho
                    have n0_ := Aside0.mk (Kd.R_after (ok := (fun k_ => some k_ ≠ (.slice (some ad173) x16_1.length co6 : Value).ownBlock ∧ some k_ ≠ (v182 : Value).ownBlock ∧ some k_ ≠ (.slice Ao23 y175.length co23 : Value).ownBlock ∧ k_ ≠ gb174)) (by (with_reducible repeat (first | apply Kd.R_alloc | apply Kd.R_drewN | apply Kd.R_drew)); exact Kd.R_mono HO_10.out (fun _ hk => ⟨⟨hk.1.1.2.1, ⟨hk.1.2, ⟨hk.2, hk.1.1.2.2⟩⟩⟩, hk.1.1.1⟩)) hg hat)
                    have n1_ := Aside0.mk (Kd.R_after (ok := (fun k_ => some k_ ≠ (.slice Ao15 x10_1.length co15 : Value).ownBlock ∧ some k_ ≠ (v182 : Value).ownBlock ∧ some k_ ≠ (.slice Ao23 y175.length co23 : Value).ownBlock ∧ k_ ≠ gb174)) (by (with_reducible repeat (first | apply Kd.R_alloc | apply Kd.R_drewN | apply Kd.R_drew)); exact Kd.R_mono HO_16.out (fun _ hk => ⟨⟨hk.1.1.2.1, ⟨hk.1.2, ⟨hk.2, hk.1.1.2.2⟩⟩⟩, hk.1.1.1⟩)) hg hat)
                    have n2_ := Aside0.mk (blk_grown (g := gb174) (o := .cells #[.int .i64 ((rd_T77 x16_1 x18_1).f0), .string ((rd_T77 x16_1 x18_1).f1), .int .i64 ((rd_T77 x16_1 x18_1).f2.f0), .int .i64 ((rd_T77 x16_1 x18_1).f2.f1), .int .i64 ((rd_T77 x16_1 x18_1).f3), .int .i64 ((rd_T77 x16_1 x18_1).f4), .int .i64 ((rd_T77 x16_1 x18_1).f5)] 77 (0, 0)) (by (with_reducible repeat (first | refine blk_drewN ?_ _ | refine blk_drew ?_ | refine blk_alloc ?_ _)); exact BK174.out) hg (Kd.R_away HO_9.out (fun _ hk => hk.1.1.2.2)))
                    have BKM := Aside0.mk (blk_grown (by (with_reducible repeat (first | refine blk_drewN ?_ _ | refine blk_drew ?_ | refine blk_alloc ?_ _)); exact BKM.out) hg (R_neMap HO_9.out (obj_map BKM.out hoMap.out)))
                    have n3_ := Aside0.mk (Kd.R_after (ok := (fun k_ => some k_ ≠ (.slice Ao15 x10_1.length co15 : Value).ownBlock ∧ some k_ ≠ (.slice (some ad173) x16_1.length co6 : Value).ownBlock ∧ some k_ ≠ (.slice Ao23 y175.length co23 : Value).ownBlock ∧ k_ ≠ gb174)) (by (with_reducible repeat (first | apply Kd.R_alloc | apply Kd.R_drewN | apply Kd.R_drew)); exact Kd.R_mono HO183.out (fun _ hk => ⟨⟨hk.1.1.1.2, ⟨hk.1.1.2, ⟨hk.2, hk.1.2⟩⟩⟩, hk.1.1.1.1.2⟩)) hg hat)
                    have n4_ := Aside0.mk (Kd.R_after (ok := (fun k_ => some k_ ≠ (.slice Ao15 x10_1.length co15 : Value).ownBlock ∧ some k_ ≠ (.slice (some ad173) x16_1.length co6 : Value).ownBlock ∧ some k_ ≠ (v182 : Value).ownBlock ∧ k_ ≠ gb174)) (by (with_reducible repeat (first | apply Kd.R_alloc | apply Kd.R_drewN | apply Kd.R_drew)); exact Kd.R_mono HO177.out (fun _ hk => ⟨⟨hk.1.1.1.2, ⟨hk.1.1.2, ⟨hk.1.2, hk.2⟩⟩⟩, hk.1.1.1.1.2⟩)) hg hat)
                    have n5_ := Aside0.mk (hb)
                    have n6_ := Aside0.mk (ho)
                    clear HO_10
                    clear HO_16
                    clear BK174
                    clear HO183
                    clear HO177
                    clear HB
                    clear HO_9
                    have HO_10 := n0_
                    have HO_16 := n1_
                    have BK174 := n2_
                    have HO183 := n3_
                    have HO177 := n4_
                    have HB := n5_
                    have HO180 := n6_
                    clear n0_ n1_ n2_ n3_ n4_ n5_ n6_
                    clear ho hb hg hat
                    refine hK.out _ _ ⟨(blk_cell BK174.out 0).trans rfl, (blk_cell BK174.out 1).trans rfl, (blk_cell BK174.out 2).trans rfl, (blk_cell BK174.out 3).trans rfl, (blk_cell BK174.out 4).trans rfl, (blk_cell BK174.out 5).trans rfl, (blk_cell BK174.out 6).trans rfl⟩ (fun hHeld => ?_)
                    clear hK K
                    refine norm_ (a' := ?_) ?_ ?_
                    rotate_left
                    · show Act.put _ (some 33) _ = _
                      simp only [Act.put, List.setIfInBounds_toArray, List.set_cons_zero, List.set_cons_succ, i64_w, i32_w]
                      rfl
                    exact norm_ (by simp only [putAll, Act.put, List.setIfInBounds_toArray, List.set_cons_zero, List.set_cons_succ]) (hCont (.slice Ao23 y175.length co23, v179, v182) _ ⟨hHeld, (by (with_reducible repeat (first | apply Kd.R_alloc | apply Kd.R_drewN | apply Kd.R_drew)); exact Kd.R_mono HO177.out (fun _ hk => ⟨hk.2, ⟨hk.1.2.2.1, ⟨hk.1.1, ⟨hk.1.2.1, hk.1.2.2.2⟩⟩⟩⟩)), (by (with_reducible repeat (first | apply Kd.R_alloc | apply Kd.R_drewN | apply Kd.R_drew)); exact Kd.R_mono HO180.out (fun _ hk => ⟨hk.2.2.2.1, ⟨hk.2.2.1, ⟨hk.1, ⟨hk.2.1, hk.2.2.2.2⟩⟩⟩⟩)), (by (with_reducible repeat (first | apply Kd.R_alloc | apply Kd.R_drewN | apply Kd.R_drew)); exact Kd.R_mono HO183.out (fun _ hk => ⟨hk.1.2.2.1, ⟨hk.2, ⟨hk.1.1, ⟨hk.1.2.1, hk.1.2.2.2⟩⟩⟩⟩)), (by (with_reducible repeat (first | apply Kd.R_alloc | apply Kd.R_drewN | apply Kd.R_drew)); exact Kd.R_mono HO_10.out (fun _ hk => ⟨hk.1.2.2.1, ⟨hk.2, ⟨hk.1.2.1, ⟨hk.1.1, hk.1.2.2.2⟩⟩⟩⟩)), (by (with_reducible repeat (first | apply Kd.R_alloc | apply Kd.R_drewN | apply Kd.R_drew)); exact Kd.R_mono HO_16.out (fun _ hk => ⟨hk.1.2.2.1, ⟨hk.2, ⟨hk.1.2.1, ⟨hk.1.1, hk.1.2.2.2⟩⟩⟩⟩)), (by (with_reducible repeat (first | refine blk_drewN ?_ _ | refine blk_drew ?_ | refine blk_alloc ?_ _)); exact BK174.out), (by repeat (first | (with_reducible first | exact HB.out | apply below_alloc | apply pw_below_drewN | apply below_drew1 | refine below_set ?_ GE174.out) | exact HB.out)), (by (with_reducible repeat (first | refine blk_drewN ?_ _ | refine blk_drew ?_ | refine blk_alloc ?_ _)); exact BKM.out)⟩)
                rintro ⟨v176, v179, v182⟩ w24 ⟨hS_, h0_, h1_, h2_, h3_, h4_, h5_, h6_, h7_⟩
                have BKM := Aside0.mk h7_
                clear h7_
                have n0_ : Aside0 (Kd.R k77 77 w24 w.heap.size (fun k_ => some k_ ≠ (v179 : Value).ownBlock ∧ some k_ ≠ (v182 : Value).ownBlock ∧ some k_ ≠ (.slice Ao15 x10_1.length co15 : Value).ownBlock ∧ some k_ ≠ (.slice (some ad173) x16_1.length co6 : Value).ownBlock ∧ k_ ≠ gb174) v176 y175) := ⟨h0_⟩
                have n1_ : Aside0 (Kd.R k77 77 w24 w.heap.size (fun k_ => some k_ ≠ (v176 : Value).ownBlock ∧ some k_ ≠ (v182 : Value).ownBlock ∧ some k_ ≠ (.slice Ao15 x10_1.length co15 : Value).ownBlock ∧ some k_ ≠ (.slice (some ad173) x16_1.length co6 : Value).ownBlock ∧ k_ ≠ gb174) v179 y178) := ⟨h1_⟩
                have n2_ : Aside0 (Kd.R k77 77 w24 w.heap.size (fun k_ => some k_ ≠ (v176 : Value).ownBlock ∧ some k_ ≠ (v179 : Value).ownBlock ∧ some k_ ≠ (.slice Ao15 x10_1.length co15 : Value).ownBlock ∧ some k_ ≠ (.slice (some ad173) x16_1.length co6 : Value).ownBlock ∧ k_ ≠ gb174) v182 y181) := ⟨h2_⟩
                have n3_ : Aside0 (Kd.R k77 77 w24 w.heap.size (fun k_ => some k_ ≠ (v176 : Value).ownBlock ∧ some k_ ≠ (v179 : Value).ownBlock ∧ some k_ ≠ (v182 : Value).ownBlock ∧ some k_ ≠ (.slice (some ad173) x16_1.length co6 : Value).ownBlock ∧ k_ ≠ gb174) (.slice Ao15 x10_1.length co15) x10_1) := ⟨h3_⟩
                have n4_ : Aside0 (Kd.R k77 77 w24 w.heap.size (fun k_ => some k_ ≠ (v176 : Value).ownBlock ∧ some k_ ≠ (v179 : Value).ownBlock ∧ some k_ ≠ (v182 : Value).ownBlock ∧ some k_ ≠ (.slice Ao15 x10_1.length co15 : Value).ownBlock ∧ k_ ≠ gb174) (.slice (some ad173) x16_1.length co6) x16_1) := ⟨h4_⟩
                have n5_ : Aside0 (w24.heap[gb174]? = some (.cells #[.int .i64 ((rd_T77 x16_1 x18_1).f0), .string ((rd_T77 x16_1 x18_1).f1), .int .i64 ((rd_T77 x16_1 x18_1).f2.f0), .int .i64 ((rd_T77 x16_1 x18_1).f2.f1), .int .i64 ((rd_T77 x16_1 x18_1).f3), .int .i64 ((rd_T77 x16_1 x18_1).f4), .int .i64 ((rd_T77 x16_1 x18_1).f5)] 77 (0, 0))) := ⟨h5_⟩
                have n6_ : Aside0 (Below w.heap.size w w24) := ⟨h6_⟩
                clear HO_9
                clear HO_10
                clear HO_16
                clear BK174
                clear HB
                clear h0_ h1_ h2_ h3_ h4_ h5_ h6_
                have HO177 := n0_
                have HO180 := n1_
                have HO183 := n2_
                have HO_10 := n3_
                have HO_16 := n4_
                have BK174 := n5_
                have HB := n6_
                clear n0_ n1_ n2_ n3_ n4_ n5_ n6_
                have hHeld : w24.cell? ⟨gb174, 0, none⟩ = some (.int .i64 ((rd_T77 x16_1 x18_1).f0)) ∧ w24.cell? ⟨gb174, 1, none⟩ = some (.string ((rd_T77 x16_1 x18_1).f1)) ∧ w24.cell? ⟨gb174, 2, none⟩ = some (.int .i64 ((rd_T77 x16_1 x18_1).f2.f0)) ∧ w24.cell? ⟨gb174, 3, none⟩ = some (.int .i64 ((rd_T77 x16_1 x18_1).f2.f1)) ∧ w24.cell? ⟨gb174, 4, none⟩ = some (.int .i64 ((rd_T77 x16_1 x18_1).f3)) ∧ w24.cell? ⟨gb174, 5, none⟩ = some (.int .i64 ((rd_T77 x16_1 x18_1).f4)) ∧ w24.cell? ⟨gb174, 6, none⟩ = some (.int .i64 ((rd_T77 x16_1 x18_1).f5)) := hS_
                obtain ⟨Ao25, co25, eo25⟩ := Kd.R_slice HO183.out
                (first | subst eo25 | (injection eo25 with f1_ f2_ f3_; have f4_ := f1_.symm; have f5_ := f3_.symm; clear f1_ f2_ f3_; subst f4_; subst f5_))
                refine norm_ (a' := ?_) ?_ ?_
                rotate_left
                · simp only [putAll, Act.put, List.setIfInBounds_toArray, List.set_cons_zero, List.set_cons_succ]
                  rfl
                refine one_ (i := 7) (N := some 37) #[true, true, true, true, true, true, true, true, false, false] rfl rfl (one_of HT_.out (by kernel_rfl)) (by decide) (fun K hK => ?_)
                refine goes_ Try.func38 (by kernel_rfl) rfl #[.slice Ao15 x10_1.length co15, .int .i64 0, .slice Ao25 y181.length co25] (by rfl) rfl rfl (by (try simp only [List.map_toArray, List.map_cons, List.map_nil]); first | done | rfl | (simp only [List.length_drop, List.length_take]; rfl)) ?_
                with_reducible refine (slices_Insert.calls (fun k_ => some k_ = (.slice Ao15 x10_1.length co15 : Value).ownBlock) (.slice Ao15 x10_1.length co15) x10_1 0 (fun k_ => some k_ = (.slice Ao25 y181.length co25 : Value).ownBlock) (.slice Ao25 y181.length co25) y181 t184 t187 w _ ?side1 ?side2 ?side3 ?side4 ?side5 A11.out).mono ?_
                (case side1 => repeat (first | (with_reducible first | exact HB.out | apply below_alloc | apply pw_below_drewN | apply below_drew1 | refine below_set ?_ GE174.out) | exact HB.out))
                (case side2 => exact Kd.R_tight rfl HO_10.out)
                (case side3 => exact fun k_ e_ => (HO_10.out.1 k_ e_.symm).2.2.1)
                (case side4 => exact Kd.R_tight rfl HO183.out)
                (case side5 => exact fun k_ e_ => (HO183.out.1 k_ e_.symm).2.2.1)
                rintro e w26 ⟨v185, rfl, ho0, hy0, hb, hkp⟩
                refine ⟨_, rfl, ?_⟩
                have n0_ := Aside0.mk (Kd.R_mono (ok' := fun k_ => some k_ ≠ (v176 : Value).ownBlock ∧ some k_ ≠ (v179 : Value).ownBlock ∧ some k_ ≠ (.slice Ao25 y181.length co25 : Value).ownBlock ∧ k_ ≠ gb174 ∧ some k_ ≠ (v185 : Value).ownBlock) (Kd.R_keptB (HO_16.out) hkp (fun k_ hk_ hs_ => Or.elim hs_ (fun e_ => (hk_.2.2.2.1) e_) (fun e_ => (hk_.2.2.1) e_))) (fun k_ hk_ => ⟨hk_.1.1, hk_.1.2.1, hk_.1.2.2.1, hk_.1.2.2.2.2, fun e_ => Or.elim (ho0.1 k_ e_.symm).1 (fun hs_ => hk_.2.1 hs_) (fun hn_ => Nat.not_le.2 hk_.2.2 hn_)⟩))
                have n1_ := Aside0.mk (blk_kept (by (with_reducible repeat (first | refine blk_drewN ?_ _ | refine blk_drew ?_ | refine blk_alloc ?_ _)); exact BK174.out) hkp (fun hs_ => Or.elim hs_ (fun e_ => (fun e_ => (Kd.R_away HO_10.out (fun _ hk => hk.2.2.2.2)) e_) e_) (fun e_ => (fun e_ => (Kd.R_away HO183.out (fun _ hk => hk.2.2.2.2)) e_) e_)))
                have BKM := Aside0.mk (blk_kept (by (with_reducible repeat (first | refine blk_drewN ?_ _ | refine blk_drew ?_ | refine blk_alloc ?_ _)); exact BKM.out) hkp (fun hs_ => Or.elim hs_ (fun e_ => R_neMap HO_10.out (obj_map BKM.out hoMap.out) e_) (fun e_ => R_neMap HO183.out (obj_map BKM.out hoMap.out) e_)))
                have n2_ := Aside0.mk (Kd.R_mono (ok' := fun k_ => some k_ ≠ (.slice (some ad173) x16_1.length co6 : Value).ownBlock ∧ some k_ ≠ (v179 : Value).ownBlock ∧ some k_ ≠ (.slice Ao25 y181.length co25 : Value).ownBlock ∧ k_ ≠ gb174 ∧ some k_ ≠ (v185 : Value).ownBlock) (Kd.R_keptB (HO177.out) hkp (fun k_ hk_ hs_ => Or.elim hs_ (fun e_ => (hk_.2.2.1) e_) (fun e_ => (hk_.2.1) e_))) (fun k_ hk_ => ⟨hk_.1.2.2.2.1, hk_.1.1, hk_.1.2.1, hk_.1.2.2.2.2, fun e_ => Or.elim (ho0.1 k_ e_.symm).1 (fun hs_ => hk_.2.1 hs_) (fun hn_ => Nat.not_le.2 hk_.2.2 hn_)⟩))
                have n3_ := Aside0.mk (Kd.R_mono (ok' := fun k_ => some k_ ≠ (.slice (some ad173) x16_1.length co6 : Value).ownBlock ∧ some k_ ≠ (v176 : Value).ownBlock ∧ some k_ ≠ (.slice Ao25 y181.length co25 : Value).ownBlock ∧ k_ ≠ gb174 ∧ some k_ ≠ (v185 : Value).ownBlock) (Kd.R_keptB (HO180.out) hkp (fun k_ hk_ hs_ => Or.elim hs_ (fun e_ => (hk_.2.2.1) e_) (fun e_ => (hk_.2.1) e_))) (fun k_ hk_ => ⟨hk_.1.2.2.2.1, hk_.1.1, hk_.1.2.1, hk_.1.2.2.2.2, fun e_ => Or.elim (ho0.1 k_ e_.symm).1 (fun hs_ => hk_.2.1 hs_) (fun hn_ => Nat.not_le.2 hk_.2.2 hn_)⟩))
                have n4_ := Aside0.mk (Kd.R_reok rfl hy0 (fun k_ e_ => HO183.out.1 k_ e_))
                have n5_ := Aside0.mk (Kd.R_mono (ok' := fun k_ => some k_ ≠ (.slice (some ad173) x16_1.length co6 : Value).ownBlock ∧ some k_ ≠ (v176 : Value).ownBlock ∧ some k_ ≠ (v179 : Value).ownBlock ∧ some k_ ≠ (.slice Ao25 y181.length co25 : Value).ownBlock ∧ k_ ≠ gb174) ho0 (fun k_ hk_ => ⟨Or.elim hk_.1 (fun hs_ => Or.elim hs_ (fun hs_ => fun e_ => (((HO_16.out).1 k_ e_.symm).2.2.2.1) hs_) (fun hs_ => fun e_ => (((HO_16.out).1 k_ e_.symm).2.2.1) hs_)) (fun hn_ => (Kd.fresh' (Kd.R_lt (by (with_reducible repeat (first | apply Kd.R_alloc | apply Kd.R_drewN | apply Kd.R_drew)); exact HO_16.out)) k_ hn_)), Or.elim hk_.1 (fun hs_ => Or.elim hs_ (fun hs_ => fun e_ => (((HO177.out).1 k_ e_.symm).2.2.1) hs_) (fun hs_ => fun e_ => (((HO177.out).1 k_ e_.symm).2.1) hs_)) (fun hn_ => (Kd.fresh' (Kd.R_lt (by (with_reducible repeat (first | apply Kd.R_alloc | apply Kd.R_drewN | apply Kd.R_drew)); exact HO177.out)) k_ hn_)), Or.elim hk_.1 (fun hs_ => Or.elim hs_ (fun hs_ => fun e_ => (((HO180.out).1 k_ e_.symm).2.2.1) hs_) (fun hs_ => fun e_ => (((HO180.out).1 k_ e_.symm).2.1) hs_)) (fun hn_ => (Kd.fresh' (Kd.R_lt (by (with_reducible repeat (first | apply Kd.R_alloc | apply Kd.R_drewN | apply Kd.R_drew)); exact HO180.out)) k_ hn_)), hk_.2, Or.elim hk_.1 (fun hs_ => Or.elim hs_ (fun hs_ => fun e_ => (Kd.R_away HO_10.out (fun _ hk => hk.2.2.2.2)) (by rw [← e_]; exact hs_)) (fun hs_ => fun e_ => (Kd.R_away HO183.out (fun _ hk => hk.2.2.2.2)) (by rw [← e_]; exact hs_))) (fun hn_ => (Kd.freshB (g := gb174) (o := .cells #[.int .i64 ((rd_T77 x16_1 x18_1).f0), .string ((rd_T77 x16_1 x18_1).f1), .int .i64 ((rd_T77 x16_1 x18_1).f2.f0), .int .i64 ((rd_T77 x16_1 x18_1).f2.f1), .int .i64 ((rd_T77 x16_1 x18_1).f3), .int .i64 ((rd_T77 x16_1 x18_1).f4), .int .i64 ((rd_T77 x16_1 x18_1).f5)] 77 (0, 0)) (by (with_reducible repeat (first | refine blk_drewN ?_ _ | refine blk_drew ?_ | refine blk_alloc ?_ _)); exact BK174.out) k_ hn_))⟩))
                have n6_ := Aside0.mk (hb)
                clear HO_16
                clear BK174
                clear HO177
                clear HO180
                clear HO183
                clear HB
                clear HO_10
                have HO_16 := n0_
                have BK174 := n1_
                have HO177 := n2_
                have HO180 := n3_
                have HO183 := n4_
                have HO186 := n5_
                have HB := n6_
                clear n0_ n1_ n2_ n3_ n4_ n5_ n6_
                (try clear hb)
                (try clear hkp)
                (try clear ho0)
                (try clear hy0)
                refine hK.out _ _ ⟨(blk_cell BK174.out 0).trans rfl, (blk_cell BK174.out 1).trans rfl, (blk_cell BK174.out 2).trans rfl, (blk_cell BK174.out 3).trans rfl, (blk_cell BK174.out 4).trans rfl, (blk_cell BK174.out 5).trans rfl, (blk_cell BK174.out 6).trans rfl⟩ (fun hHeld => ?_)
                clear hK K
                refine norm_ (a' := ?_) ?_ ?_
                rotate_left
                · show Act.put _ (some 37) _ = _
                  simp only [Act.put, List.setIfInBounds_toArray, List.set_cons_zero, List.set_cons_succ, i64_w, i32_w]
                  rfl
                refine pure_ (i := 8) (N := some 9) (v := ?_) (a' := ?_) #[true, true, true, true, true, true, true, true, true, false] rfl rfl (any_of HT_.out (by kernel_rfl)) (fun _ _ _ h => h) (Or.inl ⟨by rfl, ?_⟩) ?_ ?_
                rotate_left
                · intro w'
                  go_simp
                  with_reducible rfl
                rotate_left
                · simp only [Act.put, List.setIfInBounds_toArray, List.set_cons_zero, List.set_cons_succ, i64_w, i32_w]
                  rfl
                refine pure_ (i := 9) (N := some 10) (v := ?_) (a' := ?_) #[true, true, true, true, true, true, true, true, true, true] rfl rfl (any_of HT_.out (by kernel_rfl)) (fun _ _ _ h => h) (Or.inl ⟨by rfl, ?_⟩) ?_ ?_
                rotate_left
                · intro w'
                  go_simp
                  with_reducible rfl
                rotate_left
                · simp only [Act.put, List.setIfInBounds_toArray, List.set_cons_zero, List.set_cons_succ, i64_w, i32_w]
                  rfl
                refine done_ (done_of HT_.out (by kernel_rfl)) ?_
                try go_wp2
                (try simp only [← hl16_1])
                go_roundg k1
                case measure => have := HK1.out; omega
                case rel => exact ⟨(y178), (t184), (x16_1), (wrap64 (x18_1 + 1)), (by first | rfl | (simp; done) | (simp [*]; done)), H', ⟨by have := HK1.out; omega⟩, ⟨by (try simp only [hl16_1]); (with_reducible repeat (first | apply Kd.R_alloc | apply Kd.R_drewN | apply Kd.R_drew)); exact Kd.R_mono HO180.out (fun _ hk => ⟨hk.2.2.2.2, hk.1⟩)⟩, ⟨by (try simp only [hl16_1]); (with_reducible repeat (first | apply Kd.R_alloc | apply Kd.R_drewN | apply Kd.R_drew)); exact Kd.R_mono HO186.out (fun _ hk => ⟨hk.2.2.1, hk.1⟩)⟩, ⟨by (try simp only [hl16_1]); (with_reducible repeat (first | apply Kd.R_alloc | apply Kd.R_drewN | apply Kd.R_drew)); exact Kd.R_mono HO_16.out (fun _ hk => ⟨hk.2.1, hk.2.2.2.2⟩)⟩, ⟨by repeat (first | (with_reducible first | exact HB.out | apply below_alloc | apply pw_below_drewN | apply below_drew1 | refine below_set ?_ GE174.out) | exact HB.out)⟩, ⟨by rw [Ny178.out, Ny175.out]; exact HMU.out.at_block (Eq.trans (by (with_reducible repeat (first | refine blk_drewN ?_ _ | refine blk_drew ?_ | refine blk_alloc ?_ _)); exact BKM.out) BKM0.out.symm)⟩⟩
              · rw [if_neg c10] at H
                exact absurd H (by simp)
          · rw [if_neg c9] at H
            exact absurd H (by simp)
        · rw [if_neg c8] at H
          exact absurd H (by simp)
      · rw [if_neg c7] at H
        have c7b0 : decide (x18_1 < (t170.length : Int)) = false := decide_eq_false c7
        have c7b1 : decide (x18_1 < (x16_1.length : Int)) = false := by rw [← hl16_1]; exact c7b0
        clear c7
        replace H := Option.bind_eq_some_iff.mp H
        obtain ⟨t188, A270, H⟩ := H
        replace H : ((mootmake_Below.f a2 22).bind fun t189 => ((mootkeep1_told.f k1).bind fun t190 => (if t190 = true then ((fact_At.f k1 x9_1 1 (⟨#[97]⟩ : ByteArray) t188 t189).bind fun bt191 => ((fact_At.f k1 x10_1 1 (⟨#[97]⟩ : ByteArray) t188 t189).bind fun bt193 => (if (bt191.1 == bt193.1 && (bt191.2 == bt193.2)) = true then ((fact_Line.f k1 x9_1 0 (⟨#[98]⟩ : ByteArray) t189).bind fun t195 => ((fact_Line.f k1 x10_1 0 (⟨#[98]⟩ : ByteArray) t189).bind fun t198 => ((fact_Span.f k1 t195 t198).bind fun t201 => (some t201)))) else (none)))) else (none)))) = some r := H
        have A27 := Aside0.mk A270
        clear A270
        replace H := Option.bind_eq_some_iff.mp H
        obtain ⟨t189, A280, H⟩ := H
        replace H : ((mootkeep1_told.f k1).bind fun t190 => (if t190 = true then ((fact_At.f k1 x9_1 1 (⟨#[97]⟩ : ByteArray) t188 t189).bind fun bt191 => ((fact_At.f k1 x10_1 1 (⟨#[97]⟩ : ByteArray) t188 t189).bind fun bt193 => (if (bt191.1 == bt193.1 && (bt191.2 == bt193.2)) = true then ((fact_Line.f k1 x9_1 0 (⟨#[98]⟩ : ByteArray) t189).bind fun t195 => ((fact_Line.f k1 x10_1 0 (⟨#[98]⟩ : ByteArray) t189).bind fun t198 => ((fact_Span.f k1 t195 t198).bind fun t201 => (some t201)))) else (none)))) else (none))) = some r := H
        have A28 := Aside0.mk A280
        clear A280
        replace H := Option.bind_eq_some_iff.mp H
        obtain ⟨t190, A290, H⟩ := H
        replace H : (if t190 = true then ((fact_At.f k1 x9_1 1 (⟨#[97]⟩ : ByteArray) t188 t189).bind fun bt191 => ((fact_At.f k1 x10_1 1 (⟨#[97]⟩ : ByteArray) t188 t189).bind fun bt193 => (if (bt191.1 == bt193.1 && (bt191.2 == bt193.2)) = true then ((fact_Line.f k1 x9_1 0 (⟨#[98]⟩ : ByteArray) t189).bind fun t195 => ((fact_Line.f k1 x10_1 0 (⟨#[98]⟩ : ByteArray) t189).bind fun t198 => ((fact_Span.f k1 t195 t198).bind fun t201 => (some t201)))) else (none)))) else (none)) = some r := H
        have A29 := Aside0.mk A290
        clear A290
        by_cases c30 : t190 = true
        · subst c30
          have H1 : ((fact_At.f k1 x9_1 1 (⟨#[97]⟩ : ByteArray) t188 t189).bind fun bt191 => ((fact_At.f k1 x10_1 1 (⟨#[97]⟩ : ByteArray) t188 t189).bind fun bt193 => (if (bt191.1 == bt193.1 && (bt191.2 == bt193.2)) = true then ((fact_Line.f k1 x9_1 0 (⟨#[98]⟩ : ByteArray) t189).bind fun t195 => ((fact_Line.f k1 x10_1 0 (⟨#[98]⟩ : ByteArray) t189).bind fun t198 => ((fact_Span.f k1 t195 t198).bind fun t201 => (some t201)))) else (none)))) = some r := by rw [if_pos rfl] at H; exact H
          clear H
          have H := H1
          clear H1
          replace H := Option.bind_eq_some_iff.mp H
          obtain ⟨⟨t191, t192⟩, A310, H⟩ := H
          replace H : ((fact_At.f k1 x10_1 1 (⟨#[97]⟩ : ByteArray) t188 t189).bind fun bt193 => (if (t191 == bt193.1 && (t192 == bt193.2)) = true then ((fact_Line.f k1 x9_1 0 (⟨#[98]⟩ : ByteArray) t189).bind fun t195 => ((fact_Line.f k1 x10_1 0 (⟨#[98]⟩ : ByteArray) t189).bind fun t198 => ((fact_Span.f k1 t195 t198).bind fun t201 => (some t201)))) else (none))) = some r := H
          have A31 := Aside0.mk A310
          clear A310
          replace H := Option.bind_eq_some_iff.mp H
          obtain ⟨⟨t193, t194⟩, A320, H⟩ := H
          replace H : (if (t191 == t193 && (t192 == t194)) = true then ((fact_Line.f k1 x9_1 0 (⟨#[98]⟩ : ByteArray) t189).bind fun t195 => ((fact_Line.f k1 x10_1 0 (⟨#[98]⟩ : ByteArray) t189).bind fun t198 => ((fact_Span.f k1 t195 t198).bind fun t201 => (some t201)))) else (none)) = some r := H
          have A32 := Aside0.mk A320
          clear A320
          by_cases c33 : (t191 == t193 && (t192 == t194)) = true
          · rw [if_pos c33] at H
            have c33b0 : (t191 == t193 && (t192 == t194)) = true := c33
            (try (have c33b1 : decide (t191 = t193 && (t192 == t194)) = true := by simpa using c33))
            (try (have c33b2 : (t191 == t193 && (t192 == t194)) = true := by simpa using c33))
            clear c33
            replace H := Option.bind_eq_some_iff.mp H
            obtain ⟨t195, A340, H⟩ := H
            replace H : ((fact_Line.f k1 x10_1 0 (⟨#[98]⟩ : ByteArray) t189).bind fun t198 => ((fact_Span.f k1 t195 t198).bind fun t201 => (some t201))) = some r := H
            have A34 := Aside0.mk A340
            clear A340
            replace H := Option.bind_eq_some_iff.mp H
            obtain ⟨t198, A350, H⟩ := H
            replace H : ((fact_Span.f k1 t195 t198).bind fun t201 => (some t201)) = some r := H
            have A35 := Aside0.mk A350
            clear A350
            replace H := Option.bind_eq_some_iff.mp H
            obtain ⟨t201, A360, H⟩ := H
            replace H : (some t201) = some r := H
            have A36 := Aside0.mk A360
            clear A360
            obtain rfl := Option.some.inj H
            go_wp2_with (first | ((with_reducible refine gate_callee (f := 19) rfl ?_); refine goesL_ (some 40) rfl rfl Try.func19 (by kernel_rfl) rfl #[.int .i64 a1, .int .i64 100] rfl (by (try simp only [List.map_toArray, List.map_cons, List.map_nil]); first | done | rfl | (simp only [List.length_drop, List.length_take]; rfl)) ?_; (with_reducible refine (mootmake_Below.calls a1 100 t188 _ A27.out).mono ?_); rintro e w' ⟨rfl, ⟨nd, rfl⟩⟩; refine ⟨_, rfl, ?_⟩) | ((with_reducible refine gate_callee (f := 19) rfl ?_); refine goesL_ (some 42) rfl rfl Try.func19 (by kernel_rfl) rfl #[.int .i64 a2, .int .i64 22] rfl (by (try simp only [List.map_toArray, List.map_cons, List.map_nil]); first | done | rfl | (simp only [List.length_drop, List.length_take]; rfl)) ?_; (with_reducible refine (mootmake_Below.calls a2 22 t189 _ A28.out).mono ?_); rintro e w' ⟨rfl, ⟨nd, rfl⟩⟩; refine ⟨_, rfl, ?_⟩) | ((with_reducible refine gate_callee (f := 34) rfl ?_); refine goesL_ (some 43) rfl rfl Try.func34 (by kernel_rfl) rfl #[] rfl (by (try simp only [List.map_toArray, List.map_cons, List.map_nil]); first | done | rfl | (simp only [List.length_drop, List.length_take]; rfl)) ?_; (with_reducible refine (mootkeep1_told.calls k1  true _ A29.out).mono ?_); rintro e w37 ⟨rfl, hb⟩; refine ⟨_, rfl, ?_⟩; have n0_ := Aside0.mk (Kd.R_below (by (with_reducible repeat (first | apply Kd.R_alloc | apply Kd.R_drewN | apply Kd.R_drew)); exact HO_9.out) hb); have n1_ := Aside0.mk (Kd.R_below (by (with_reducible repeat (first | apply Kd.R_alloc | apply Kd.R_drewN | apply Kd.R_drew)); exact HO_10.out) hb); have n2_ := Aside0.mk (Kd.R_below (by (with_reducible repeat (first | apply Kd.R_alloc | apply Kd.R_drewN | apply Kd.R_drew)); exact HO_16.out) hb); have n3_ := Aside0.mk (below_step (by repeat (first | (with_reducible first | exact HB.out | apply below_alloc | apply pw_below_drewN | apply below_drew1) | exact HB.out)) hb); clear HO_9; clear HO_10; clear HO_16; clear HB; have HO_9 := n0_; have HO_10 := n1_; have HO_16 := n2_; have HB := n3_; clear n0_ n1_ n2_ n3_; (try clear hb); (try clear hb2); (try clear hk); (try clear hi); obtain ⟨Ao38, co38, eo38⟩ := Kd.R_slice HO_9.out; subst eo38) | (go_at_call 37; (with_reducible refine (fact_At.calls k1 _ _ x9_1 1 (⟨#[97]⟩ : ByteArray) t188 t189 t191 t192 _ ?side1 ?side2 A31.out).mono ?_); (case side1 => repeat (first | exact (Kd.R_reads' HO_9.out).2.2 | (with_reducible refine Kd.C_alloc ?_ _) | (with_reducible refine Kd.C_drewN ?_ _) | (with_reducible refine Kd.C_drew ?_))); (case side2 => exact (Kd.R_reads' HO_9.out).2.1); rintro e w39 ⟨rfl, hb⟩; have n0_ := Aside0.mk (Kd.R_below (by (with_reducible repeat (first | apply Kd.R_alloc | apply Kd.R_drewN | apply Kd.R_drew)); exact HO_9.out) hb); have n1_ := Aside0.mk (Kd.R_below (by (with_reducible repeat (first | apply Kd.R_alloc | apply Kd.R_drewN | apply Kd.R_drew)); exact HO_10.out) hb); have n2_ := Aside0.mk (Kd.R_below (by (with_reducible repeat (first | apply Kd.R_alloc | apply Kd.R_drewN | apply Kd.R_drew)); exact HO_16.out) hb); have n3_ := Aside0.mk (below_step (by repeat (first | (with_reducible first | exact HB.out | apply below_alloc | apply pw_below_drewN | apply below_drew1) | exact HB.out)) hb); clear HO_9; clear HO_10; clear HO_16; clear HB; have HO_9 := n0_; have HO_10 := n1_; have HO_16 := n2_; have HB := n3_; clear n0_ n1_ n2_ n3_; (try clear hb); (try clear hb2); (try clear hk); (try clear hi); obtain ⟨Ao40, co40, eo40⟩ := Kd.R_slice HO_10.out; subst eo40) | (go_at_call 37; (with_reducible refine (fact_At.calls k1 _ _ x10_1 1 (⟨#[97]⟩ : ByteArray) t188 t189 t193 t194 _ ?side1 ?side2 A32.out).mono ?_); (case side1 => repeat (first | exact (Kd.R_reads' HO_10.out).2.2 | (with_reducible refine Kd.C_alloc ?_ _) | (with_reducible refine Kd.C_drewN ?_ _) | (with_reducible refine Kd.C_drew ?_))); (case side2 => exact (Kd.R_reads' HO_10.out).2.1); rintro e w41 ⟨rfl, hb⟩; have n0_ := Aside0.mk (Kd.R_below (by (with_reducible repeat (first | apply Kd.R_alloc | apply Kd.R_drewN | apply Kd.R_drew)); exact HO_9.out) hb); have n1_ := Aside0.mk (Kd.R_below (by (with_reducible repeat (first | apply Kd.R_alloc | apply Kd.R_drewN | apply Kd.R_drew)); exact HO_10.out) hb); have n2_ := Aside0.mk (Kd.R_below (by (with_reducible repeat (first | apply Kd.R_alloc | apply Kd.R_drewN | apply Kd.R_drew)); exact HO_16.out) hb); have n3_ := Aside0.mk (below_step (by repeat (first | (with_reducible first | exact HB.out | apply below_alloc | apply pw_below_drewN | apply below_drew1) | exact HB.out)) hb); clear HO_9; clear HO_10; clear HO_16; clear HB; have HO_9 := n0_; have HO_10 := n1_; have HO_16 := n2_; have HB := n3_; clear n0_ n1_ n2_ n3_; (try clear hb); (try clear hb2); (try clear hk); (try clear hi)) | (go_at_call 36; (with_reducible refine (fact_Line.calls k1 _ _ x9_1 0 (⟨#[98]⟩ : ByteArray) t189 t195 _ ?side1 ?side2 A34.out).mono ?_); (case side1 => repeat (first | exact (Kd.R_reads' HO_9.out).2.2 | (with_reducible refine Kd.C_alloc ?_ _) | (with_reducible refine Kd.C_drewN ?_ _) | (with_reducible refine Kd.C_drew ?_))); (case side2 => exact (Kd.R_reads' HO_9.out).2.1); rintro e w42 ⟨v196, rfl, ho0, hb⟩; have n0_ := Aside0.mk (Kd.R_below (by (with_reducible repeat (first | apply Kd.R_alloc | apply Kd.R_drewN | apply Kd.R_drew)); exact HO_9.out) hb); have n1_ := Aside0.mk (Kd.R_below (by (with_reducible repeat (first | apply Kd.R_alloc | apply Kd.R_drewN | apply Kd.R_drew)); exact HO_10.out) hb); have n2_ := Aside0.mk (Kd.R_below (by (with_reducible repeat (first | apply Kd.R_alloc | apply Kd.R_drewN | apply Kd.R_drew)); exact HO_16.out) hb); have n3_ := Aside0.mk (Kd.R_lower ho0 (below_size (by repeat (first | (with_reducible first | exact HB.out | apply below_alloc | apply pw_below_drewN | apply below_drew1) | exact HB.out)))); have n4_ := Aside0.mk (below_step (by repeat (first | (with_reducible first | exact HB.out | apply below_alloc | apply pw_below_drewN | apply below_drew1) | exact HB.out)) hb); clear HO_9; clear HO_10; clear HO_16; clear HB; have HO_9 := n0_; have HO_10 := n1_; have HO_16 := n2_; have HO197 := n3_; have HB := n4_; clear n0_ n1_ n2_ n3_ n4_; (try clear hb); (try clear hb2); (try clear hk); (try clear hi); (try clear ho0)) | (go_at_call 36; (with_reducible refine (fact_Line.calls k1 _ _ x10_1 0 (⟨#[98]⟩ : ByteArray) t189 t198 _ ?side1 ?side2 A35.out).mono ?_); (case side1 => repeat (first | exact (Kd.R_reads' HO_10.out).2.2 | (with_reducible refine Kd.C_alloc ?_ _) | (with_reducible refine Kd.C_drewN ?_ _) | (with_reducible refine Kd.C_drew ?_))); (case side2 => exact (Kd.R_reads' HO_10.out).2.1); rintro e w43 ⟨v199, rfl, ho0, hb⟩; have n0_ := Aside0.mk (Kd.R_below (by (with_reducible repeat (first | apply Kd.R_alloc | apply Kd.R_drewN | apply Kd.R_drew)); exact HO_9.out) hb); have n1_ := Aside0.mk (Kd.R_below (by (with_reducible repeat (first | apply Kd.R_alloc | apply Kd.R_drewN | apply Kd.R_drew)); exact HO_10.out) hb); have n2_ := Aside0.mk (Kd.R_below (by (with_reducible repeat (first | apply Kd.R_alloc | apply Kd.R_drewN | apply Kd.R_drew)); exact HO_16.out) hb); have n3_ := Aside0.mk (Kd.R_elder' (by (with_reducible repeat (first | apply Kd.R_alloc | apply Kd.R_drewN | apply Kd.R_drew)); exact HO197.out) (Kd.R_base ho0) hb); have n4_ := Aside0.mk (Kd.R_lower (Kd.R_new' ho0 (Kd.R_lt (by (with_reducible repeat (first | apply Kd.R_alloc | apply Kd.R_drewN | apply Kd.R_drew)); exact HO197.out))) (below_size (by repeat (first | (with_reducible first | exact HB.out | apply below_alloc | apply pw_below_drewN | apply below_drew1) | exact HB.out)))); have n5_ := Aside0.mk (below_step (by repeat (first | (with_reducible first | exact HB.out | apply below_alloc | apply pw_below_drewN | apply below_drew1) | exact HB.out)) hb); clear HO_9; clear HO_10; clear HO_16; clear HO197; clear HB; have HO_9 := n0_; have HO_10 := n1_; have HO_16 := n2_; have HO197 := n3_; have HO200 := n4_; have HB := n5_; clear n0_ n1_ n2_ n3_ n4_ n5_; (try clear hb); (try clear hb2); (try clear hk); (try clear hi); (try clear ho0); obtain ⟨Ao44, co44, eo44⟩ := Kd.R_slice HO197.out; subst eo44; obtain ⟨Ao45, co45, eo45⟩ := Kd.R_slice HO200.out; subst eo45) | (go_at_call 39; (with_reducible refine (fact_Span.calls k1 _ _ t195 _ _ t198 t201 _ ?side1 ?side2 ?side3 ?side4 A36.out).mono ?_); (case side1 => repeat (first | exact (Kd.R_reads' HO197.out).2.2 | (with_reducible refine Kd.C_alloc ?_ _) | (with_reducible refine Kd.C_drewN ?_ _) | (with_reducible refine Kd.C_drew ?_))); (case side2 => exact (Kd.R_reads' HO197.out).2.1); (case side3 => repeat (first | exact (Kd.R_reads' HO200.out).2.2 | (with_reducible refine Kd.C_alloc ?_ _) | (with_reducible refine Kd.C_drewN ?_ _) | (with_reducible refine Kd.C_drew ?_))); (case side4 => exact (Kd.R_reads' HO200.out).2.1); rintro e w' ⟨rfl, ⟨nd, rfl⟩⟩))
            go_ret
            exact ⟨by first | rfl | (simp [errW_none, errW_some] <;> rfl) | (simp [*, errW_none, errW_some] <;> rfl), by repeat (first | (with_reducible first | exact HB.out | apply below_alloc | apply pw_below_drewN | apply below_drew1) | exact HB.out)⟩
          · rw [if_neg c33] at H
            exact absurd H (by simp)
        · replace c30 := Bool.eq_false_iff.mpr c30
          subst c30
          have H1 : (none) = some r := by rw [if_neg (show ¬ (false = true) by decide)] at H; exact H
          clear H
          have H := H1
          clear H1
          exact absurd H (by simp)

/-- THE ONE PURE STATEMENT of mootkeep1_FactTurned: yours. -/
def mootkeep1_FactTurned.Pure : Prop := ∀ (l0 : List Int) (a1 : Int) (a2 : Int), l0.length ≤ maxLen → l0.length * 8 ≤ 140737488351232 → (∀ x ∈ l0, (Lit.int .i64 x).wf = true) → (Lit.int .i64 a1).wf = true → (Lit.int .i64 a2).wf = true → ∃ k, mootkeep1_FactTurned.f k l0 a1 a2 = some true
theorem mootkeep1_FactTurned.walk (P : mootkeep1_FactTurned.Pure) (a0 : Option Addr) (len0 cap0 : Nat) (z0 : List Int) (a1 : Int) (a2 : Int) (w : World) (w0 : (a0 = none ∧ len0 = 0 ∧ cap0 = 0 ∧ z0 = []) ∨ ∃ x, a0 = some x ∧ len0 ≤ cap0 ∧ cap0 ≤ maxLen ∧ z0.length = cap0 ∧ (∀ i, i < z0.length → w.cell? (x.add i) = some (.int .i64 (z0.getD i 0))) ∧ ∀ n ∈ z0, (Lit.int .i64 n).wf = true) (y0 : len0 * 8 ≤ 140737488351232) (w1 : (Lit.int .i64 a1).wf = true) (w2 : (Lit.int .i64 a2).wf = true) :
    Calls Try.prog 9 #[.slice a0 len0 cap0, .int .i64 a1, .int .i64 a2] w fun e w' => e = .returned (.bool true) ∧ Below w.heap.size w w' := by
  obtain ⟨l0, rfl, hr0, hm0, hw0, hc0⟩ := ReadsInt.ofRowC w0
  obtain ⟨k, h⟩ := P l0 a1 a2 hm0 y0 hw0 w1 w2
  refine (mootkeep1_FactTurned.calls k _ _ l0 a1 a2 true w (Kd.C_of_reads (d := (0 : Int)) (h1 := fun _ => rfl) hr0) hc0 h).mono ?_
  rintro e w' ⟨rfl, hd⟩
  exact ⟨rfl, hd⟩

end Go.Proofs.Ythedaldmhjocdaa.PFactTurned
