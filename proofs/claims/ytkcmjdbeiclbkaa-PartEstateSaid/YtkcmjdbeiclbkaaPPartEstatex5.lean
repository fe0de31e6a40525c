/- The machine side of a law, written by a program of this session (wip/mp). -/
import Derived.Test.YtkcmjdbeiclbkaaPPartEstatex0
import Derived.Test.YtkcmjdbeiclbkaaPPartEstatex2
import Derived.Test.YtkcmjdbeiclbkaaPPartEstatex3
import Derived.Test.YtkcmjdbeiclbkaaPPartEstatex4
namespace Go.Proofs.Ytkcmjdbeiclbkaa.PPartEstate
open Go.RowKit Go.Proofs.YtkcmjdbeiclbkaaW.PrintWords Go.Proofs.YtkcmjdbeiclbkaaW.PrintLast Go.Proofs.YtkcmjdbeiclbkaaW.PrintMore
attribute [local go_sem] max2_int min2_int max_two min_two max_three min_three max_four min_four   -- for this text's walks alone
set_option linter.unusedVariables false
set_option linter.unusedSimpArgs false

/-! ### part_Heirs: function 13 -/
mutual
def part_Heirs.l0 : Nat → List (S32) → List Bool → List Int → List (S32) → Int → Int → Option ((List (S35)) × Int)
  | 0, _, _, _, _, _, _ => none
  | k + 1, x0, x5, x6, x30, x31, x32 => if x32 < x31 then (if 0 ≤ x32 then (if x32 < (x30.length : Int) then (if 0 ≤ (wrap64 (x32 + 1)) then (if (wrap64 (x32 + 1)) < (x5.length : Int) then (if rdOf false x5 (wrap64 (x32 + 1)) = true then (if 0 ≤ ((rd_T32 x30 x32).f0) then (if ((rd_T32 x30 x32).f0) < (x6.length : Int) then (part_Heirs.l0 k x0 x5 (x6.set (((rd_T32 x30 x32).f0) : Int).toNat (wrap64 ((rd x6 ((rd_T32 x30 x32).f0)) + 1))) x30 x31 (wrap64 (x32 + 1))) else (none)) else (none)) else (part_Heirs.l0 k x0 x5 x6 x30 x31 (wrap64 (x32 + 1)))) else (none)) else (none)) else (none)) else (none)) else (if 0 ≤ (x0.length : Int) then (if ((x0.length : Int) : Int).toNat ≤ 17592186044416 then ((some (List.replicate ((x0.length : Int) : Int).toNat z35 : List (S35))).bind fun y163 => (if 0 < (y163.length : Int) then ((some (List.replicate ((x0.length : Int) : Int).toNat z35 : List (S35))).bind fun y167 => (if 0 < (y167.length : Int) then (part_Heirs.l1 k x0 x5 x6 (y163.set (0 : Int).toNat (⟨0, 1⟩ : S35)) (y167.set (0 : Int).toNat (⟨1, 1⟩ : S35)) 1) else (none))) else (none))) else (none)) else (none))
def part_Heirs.l1 : Nat → List (S32) → List Bool → List Int → List (S35) → List (S35) → Int → Option ((List (S35)) × Int)
  | 0, _, _, _, _, _, _ => none
  | k + 1, x0, x5, x6, x9, x10, x11 => if x11 < (x0.length : Int) then (if 0 ≤ x11 then (if x11 < (x9.length : Int) then ((some (x9.set (x11 : Int).toNat (⟨0, 1⟩ : S35) : List (S35))).bind fun y172 => (if x11 < (x5.length : Int) then (if rdOf false x5 x11 = true then (if 0 ≤ ((rd_T32 x0 x11).f0) then (if ((rd_T32 x0 x11).f0) < (x10.length : Int) then (part_Heirs.j2 k x0 x5 x6 y172 x10 x11 ((rd_T32 x0 x11).f0) (((rd_T35 x10 ((rd_T32 x0 x11).f0)).f0) == 0)) else (none)) else (none)) else (part_Heirs.j2 k x0 x5 x6 y172 x10 x11 ((rd_T32 x0 x11).f0) true)) else (none))) else (none)) else (none)) else (some (x9, 0))
def part_Heirs.j2 : Nat → List (S32) → List Bool → List Int → List (S35) → List (S35) → Int → Int → Bool → Option ((List (S35)) × Int)
  | 0, _, _, _, _, _, _, _, _ => none
  | k + 1, x0, x5, x6, x9, x10, x11, x12, x89 => if x89 = true then (if 0 ≤ x11 then (if x11 < (x10.length : Int) then (part_Heirs.l1 k x0 x5 x6 x9 (x10.set (x11 : Int).toNat (⟨0, 1⟩ : S35)) (wrap64 (x11 + 1))) else (none)) else (none)) else (if 0 ≤ x12 then (if x12 < (x10.length : Int) then (if x12 < (x6.length : Int) then ((part_Of.f k ((rd_T35 x10 x12).f0) (wrap64 (((rd_T35 x10 x12).f1) * (rd x6 x12)))).bind fun bt179 => (if bt179.2.2 = 0 then (if 0 ≤ x11 then (if x11 < (x10.length : Int) then ((some (x10.set (x11 : Int).toNat (⟨bt179.1, bt179.2.1⟩ : S35) : List (S35))).bind fun y183 => (if x11 < (x0.length : Int) then (if (rd_T32 x0 x11).f1 = true then (if x11 < (x9.length : Int) then (part_Heirs.l1 k x0 x5 x6 (x9.set (x11 : Int).toNat (⟨bt179.1, bt179.2.1⟩ : S35)) (y183.set (x11 : Int).toNat (⟨0, 1⟩ : S35)) (wrap64 (x11 + 1))) else (none)) else (part_Heirs.l1 k x0 x5 x6 x9 y183 (wrap64 (x11 + 1)))) else (none))) else (none)) else (none)) else (none))) else (none)) else (none)) else (none))
end
def part_Heirs.f (k : Nat) (l0 : List (S32)) : Option ((List (S35)) × Int) := (part_family.f k l0).bind fun t146 => (if t146 = 0 then ((part_heir.f k l0).bind fun t147 => (if 0 < (t147.length : Int) then (if rdOf false t147 0 = true then (if 0 ≤ (l0.length : Int) then (if ((l0.length : Int) : Int).toNat ≤ 35184372088832 then (if 1 ≤ (l0.length : Int) then ((some (l0.drop 1 : List (S32))).bind fun y154 => (part_Heirs.l0 k l0 t147 (List.replicate ((l0.length : Int) : Int).toNat 0) y154 (y154.length : Int) 0)) else (none)) else (none)) else (none)) else (some (([] : List (S35)), 4))) else (none))) else (none))
theorem part_Heirs.mono_l : ∀ k, (∀ y0 y1 y2 y3 y4 y5, LeO (part_Heirs.l0 k y0 y1 y2 y3 y4 y5) (part_Heirs.l0 (k + 1) y0 y1 y2 y3 y4 y5)) ∧ (∀ y0 y1 y2 y3 y4 y5, LeO (part_Heirs.l1 k y0 y1 y2 y3 y4 y5) (part_Heirs.l1 (k + 1) y0 y1 y2 y3 y4 y5)) ∧ (∀ y0 y1 y2 y3 y4 y5 y6 y7, LeO (part_Heirs.j2 k y0 y1 y2 y3 y4 y5 y6 y7) (part_Heirs.j2 (k + 1) y0 y1 y2 y3 y4 y5 y6 y7))
  | 0 => ⟨fun _ _ _ _ _ _ r h => by simp [part_Heirs.l0] at h, fun _ _ _ _ _ _ r h => by simp [part_Heirs.l1] at h, fun _ _ _ _ _ _ _ _ r h => by simp [part_Heirs.j2] at h⟩
  | k + 1 => by
    obtain ⟨ih0, ih1, ih2⟩ := part_Heirs.mono_l k
    refine ⟨?_, ?_, ?_⟩
    · intro y0 y1 y2 y3 y4 y5
      unfold part_Heirs.l0
      repeat' first
      | (with_reducible exact ih0 _ _ _ _ _ _)
      | (with_reducible exact ih1 _ _ _ _ _ _)
      | (with_reducible exact ih2 _ _ _ _ _ _ _ _)
      | (with_reducible exact part_Of.mono _ _ _)
      | (with_reducible exact part_family.mono _ _)
      | (with_reducible exact part_heir.mono _ _)
      | (with_reducible exact LeO.refl _)
      | (with_reducible exact LeO.none _)
      | (with_reducible refine LeO.ite ?_ ?_)
      | (with_reducible refine LeO.bind ?_ (fun _ => ?_))
      | exact ih0 _ _ _ _ _ _
      | exact ih1 _ _ _ _ _ _
      | exact ih2 _ _ _ _ _ _ _ _
      | exact part_Of.mono _ _ _
      | exact part_family.mono _ _
      | exact part_heir.mono _ _
      | exact LeO.none _
      | refine LeO.ite ?_ ?_
      | refine LeO.bind ?_ (fun _ => ?_)
    · intro y0 y1 y2 y3 y4 y5
      unfold part_Heirs.l1
      repeat' first
      | (with_reducible exact ih0 _ _ _ _ _ _)
      | (with_reducible exact ih1 _ _ _ _ _ _)
      | (with_reducible exact ih2 _ _ _ _ _ _ _ _)
      | (with_reducible exact part_Of.mono _ _ _)
      | (with_reducible exact part_family.mono _ _)
      | (with_reducible exact part_heir.mono _ _)
      | (with_reducible exact LeO.refl _)
      | (with_reducible exact LeO.none _)
      | (with_reducible refine LeO.ite ?_ ?_)
      | (with_reducible refine LeO.bind ?_ (fun _ => ?_))
      | exact ih0 _ _ _ _ _ _
      | exact ih1 _ _ _ _ _ _
      | exact ih2 _ _ _ _ _ _ _ _
      | exact part_Of.mono _ _ _
      | exact part_family.mono _ _
      | exact part_heir.mono _ _
      | exact LeO.none _
      | refine LeO.ite ?_ ?_
      | refine LeO.bind ?_ (fun _ => ?_)
    · intro y0 y1 y2 y3 y4 y5 y6 y7
      unfold part_Heirs.j2
      repeat' first
      | (with_reducible exact ih0 _ _ _ _ _ _)
      | (with_reducible exact ih1 _ _ _ _ _ _)
      | (with_reducible exact ih2 _ _ _ _ _ _ _ _)
      | (with_reducible exact part_Of.mono _ _ _)
      | (with_reducible exact part_family.mono _ _)
      | (with_reducible exact part_heir.mono _ _)
      | (with_reducible exact LeO.refl _)
      | (with_reducible exact LeO.none _)
      | (with_reducible refine LeO.ite ?_ ?_)
      | (with_reducible refine LeO.bind ?_ (fun _ => ?_))
      | exact ih0 _ _ _ _ _ _
      | exact ih1 _ _ _ _ _ _
      | exact ih2 _ _ _ _ _ _ _ _
      | exact part_Of.mono _ _ _
      | exact part_family.mono _ _
      | exact part_heir.mono _ _
      | exact LeO.none _
      | refine LeO.ite ?_ ?_
      | refine LeO.bind ?_ (fun _ => ?_)
theorem part_Heirs.mono : ∀ a0 k, LeO (part_Heirs.f k a0) (part_Heirs.f (k + 1) a0) := by
  intro a0 k
  obtain ⟨ih0, ih1, ih2⟩ := part_Heirs.mono_l k
  unfold part_Heirs.f
  repeat' first
      | (with_reducible exact ih0 _ _ _ _ _ _)
      | (with_reducible exact ih1 _ _ _ _ _ _)
      | (with_reducible exact ih2 _ _ _ _ _ _ _ _)
      | (with_reducible exact part_Of.mono _ _ _)
      | (with_reducible exact part_family.mono _ _)
      | (with_reducible exact part_heir.mono _ _)
      | (with_reducible exact LeO.refl _)
      | (with_reducible exact LeO.none _)
      | (with_reducible refine LeO.ite ?_ ?_)
      | (with_reducible refine LeO.bind ?_ (fun _ => ?_))
      | exact ih0 _ _ _ _ _ _
      | exact ih1 _ _ _ _ _ _
      | exact ih2 _ _ _ _ _ _ _ _
      | exact part_Of.mono _ _ _
      | exact part_family.mono _ _
      | exact part_heir.mono _ _
      | exact LeO.none _
      | refine LeO.ite ?_ ?_
      | refine LeO.bind ?_ (fun _ => ?_)
def part_Heirs.T25 : Bool × List (List Nat × List Nat) := (true, [([], []), ([], []), ([0, 1], [0, 1]), ([2], [2]), ([3], [3]), ([], []), ([], []), ([5, 6], [5, 6]), ([7], [7]), ([8], [8]), ([], []), ([], []), ([10, 11], [10, 11]), ([12], [12]), ([9, 13], [9, 13]), ([4, 14], [4, 14]), ([15], [15]), ([16], [16]), ([16], [16]), ([], []), ([19, 17, 15, 0, 1, 2, 3, 4, 5, 6, 7, 8, 9, 10, 11, 12, 13, 14, 15, 16, 17, 19], [17, 19]), ([18, 20, 0, 1, 2, 3, 4, 5, 6, 7, 8, 9, 10, 11, 12, 13, 14, 15, 16, 17, 18, 19, 20], [18])])
def part_Heirs.B25 : List Nat := [0, 0, 3, 7, 15, 0, 0, 96, 224, 480, 0, 0, 3072, 7168, 16352, 32767, 65535, 131071, 131071, 0, 786431, 2097151]
theorem part_Heirs.tab25 : rtab .any (opsOf Try.f13 25) = part_Heirs.T25 := by kernel_rfl
theorem part_Heirs.bits25 : waitsOk part_Heirs.T25.2 part_Heirs.B25 = true := by kernel_rfl
set_option maxHeartbeats 8000000 in
set_option maxRecDepth 100000 in
theorem part_Heirs.calls (k : Nat) (A0 : Option Addr) (c0 : Nat) (l0 : List (S32)) (r1 : List (S35)) (r2 : Int) (w : World) (hr0 : Kd.C k32 w A0 l0.length l0) (hc0 : l0.length ≤ c0) (h : part_Heirs.f k l0 = some (r1, r2)) :
    Calls Try.prog 13 #[.slice A0 l0.length c0] w fun e w' => ∃ v0_ : Value, e = .returned (.tuple #[v0_, .int .i64 r2]) ∧ Kd.R k35 35 w' w.heap.size (fun _ => True) v0_ r1 ∧ Below w.heap.size w w' := by
  have hu32 := Try.underlying32
  have hu35 := Try.underlying35
  have HR0 := Aside0.mk hr0
  have HC0 := Aside0.mk hc0
  clear hr0 hc0
  have HB := Aside0.mk (Below.refl w.heap.size w)
  have H : ((part_family.f k l0).bind fun t146 => (if t146 = 0 then ((part_heir.f k l0).bind fun t147 => (if 0 < (t147.length : Int) then (if rdOf false t147 0 = true then (if 0 ≤ (l0.length : Int) then (if ((l0.length : Int) : Int).toNat ≤ 35184372088832 then (if 1 ≤ (l0.length : Int) then ((some (l0.drop 1 : List (S32))).bind fun y154 => (part_Heirs.l0 k l0 t147 (List.replicate ((l0.length : Int) : Int).toNat 0) y154 (y154.length : Int) 0)) else (none)) else (none)) else (none)) else (some (([] : List (S35)), 4))) else (none))) else (none))) = some (r1, r2) := h
  clear h
  replace H := Option.bind_eq_some_iff.mp H
  obtain ⟨t146, A20, H⟩ := H
  replace H : (if t146 = 0 then ((part_heir.f k l0).bind fun t147 => (if 0 < (t147.length : Int) then (if rdOf false t147 0 = true then (if 0 ≤ (l0.length : Int) then (if ((l0.length : Int) : Int).toNat ≤ 35184372088832 then (if 1 ≤ (l0.length : Int) then ((some (l0.drop 1 : List (S32))).bind fun y154 => (part_Heirs.l0 k l0 t147 (List.replicate ((l0.length : Int) : Int).toNat 0) y154 (y154.length : Int) 0)) else (none)) else (none)) else (none)) else (some (([] : List (S35)), 4))) else (none))) else (none)) = some (r1, r2) := H
  have A2 := Aside0.mk A20
  clear A20
  by_cases c3 : t146 = 0
  · rw [if_pos c3] at H
    have c3b0 : (t146 == 0) = true := beq_iff_eq.mpr c3
    have c3b1 : (t146 != 0) = false := bne_eq_false_iff_eq.mpr c3
    clear c3
    replace H := Option.bind_eq_some_iff.mp H
    obtain ⟨t147, A40, H⟩ := H
    replace H : (if 0 < (t147.length : Int) then (if rdOf false t147 0 = true then (if 0 ≤ (l0.length : Int) then (if ((l0.length : Int) : Int).toNat ≤ 35184372088832 then (if 1 ≤ (l0.length : Int) then ((some (l0.drop 1 : List (S32))).bind fun y154 => (part_Heirs.l0 k l0 t147 (List.replicate ((l0.length : Int) : Int).toNat 0) y154 (y154.length : Int) 0)) else (none)) else (none)) else (none)) else (some (([] : List (S35)), 4))) else (none)) = some (r1, r2) := H
    have A4 := Aside0.mk A40
    clear A40
    by_cases c5 : 0 < (t147.length : Int)
    · rw [if_pos c5] at H
      have c5b0 : decide (0 < (t147.length : Int)) = true := decide_eq_true c5
      have c5b1 : decide (0 < t147.length) = true := decide_eq_true (by omega)
      clear c5
      obtain ⟨bq6, hbq6⟩ : ∃ b_ : Bool, b_ = (rdOf false t147 0) := ⟨_, rfl⟩
      replace H : (if bq6 = true then (if 0 ≤ (l0.length : Int) then (if ((l0.length : Int) : Int).toNat ≤ 35184372088832 then (if 1 ≤ (l0.length : Int) then ((some (l0.drop 1 : List (S32))).bind fun y154 => (part_Heirs.l0 k l0 t147 (List.replicate ((l0.length : Int) : Int).toNat 0) y154 (y154.length : Int) 0)) else (none)) else (none)) else (none)) else (some (([] : List (S35)), 4))) = some (r1, r2) := by rw [← hbq6] at H; exact H
      have Nbq6 := Aside0.mk hbq6
      clear hbq6
      by_cases c7 : bq6 = true
      · subst c7
        have H1 : (if 0 ≤ (l0.length : Int) then (if ((l0.length : Int) : Int).toNat ≤ 35184372088832 then (if 1 ≤ (l0.length : Int) then ((some (l0.drop 1 : List (S32))).bind fun y154 => (part_Heirs.l0 k l0 t147 (List.replicate ((l0.length : Int) : Int).toNat 0) y154 (y154.length : Int) 0)) else (none)) else (none)) else (none)) = some (r1, r2) := by rw [if_pos rfl] at H; exact H
        clear H
        have H := H1
        clear H1
        by_cases c8 : 0 ≤ (l0.length : Int)
        · rw [if_pos c8] at H
          have c8b0 := eq_true c8
          have c8b1 : decide (0 ≤ (l0.length : Int)) = true := decide_eq_true c8
          clear c8
          by_cases c9 : ((l0.length : Int) : Int).toNat ≤ 35184372088832
          · rw [if_pos c9] at H
            have c9b0 := eq_true c9
            have c9b1 : decide (((l0.length : Int) : Int).toNat ≤ 35184372088832) = true := decide_eq_true c9
            clear c9
            obtain ⟨y151, hy151⟩ : ∃ y_ : List Int, y_ = (List.replicate ((l0.length : Int) : Int).toNat 0) := ⟨_, rfl⟩
            replace H : (if 1 ≤ (l0.length : Int) then ((some (l0.drop 1 : List (S32))).bind fun y154 => (part_Heirs.l0 k l0 t147 y151 y154 (y154.length : Int) 0)) else (none)) = some (r1, r2) := by first | (rw [hy151]; with_reducible exact H) | (have H2_ := (Option.bind_some _ _).symm.trans H; rw [hy151]; with_reducible exact H2_) | (have H2_ := (Option.bind_some _ _).symm.trans H; with_reducible exact H2_) | with_reducible exact H | (rw [hy151]; exact H) | exact H
            have Ny151 := Aside0.mk hy151
            clear hy151
            by_cases c10 : 1 ≤ (l0.length : Int)
            · rw [if_pos c10] at H
              have c10b0 := eq_true c10
              have c10b1 : decide (1 ≤ (l0.length : Int)) = true := decide_eq_true c10
              clear c10
              obtain ⟨y154, hy154⟩ : ∃ y_ : List (S32), y_ = (l0.drop 1) := ⟨_, rfl⟩
              replace H : (part_Heirs.l0 k l0 t147 y151 y154 (y154.length : Int) 0) = some (r1, r2) := by first | (rw [hy154]; with_reducible exact H) | (have H2_ := (Option.bind_some _ _).symm.trans H; rw [hy154]; with_reducible exact H2_) | (have H2_ := (Option.bind_some _ _).symm.trans H; with_reducible exact H2_) | with_reducible exact H | (rw [hy154]; exact H) | exact H
              have Ny154 := Aside0.mk hy154
              clear hy154
              have H' := Aside0.mk H
              clear H
              go_enter Try.func13, Try.ntmps13
              go_wp2_with (first | ((with_reducible refine gate_callee (f := 48) rfl ?_); refine goesL_ (some 16) rfl rfl Try.func48 (by kernel_rfl) rfl #[.slice A0 l0.length c0] rfl (by (try simp only [List.map_toArray, List.map_cons, List.map_nil]); first | done | rfl | (simp only [List.length_drop, List.length_take]; rfl)) ?_; (with_reducible refine (part_family.calls k _ _ l0 t146 _ ?side1 ?side2 A2.out).mono ?_); (case side1 => repeat (first | exact HR0.out | (with_reducible refine Kd.C_alloc ?_ _) | (with_reducible refine Kd.C_drewN ?_ _) | (with_reducible refine Kd.C_drew ?_))); (case side2 => exact HC0.out); rintro e w11 ⟨rfl, hb⟩; refine ⟨_, rfl, ?_⟩; have n0_ := Aside0.mk (below_step (by repeat (first | (with_reducible first | exact HB.out | apply below_alloc | apply pw_below_drewN | apply below_drew1) | exact HB.out)) hb); clear HB; have HB := n0_; clear n0_; (try clear hb); (try clear hb2); (try clear hk); (try clear hi)) | ((with_reducible refine gate_callee (f := 49) rfl ?_); refine goesL_ (some 21) rfl rfl Try.func49 (by kernel_rfl) rfl #[.slice A0 l0.length c0] rfl (by (try simp only [List.map_toArray, List.map_cons, List.map_nil]); first | done | rfl | (simp only [List.length_drop, List.length_take]; rfl)) ?_; (with_reducible refine (part_heir.calls k _ _ l0 t147 _ ?side1 ?side2 A4.out).mono ?_); (case side1 => repeat (first | exact (Kd.C_below HR0.out HB.out) | (with_reducible refine Kd.C_alloc ?_ _) | (with_reducible refine Kd.C_drewN ?_ _) | (with_reducible refine Kd.C_drew ?_))); (case side2 => exact HC0.out); rintro e w12 ⟨v148, rfl, ho0, hb⟩; refine ⟨_, rfl, ?_⟩; have n0_ := Aside0.mk (Kd.R_lower ho0 (below_size (by repeat (first | (with_reducible first | exact HB.out | apply below_alloc | apply pw_below_drewN | apply below_drew1) | exact HB.out)))); have n1_ := Aside0.mk (below_step (by repeat (first | (with_reducible first | exact HB.out | apply below_alloc | apply pw_below_drewN | apply below_drew1) | exact HB.out)) hb); clear HB; have HO149 := n0_; have HB := n1_; clear n0_ n1_; (try clear hb); (try clear hb2); (try clear hk); (try clear hi); (try clear ho0); obtain ⟨Ao13, co13, eo13⟩ := Kd.R_slice HO149.out; subst eo13; have p150 : 0 ≤ (0 : Int) := (by omega); have q150 : 0 < (t147.length : Int) := of_decide_eq_true (by first | (with_reducible assumption) | assumption); obtain ⟨ad150, e150, hx150_0⟩ := Kd.at_bool (Kd.R_reads' HO149.out).2.2 0 p150 q150; (try rw [← Nbq6.out] at hx150_0); cases e150; have qi150 : (0 < t147.length) = True := eq_true (by omega); (try rw [show ((0 : Int)).toNat = 0 from rfl] at hx150_0); (try rw [Addr.add_zero'] at hx150_0); replace p150 := eq_true p150; replace q150 := eq_true q150) | ((with_reducible refine gate_dst (N := 28) rfl ?_); refine Kd.R_make (Kd.int .i64) _ 3 rfl (N := 28) rfl 22 _ _ rfl (l0.length : Int) rfl rfl Try.underlying22 (.int .i64 0) 8 info3 rfl (by decide) (by omega) 0 (ok := fun _ => True) (okp := fun _ => True) rfl (fun _ hk => hk) trivial (of_decide_eq_true (by first | (with_reducible assumption) | assumption)) (Nat.le_trans (Nat.mul_le_mul_right _ (of_decide_eq_true (by first | (with_reducible assumption) | assumption) : (l0.length : Int).toNat ≤ 35184372088832)) (by omega)) (Below.refl _ _) (Nat.le_refl _) ?_; intro v152 w14 ho15 hb hg_ hnew_; clear hg_ hnew_; (first | rw [← Ny151.out] at ho15 | (simp only [Int.reduceToNat] at ho15; rw [← Ny151.out] at ho15)); have n0_ := Aside0.mk (Kd.R_below (by (with_reducible repeat (first | apply Kd.R_alloc | apply Kd.R_drewN | apply Kd.R_drew)); exact HO149.out) hb); have n1_ := Aside0.mk (Kd.R_lower ho15 (below_size (by repeat (first | (with_reducible first | exact HB.out | apply below_alloc | apply pw_below_drewN | apply below_drew1) | exact HB.out)))); have n2_ := Aside0.mk (below_step (by repeat (first | (with_reducible first | exact HB.out | apply below_alloc | apply pw_below_drewN | apply below_drew1) | exact HB.out)) hb); clear HO149; clear HB; have HO149 := n0_; have HO153 := n1_; have HB := n2_; clear n0_ n1_ n2_; clear hb ho15; have q16 : (1 : Int) ≤ ((l0.length : Int) : Int) := of_decide_eq_true (by first | (with_reducible assumption) | assumption); obtain ⟨i016, hi016, _, hsz16, _⟩ := info_parts info32; have hroom16 : l0.length ≤ c0 := HC0.out; have hC16 : Kd.C k32 _ A0 l0.length l0 := HR0.out; have hcut16 := cut_from (P := Try.prog) 23 32 .i64 Try.underlying23 hi016 2 hsz16 A0 l0.length c0 1 (by omega) q16; have hr16 := Kd.C_drop (m := (1 : Int).toNat) (c := c0) hC16 (by omega) hroom16; obtain ⟨A16, hA16⟩ : ∃ A1, A1 = (if c0 = (1 : Int).toNat then A0 else (A0 : Option Addr).map (·.add ((1 : Int).toNat * 2))) := ⟨_, rfl⟩; obtain ⟨c16, hc16⟩ : ∃ c1, c1 = c0 - (1 : Int).toNat := ⟨_, rfl⟩; have hy16 : y154.length = l0.length - (1 : Int).toNat := (by rw [Ny154.out, List.length_drop] <;> omega); rw [show (l0).drop (1 : Int).toNat = y154 from Ny154.out.symm] at hr16; replace hr16 : Kd.C k32 _ A16 y154.length y154 := (by rw [hA16]; exact hr16); rw [← hy16, ← hA16, ← hc16] at hcut16; have HR157 := Aside0.mk hr16; have HC157 := Aside0.mk (show y154.length ≤ c16 from by rw [hy16, hc16]; exact Nat.sub_le_sub_right hroom16 _); clear hr16 hC16 hroom16 hi016 hsz16 hc16; have KY16 := Aside0.mk hy16; have KA16 := Aside0.mk hA16; clear hy16 hA16; replace q16 := eq_true q16))
              go_loopg [32] k (fun kq v32 w' => ∃ (x6_1 : List Int) (x32_1 : Int), v32 = .int .i64 x32_1 ∧ Aside0 (part_Heirs.l0 kq l0 t147 x6_1 y154 (y154.length : Int) x32_1 = some (r1, r2)) ∧ Aside0 (kq ≤ k) ∧ Aside0 (Kd.R Kd.bool 4 w' w.heap.size (fun _ => True) (.slice (some ad150) t147.length co13) t147) ∧ Aside0 (Kd.R (Kd.int .i64) 3 w' w.heap.size (fun _ => True) v152 x6_1) ∧ Aside0 (Below w.heap.size w w'))
              case atStart => exact ⟨(y151), (0), (by first | rfl | (simp; done) | (simp [*]; done)), H', ⟨Nat.le_refl _⟩, ⟨by (with_reducible repeat (first | apply Kd.R_alloc | apply Kd.R_drewN | apply Kd.R_drew)); exact HO149.out⟩, ⟨by (with_reducible repeat (first | apply Kd.R_alloc | apply Kd.R_drewN | apply Kd.R_drew)); exact HO153.out⟩, ⟨by repeat (first | (with_reducible first | exact HB.out | apply below_alloc | apply pw_below_drewN | apply below_drew1) | exact HB.out)⟩⟩
              case round =>
                clear H'
                try clear c1
                try clear p1
                try clear q1
                try clear hx1
                try clear qi1
                try clear p2
                try clear c3
                try clear c3b0
                try clear c3b1
                try clear c4
                try clear c5
                try clear c5b0
                try clear c5b1
                try clear q6
                try clear c7
                try clear c8
                try clear c8b0
                try clear c8b1
                try clear c9
                try clear c9b0
                try clear c9b1
                try clear c10
                try clear c10b0
                try clear c10b1
                try clear c13
                try clear p15
                try clear q15
                try clear hx15
                try clear qi15
                try clear c16
                try clear q16
                try clear hx150_0
                try clear p150
                try clear q150
                try clear q16
                obtain ⟨x6_1, x32_1, rfl, HA, HK1, HO_5, HO_6, HB⟩ := hrel
                cases gk with
                | zero => exact absurd HA.out (by simp [part_Heirs.l0])
                | succ k1 =>
                  have H := HA.out
                  clear HA
                  simp only [part_Heirs.l0] at H
                  by_cases c17 : x32_1 < (y154.length : Int)
                  · rw [if_pos c17] at H
                    have c17b0 : decide (x32_1 < (y154.length : Int)) = true := decide_eq_true c17
                    clear c17
                    by_cases c18 : 0 ≤ x32_1
                    · rw [if_pos c18] at H
                      have c18b0 : decide (0 ≤ x32_1) = true := decide_eq_true c18
                      clear c18
                      by_cases c19 : x32_1 < (y154.length : Int)
                      · rw [if_pos c19] at H
                        have c19b0 : decide (x32_1 < (y154.length : Int)) = true := decide_eq_true c19
                        clear c19
                        obtain ⟨ji20, hji20⟩ : ∃ j_ : Int, (wrap64 (x32_1 + 1)) = j_ := ⟨_, rfl⟩
                        replace H : (if 0 ≤ (ji20) then (if (ji20) < (t147.length : Int) then (if rdOf false t147 (ji20) = true then (if 0 ≤ ((rd_T32 y154 x32_1).f0) then (if ((rd_T32 y154 x32_1).f0) < (x6_1.length : Int) then (part_Heirs.l0 k1 l0 t147 (x6_1.set (((rd_T32 y154 x32_1).f0) : Int).toNat (wrap64 ((rd x6_1 ((rd_T32 y154 x32_1).f0)) + 1))) y154 (y154.length : Int) ji20) else (none)) else (none)) else (part_Heirs.l0 k1 l0 t147 x6_1 y154 (y154.length : Int) ji20)) else (none)) else (none)) = some (r1, r2) := by first | (rw [hji20] at H; exact H) | (simp only [hji20] at H ⊢; exact H)
                        have hji20w : (IntKind.i64.wrap (x32_1 + 1)) = ji20 := (i64_w _).trans hji20
                        by_cases c21 : 0 ≤ (ji20)
                        · rw [if_pos c21] at H
                          have c21b0 : decide (0 ≤ (ji20)) = true := decide_eq_true c21
                          clear c21
                          by_cases c22 : (ji20) < (t147.length : Int)
                          · rw [if_pos c22] at H
                            have c22b0 : decide ((ji20) < (t147.length : Int)) = true := decide_eq_true c22
                            clear c22
                            obtain ⟨bq23, hbq23⟩ : ∃ b_ : Bool, b_ = (rdOf false t147 (ji20)) := ⟨_, rfl⟩
                            replace H : (if bq23 = true then (if 0 ≤ ((rd_T32 y154 x32_1).f0) then (if ((rd_T32 y154 x32_1).f0) < (x6_1.length : Int) then (part_Heirs.l0 k1 l0 t147 (x6_1.set (((rd_T32 y154 x32_1).f0) : Int).toNat (wrap64 ((rd x6_1 ((rd_T32 y154 x32_1).f0)) + 1))) y154 (y154.length : Int) ji20) else (none)) else (none)) else (part_Heirs.l0 k1 l0 t147 x6_1 y154 (y154.length : Int) ji20)) = some (r1, r2) := by rw [← hbq23] at H; exact H
                            have Nbq23 := Aside0.mk hbq23
                            clear hbq23
                            by_cases c24 : bq23 = true
                            · subst c24
                              have H1 : (if 0 ≤ ((rd_T32 y154 x32_1).f0) then (if ((rd_T32 y154 x32_1).f0) < (x6_1.length : Int) then (part_Heirs.l0 k1 l0 t147 (x6_1.set (((rd_T32 y154 x32_1).f0) : Int).toNat (wrap64 ((rd x6_1 ((rd_T32 y154 x32_1).f0)) + 1))) y154 (y154.length : Int) ji20) else (none)) else (none)) = some (r1, r2) := by rw [if_pos rfl] at H; exact H
                              clear H
                              have H := H1
                              clear H1
                              by_cases c25 : 0 ≤ ((rd_T32 y154 x32_1).f0)
                              · rw [if_pos c25] at H
                                have c25b0 : decide (0 ≤ ((rd_T32 y154 x32_1).f0)) = true := decide_eq_true c25
                                clear c25
                                by_cases c26 : ((rd_T32 y154 x32_1).f0) < (x6_1.length : Int)
                                · rw [if_pos c26] at H
                                  have c26b0 : decide (((rd_T32 y154 x32_1).f0) < (x6_1.length : Int)) = true := decide_eq_true c26
                                  clear c26
                                  obtain ⟨y162, hy162⟩ : ∃ y_ : List Int, y_ = (x6_1.set (((rd_T32 y154 x32_1).f0) : Int).toNat (wrap64 ((rd x6_1 ((rd_T32 y154 x32_1).f0)) + 1))) := ⟨_, rfl⟩
                                  replace H : (part_Heirs.l0 k1 l0 t147 y162 y154 (y154.length : Int) ji20) = some (r1, r2) := by first | (rw [hy162]; with_reducible exact H) | (have H2_ := (Option.bind_some _ _).symm.trans H; rw [hy162]; with_reducible exact H2_) | (have H2_ := (Option.bind_some _ _).symm.trans H; with_reducible exact H2_) | with_reducible exact H | (rw [hy162]; exact H) | exact H
                                  have Ny162 := Aside0.mk hy162
                                  clear hy162
                                  have H' := Aside0.mk H
                                  clear H
                                  have p158 : 0 ≤ (x32_1 : Int) := of_decide_eq_true (by first | (with_reducible assumption) | assumption)
                                  have q158 : x32_1 < (y154.length : Int) := of_decide_eq_true (by first | (with_reducible assumption) | assumption)
                                  obtain ⟨ad158, e158, hx158_0, hx158_1⟩ := at_T32 HR157.out x32_1 p158 q158
                                  (try rw [← Nbq6.out] at hx158_1)
                                  (try rw [← Nbq23.out] at hx158_1)
                                  cases e158
                                  replace hx158_0 := (HB.out.cell (World.block_lt_of_cell? w _ hx158_0)).trans hx158_0
                                  replace hx158_1 := (HB.out.cell (World.block_lt_of_cell? w _ hx158_1)).trans hx158_1
                                  replace p158 := eq_true p158
                                  replace q158 := eq_true q158
                                  go_wp2_with (first | ((with_reducible refine gate_dst (N := 8) rfl ?_); refine box_event ?hg (N := 8) ?hd (cs := #[.int .i64 0, .bool false]) (t := 32) ?hr ?_; (case hd => rfl); (case hg => rfl); (case hr => first | (go_simp; done) | (go_simp; rfl)); intro gb159 hg w28 hbox hb; have n0_ := Aside0.mk (Kd.R_below (by (with_reducible repeat (first | apply Kd.R_alloc | apply Kd.R_drewN | apply Kd.R_drew)); exact HO_5.out) hb); have n1_ := Aside0.mk (Kd.R_below (by (with_reducible repeat (first | apply Kd.R_alloc | apply Kd.R_drewN | apply Kd.R_drew)); exact HO_6.out) hb); have n2_ := Aside0.mk (below_step (by repeat (first | (with_reducible first | exact HB.out | apply below_alloc | apply pw_below_drewN | apply below_drew1) | exact HB.out)) hb); have n3_ := Aside0.mk (hbox); have n4_ := Aside0.mk ((by rw [hg]; exact (below_size (by repeat (first | (with_reducible first | exact HB.out | apply below_alloc | apply pw_below_drewN | apply below_drew1) | exact HB.out))) : w.heap.size ≤ gb159)); have n5_ := Aside0.mk ((by rw [hg]; exact (below_size (by repeat (first | (with_reducible first | exact HB.out | apply below_alloc | apply pw_below_drewN | apply below_drew1) | exact HB.out))) : w.heap.size ≤ gb159)); clear HO_5; clear HO_6; clear HB; have HO_5 := n0_; have HO_6 := n1_; have HB := n2_; have BK159 := n3_; have GW159 := n4_; have GE159 := n5_; clear n0_ n1_ n2_ n3_ n4_ n5_; clear hb hbox hg; have hcz29_0 : w28.cell? ⟨gb159, 0, none⟩ = some (.int .i64 0) := (blk_cell BK159.out 0).trans rfl; have hcz29_1 : w28.cell? ⟨gb159, 1, none⟩ = some (.bool false) := (blk_cell BK159.out 1).trans rfl; have hfz29_0 := blk_frozen BK159.out 0; have hfz29_1 := blk_frozen BK159.out 1) | ((with_reducible refine gate_store (t := 32) (p := 8) rfl ?_); refine store_event (t := 32) (p := 8) (v := ?vo_w30) (w1 := ((w28.setCell ⟨gb159, 0, none⟩ (.int .i64 ((rd_T32 y154 x32_1).f0))).setCell ⟨gb159, 1, none⟩ (.bool ((rd_T32 y154 x32_1).f1)))) ?hg ?ho ?hn ?hr ?_; (case ho => rfl); (case hg => rfl); (case hn => rfl); (case hr => first | (go_simp; done) | (go_simp; rfl)); intro w30 hw; have n0_ : Aside0 (Kd.R Kd.bool 4 w30 w.heap.size (fun _ => True) (.slice (some ad150) t147.length co13) t147) := ⟨(by rw [hw]; exact (by (with_reducible repeat (first | apply Kd.R_alloc | apply Kd.R_drewN | apply Kd.R_drew)); exact Kd.R_mono (Kd.R_far (p := ⟨gb159, 1, none⟩) (Kd.R_far (p := ⟨gb159, 0, none⟩) (Kd.R_types HO_5.out BK159.out (by decide)) (fun _ hk => hk.2) (.int .i64 ((rd_T32 y154 x32_1).f0))) (fun _ hk => hk.2) (.bool ((rd_T32 y154 x32_1).f1))) (fun _ hk => trivial)))⟩; have n1_ : Aside0 (Kd.R (Kd.int .i64) 3 w30 w.heap.size (fun _ => True) v152 x6_1) := ⟨(by rw [hw]; exact (by (with_reducible repeat (first | apply Kd.R_alloc | apply Kd.R_drewN | apply Kd.R_drew)); exact Kd.R_mono (Kd.R_far (p := ⟨gb159, 1, none⟩) (Kd.R_far (p := ⟨gb159, 0, none⟩) (Kd.R_types HO_6.out BK159.out (by decide)) (fun _ hk => hk.2) (.int .i64 ((rd_T32 y154 x32_1).f0))) (fun _ hk => hk.2) (.bool ((rd_T32 y154 x32_1).f1))) (fun _ hk => trivial)))⟩; have n2_ : Aside0 (w30.heap[gb159]? = some (.cells #[.int .i64 ((rd_T32 y154 x32_1).f0), .bool ((rd_T32 y154 x32_1).f1)] 32 (0, 0))) := ⟨(by rw [hw]; exact (by (with_reducible repeat (first | refine blk_drewN ?_ _ | refine blk_drew ?_ | refine blk_alloc ?_ _)); refine blk_put (cs := #[.int .i64 ((rd_T32 y154 x32_1).f0), .bool false]) ?_ 1 _ rfl; (with_reducible repeat (first | refine blk_drewN ?_ _ | refine blk_drew ?_ | refine blk_alloc ?_ _)); refine blk_put (cs := #[.int .i64 0, .bool false]) ?_ 0 _ rfl; (with_reducible repeat (first | refine blk_drewN ?_ _ | refine blk_drew ?_ | refine blk_alloc ?_ _)); exact BK159.out))⟩; have n3_ : Aside0 (Below w.heap.size w w30) := ⟨(by rw [hw]; exact (by repeat (first | (with_reducible first | exact HB.out | apply below_alloc | apply pw_below_drewN | apply below_drew1 | refine below_set ?_ GE159.out) | exact HB.out)))⟩; clear hw; clear HO_5; clear HO_6; clear BK159; clear HB; have HO_5 := n0_; have HO_6 := n1_; have BK159 := n2_; have HB := n3_; clear n0_ n1_ n2_ n3_; have p160 : 0 ≤ ((ji20) : Int) := of_decide_eq_true (by first | (with_reducible assumption) | assumption); have q160 : (ji20) < (t147.length : Int) := of_decide_eq_true (by first | (with_reducible assumption) | assumption); obtain ⟨ad160, e160, hx160_0⟩ := Kd.at_bool (Kd.R_reads' HO_5.out).2.2 (ji20) p160 q160; (try rw [← Nbq6.out] at hx160_0); (try rw [← Nbq23.out] at hx160_0); obtain rfl : ad150 = ad160 := (by injection e160); replace p160 := eq_true p160; replace q160 := eq_true q160; have hcz31_0 : w30.cell? ⟨gb159, 0, none⟩ = some (.int .i64 ((rd_T32 y154 x32_1).f0)) := (blk_cell BK159.out 0).trans rfl; have hcz31_1 : w30.cell? ⟨gb159, 1, none⟩ = some (.bool ((rd_T32 y154 x32_1).f1)) := (blk_cell BK159.out 1).trans rfl; have hfz31_0 := blk_frozen BK159.out 0; have hfz31_1 := blk_frozen BK159.out 1; obtain ⟨Ao32, co32, eo32⟩ := Kd.R_slice HO_6.out; subst eo32; have p161 : 0 ≤ (((rd_T32 y154 x32_1).f0) : Int) := of_decide_eq_true (by first | (with_reducible assumption) | assumption); have q161 : ((rd_T32 y154 x32_1).f0) < (x6_1.length : Int) := of_decide_eq_true (by first | (with_reducible assumption) | assumption); obtain ⟨ad161, e161, hx161_0⟩ := Kd.at_int (Kd.R_reads' HO_6.out).2.2 ((rd_T32 y154 x32_1).f0) p161 q161; cases e161; replace p161 := eq_true p161; replace q161 := eq_true q161; have p27 : 0 ≤ (((rd_T32 y154 x32_1).f0) : Int) := of_decide_eq_true (by first | (with_reducible assumption) | assumption); have q27 : (((rd_T32 y154 x32_1).f0) : Int) < ((x6_1.length : Int) : Int) := of_decide_eq_true (by first | (with_reducible assumption) | assumption); obtain ⟨go27, co27, eo27, gb27, gl27, cl27, HG27⟩ := Kd.R_form HO_6.out (by omega); (first | cases eo27 | (injection eo27 with ea_ en_ ec_; (first | subst ea_ | (injection ea_ with ea_; subst ea_)); subst ec_; clear en_)); have GB27 := Aside0.mk gb27; have GG27 := Aside0.mk HG27; clear gb27 gl27 HG27; (first | simp only [add_plain] at hx161_0 | skip); obtain ⟨hx27_0, hf27_0⟩ := Kd.R_celln 0 HO_6.out (((rd_T32 y154 x32_1).f0) : Int) p27 q27; replace p27 := eq_true p27; replace q27 := eq_true q27; obtain ⟨hy33_, hz33_⟩ := Kd.R_celln 0 HO_6.out (((rd_T32 y154 x32_1).f0) : Int) (of_decide_eq_true (by first | (with_reducible assumption) | assumption)) (of_decide_eq_true (by first | (with_reducible assumption) | assumption)); have HP33 := Kd.R_putg HO_6.out (((rd_T32 y154 x32_1).f0) : Int) (wrap64 ((rd x6_1 ((rd_T32 y154 x32_1).f0)) + 1))) | ((with_reducible refine gate_store (t := 3) (p := 48) rfl ?_); refine store_event (t := 3) (p := 48) (v := ?vo_w34) (w1 := (w30.setCell ⟨go27, (((rd_T32 y154 x32_1).f0) : Int).toNat, none⟩ (.int .i64 (wrap64 ((rd x6_1 ((rd_T32 y154 x32_1).f0)) + 1))))) ?hg ?ho ?hn ?hr ?_; (case ho => rfl); (case hg => rfl); (case hn => rfl); (case hr => first | (go_simp; done) | (go_simp; rfl)); intro w34 hw; have hg : w30.grownBy w34 (some go27) := (by rw [hw]; exact HP33.2); have hp_ : Kd.R (Kd.int .i64) 3 w34 w.heap.size (fun _ => True) (.slice (some ⟨go27, 0, none⟩) x6_1.length co32) y162 := (by rw [hw, Ny162.out]; exact HP33.1); clear HP33; have n0_ := Aside0.mk (Kd.R_over' (v := (.slice (some ⟨go27, 0, none⟩) x6_1.length co32)) (by (with_reducible repeat (first | apply Kd.R_alloc | apply Kd.R_drewN | apply Kd.R_drew)); exact HO_5.out) (Kd.R_typed HO_6.out) (by decide) hg); have n1_ := Aside0.mk (hp_); have n2_ := Aside0.mk (blk_grown (g := gb159) (o := .cells #[.int .i64 ((rd_T32 y154 x32_1).f0), .bool ((rd_T32 y154 x32_1).f1)] 32 (0, 0)) (by (with_reducible repeat (first | refine blk_drewN ?_ _ | refine blk_drew ?_ | refine blk_alloc ?_ _)); exact BK159.out) hg (Kd.R_ne HO_6.out BK159.out (by decide))); have n3_ := Aside0.mk ((by rw [hw]; exact below_set (HB.out) GB27.out : Below w.heap.size w w34)); clear HO_5; clear HO_6; clear BK159; clear HB; have HO_5 := n0_; have HO_6 := n1_; have BK159 := n2_; have HB := n3_; clear n0_ n1_ n2_ n3_; clear hg hw hp_))
                                  go_roundg k1
                                  case measure => have := HK1.out; omega
                                  case rel => exact ⟨(y162), (ji20), (by first | rfl | (simp; done) | (simp only [← hji20] <;> (first | rfl | simp)) | (simp [*]; done)), H', ⟨by have := HK1.out; omega⟩, ⟨by (with_reducible repeat (first | apply Kd.R_alloc | apply Kd.R_drewN | apply Kd.R_drew)); exact HO_5.out⟩, ⟨by (with_reducible repeat (first | apply Kd.R_alloc | apply Kd.R_drewN | apply Kd.R_drew)); exact HO_6.out⟩, ⟨by repeat (first | (with_reducible first | exact HB.out | apply below_alloc | apply pw_below_drewN | apply below_drew1 | refine below_set ?_ GE159.out) | exact HB.out)⟩⟩
                                · rw [if_neg c26] at H
                                  exact absurd H (by simp)
                              · rw [if_neg c25] at H
                                exact absurd H (by simp)
                            · replace c24 := Bool.eq_false_iff.mpr c24
                              subst c24
                              have H1 : (part_Heirs.l0 k1 l0 t147 x6_1 y154 (y154.length : Int) ji20) = some (r1, r2) := by rw [if_neg (show ¬ (false = true) by decide)] at H; exact H
                              clear H
                              have H := H1
                              clear H1
                              have H' := Aside0.mk H
                              clear H
                              have p158 : 0 ≤ (x32_1 : Int) := of_decide_eq_true (by first | (with_reducible assumption) | assumption)
                              have q158 : x32_1 < (y154.length : Int) := of_decide_eq_true (by first | (with_reducible assumption) | assumption)
                              obtain ⟨ad158, e158, hx158_0, hx158_1⟩ := at_T32 HR157.out x32_1 p158 q158
                              (try rw [← Nbq6.out] at hx158_1)
                              (try rw [← Nbq23.out] at hx158_1)
                              cases e158
                              replace hx158_0 := (HB.out.cell (World.block_lt_of_cell? w _ hx158_0)).trans hx158_0
                              replace hx158_1 := (HB.out.cell (World.block_lt_of_cell? w _ hx158_1)).trans hx158_1
                              replace p158 := eq_true p158
                              replace q158 := eq_true q158
                              go_wp2_with (first | ((with_reducible refine gate_dst (N := 8) rfl ?_); refine box_event ?hg (N := 8) ?hd (cs := #[.int .i64 0, .bool false]) (t := 32) ?hr ?_; (case hd => rfl); (case hg => rfl); (case hr => first | (go_simp; done) | (go_simp; rfl)); intro gb159 hg w35 hbox hb; have n0_ := Aside0.mk (Kd.R_below (by (with_reducible repeat (first | apply Kd.R_alloc | apply Kd.R_drewN | apply Kd.R_drew)); exact HO_5.out) hb); have n1_ := Aside0.mk (Kd.R_below (by (with_reducible repeat (first | apply Kd.R_alloc | apply Kd.R_drewN | apply Kd.R_drew)); exact HO_6.out) hb); have n2_ := Aside0.mk (below_step (by repeat (first | (with_reducible first | exact HB.out | apply below_alloc | apply pw_below_drewN | apply below_drew1) | exact HB.out)) hb); have n3_ := Aside0.mk (hbox); have n4_ := Aside0.mk ((by rw [hg]; exact (below_size (by repeat (first | (with_reducible first | exact HB.out | apply below_alloc | apply pw_below_drewN | apply below_drew1) | exact HB.out))) : w.heap.size ≤ gb159)); have n5_ := Aside0.mk ((by rw [hg]; exact (below_size (by repeat (first | (with_reducible first | exact HB.out | apply below_alloc | apply pw_below_drewN | apply below_drew1) | exact HB.out))) : w.heap.size ≤ gb159)); clear HO_5; clear HO_6; clear HB; have HO_5 := n0_; have HO_6 := n1_; have HB := n2_; have BK159 := n3_; have GW159 := n4_; have GE159 := n5_; clear n0_ n1_ n2_ n3_ n4_ n5_; clear hb hbox hg; have hcz36_0 : w35.cell? ⟨gb159, 0, none⟩ = some (.int .i64 0) := (blk_cell BK159.out 0).trans rfl; have hcz36_1 : w35.cell? ⟨gb159, 1, none⟩ = some (.bool false) := (blk_cell BK159.out 1).trans rfl; have hfz36_0 := blk_frozen BK159.out 0; have hfz36_1 := blk_frozen BK159.out 1; have p160 : 0 ≤ ((ji20) : Int) := of_decide_eq_true (by first | (with_reducible assumption) | assumption); have q160 : (ji20) < (t147.length : Int) := of_decide_eq_true (by first | (with_reducible assumption) | assumption); obtain ⟨ad160, e160, hx160_0⟩ := Kd.at_bool (Kd.R_reads' HO_5.out).2.2 (ji20) p160 q160; (try rw [← Nbq6.out] at hx160_0); (try rw [← Nbq23.out] at hx160_0); obtain rfl : ad150 = ad160 := (by injection e160); have hn160_0 : ad150.block ≠ gb159 := Kd.own_blk (Kd.R_ne HO_5.out BK159.out (by decide)); have hn160_1 : ad150.block ≠ gb159 := Kd.own_blk (Kd.R_ne HO_5.out BK159.out (by decide)); replace hx160_0 := (cell_far (p := ⟨gb159, 0, none⟩) (by first | (rw [add_block]; exact hn160_0) | (show (Addr.add _ _).block ≠ _; rw [add_block]; exact hn160_0) | exact hn160_0) (.int .i64 ((rd_T32 y154 x32_1).f0))).trans hx160_0; replace hx160_0 := (cell_far (p := ⟨gb159, 1, none⟩) (by first | (rw [add_block]; exact hn160_1) | (show (Addr.add _ _).block ≠ _; rw [add_block]; exact hn160_1) | exact hn160_1) (.bool ((rd_T32 y154 x32_1).f1))).trans hx160_0; clear hn160_0; clear hn160_1; replace p160 := eq_true p160; replace q160 := eq_true q160))
                              go_roundg k1
                              case measure => have := HK1.out; omega
                              case rel => exact ⟨(x6_1), (ji20), (by first | rfl | (simp; done) | (simp only [← hji20] <;> (first | rfl | simp)) | (simp [*]; done)), H', ⟨by have := HK1.out; omega⟩, ⟨by (with_reducible repeat (first | apply Kd.R_alloc | apply Kd.R_drewN | apply Kd.R_drew)); exact Kd.R_mono (Kd.R_far (p := ⟨gb159, 1, none⟩) (Kd.R_far (p := ⟨gb159, 0, none⟩) (Kd.R_types HO_5.out BK159.out (by decide)) (fun _ hk => hk.2) (.int .i64 ((rd_T32 y154 x32_1).f0))) (fun _ hk => hk.2) (.bool ((rd_T32 y154 x32_1).f1))) (fun _ hk => trivial)⟩, ⟨by (with_reducible repeat (first | apply Kd.R_alloc | apply Kd.R_drewN | apply Kd.R_drew)); exact Kd.R_mono (Kd.R_far (p := ⟨gb159, 1, none⟩) (Kd.R_far (p := ⟨gb159, 0, none⟩) (Kd.R_types HO_6.out BK159.out (by decide)) (fun _ hk => hk.2) (.int .i64 ((rd_T32 y154 x32_1).f0))) (fun _ hk => hk.2) (.bool ((rd_T32 y154 x32_1).f1))) (fun _ hk => trivial)⟩, ⟨by repeat (first | (with_reducible first | exact HB.out | apply below_alloc | apply pw_below_drewN | apply below_drew1 | refine below_set ?_ GE159.out) | exact HB.out)⟩⟩
                          · rw [if_neg c22] at H
                            exact absurd H (by simp)
                        · rw [if_neg c21] at H
                          exact absurd H (by simp)
                      · rw [if_neg c19] at H
                        exact absurd H (by simp)
                    · rw [if_neg c18] at H
                      exact absurd H (by simp)
                  · rw [if_neg c17] at H
                    have c17b0 : decide (x32_1 < (y154.length : Int)) = false := decide_eq_false c17
                    clear c17
                    by_cases c37 : 0 ≤ (l0.length : Int)
                    · rw [if_pos c37] at H
                      have c37b0 := eq_true c37
                      have c37b1 : decide (0 ≤ (l0.length : Int)) = true := decide_eq_true c37
                      clear c37
                      by_cases c38 : ((l0.length : Int) : Int).toNat ≤ 17592186044416
                      · rw [if_pos c38] at H
                        have c38b0 := eq_true c38
                        have c38b1 : decide (((l0.length : Int) : Int).toNat ≤ 17592186044416) = true := decide_eq_true c38
                        clear c38
                        obtain ⟨y163, hy163⟩ : ∃ y_ : List (S35), y_ = (List.replicate ((l0.length : Int) : Int).toNat z35) := ⟨_, rfl⟩
                        replace H : (if 0 < (y163.length : Int) then ((some (List.replicate ((l0.length : Int) : Int).toNat z35 : List (S35))).bind fun y167 => (if 0 < (y167.length : Int) then (part_Heirs.l1 k1 l0 t147 x6_1 (y163.set (0 : Int).toNat (⟨0, 1⟩ : S35)) (y167.set (0 : Int).toNat (⟨1, 1⟩ : S35)) 1) else (none))) else (none)) = some (r1, r2) := by first | (rw [hy163]; with_reducible exact H) | (have H2_ := (Option.bind_some _ _).symm.trans H; rw [hy163]; with_reducible exact H2_) | (have H2_ := (Option.bind_some _ _).symm.trans H; with_reducible exact H2_) | with_reducible exact H | (rw [hy163]; exact H) | exact H
                        have Ny163 := Aside0.mk hy163
                        clear hy163
                        by_cases c39 : 0 < (y163.length : Int)
                        · rw [if_pos c39] at H
                          have c39b0 : decide (0 < (y163.length : Int)) = true := decide_eq_true c39
                          have c39b1 : decide (0 < y163.length) = true := decide_eq_true (by omega)
                          clear c39
                          obtain ⟨y166, hy166⟩ : ∃ y_ : List (S35), y_ = (y163.set (0 : Int).toNat (⟨0, 1⟩ : S35)) := ⟨_, rfl⟩
                          replace H : ((some (List.replicate ((l0.length : Int) : Int).toNat z35 : List (S35))).bind fun y167 => (if 0 < (y167.length : Int) then (part_Heirs.l1 k1 l0 t147 x6_1 y166 (y167.set (0 : Int).toNat (⟨1, 1⟩ : S35)) 1) else (none))) = some (r1, r2) := by first | (rw [hy166]; with_reducible exact H) | (have H2_ := (Option.bind_some _ _).symm.trans H; rw [hy166]; with_reducible exact H2_) | (have H2_ := (Option.bind_some _ _).symm.trans H; with_reducible exact H2_) | with_reducible exact H | (rw [hy166]; exact H) | exact H
                          have Ny166 := Aside0.mk hy166
                          clear hy166
                          obtain ⟨y167, hy167⟩ : ∃ y_ : List (S35), y_ = (List.replicate ((l0.length : Int) : Int).toNat z35) := ⟨_, rfl⟩
                          replace H : (if 0 < (y167.length : Int) then (part_Heirs.l1 k1 l0 t147 x6_1 y166 (y167.set (0 : Int).toNat (⟨1, 1⟩ : S35)) 1) else (none)) = some (r1, r2) := by first | (rw [hy167]; with_reducible exact H) | (have H2_ := (Option.bind_some _ _).symm.trans H; rw [hy167]; with_reducible exact H2_) | (have H2_ := (Option.bind_some _ _).symm.trans H; with_reducible exact H2_) | with_reducible exact H | (rw [hy167]; exact H) | exact H
                          have Ny167 := Aside0.mk hy167
                          clear hy167
                          by_cases c41 : 0 < (y167.length : Int)
                          · rw [if_pos c41] at H
                            have c41b0 : decide (0 < (y167.length : Int)) = true := decide_eq_true c41
                            have c41b1 : decide (0 < y167.length) = true := decide_eq_true (by omega)
                            clear c41
                            obtain ⟨y170, hy170⟩ : ∃ y_ : List (S35), y_ = (y167.set (0 : Int).toNat (⟨1, 1⟩ : S35)) := ⟨_, rfl⟩
                            replace H : (part_Heirs.l1 k1 l0 t147 x6_1 y166 y170 1) = some (r1, r2) := by first | (rw [hy170]; with_reducible exact H) | (have H2_ := (Option.bind_some _ _).symm.trans H; rw [hy170]; with_reducible exact H2_) | (have H2_ := (Option.bind_some _ _).symm.trans H; with_reducible exact H2_) | with_reducible exact H | (rw [hy170]; exact H) | exact H
                            have Ny170 := Aside0.mk hy170
                            clear hy170
                            have H' := Aside0.mk H
                            clear H
                            go_wp2_with (first | ((with_reducible refine gate_dst (N := 52) rfl ?_); refine Kd.R_make k35 _ 35 rfl (N := 52) rfl 25 _ _ rfl (l0.length : Int) rfl rfl Try.underlying25 (.agg #[(.int .i64 0), (.int .i64 0)]) 16 info35 rfl (by decide) (by omega) z35 (ok := fun _ => True) (okp := fun _ => True) (k35_mkM _ _ _ z35 ) (fun _ hk => hk) trivial (of_decide_eq_true (by first | (with_reducible assumption) | assumption)) (Nat.le_trans (Nat.mul_le_mul_right _ (of_decide_eq_true (by first | (with_reducible assumption) | assumption) : (l0.length : Int).toNat ≤ 17592186044416)) (by omega)) (Below.refl _ _) (Nat.le_refl _) ?_; intro v164 w43 ho44 hb hg_ hnew_; clear hg_ hnew_; (first | rw [← Ny163.out] at ho44 | (simp only [Int.reduceToNat] at ho44; rw [← Ny163.out] at ho44)); have n0_ := Aside0.mk (Kd.R_below (by (with_reducible repeat (first | apply Kd.R_alloc | apply Kd.R_drewN | apply Kd.R_drew)); exact HO_5.out) hb); have n1_ := Aside0.mk (Kd.R_below (by (with_reducible repeat (first | apply Kd.R_alloc | apply Kd.R_drewN | apply Kd.R_drew)); exact HO_6.out) hb); have n2_ := Aside0.mk (Kd.R_lower ho44 (below_size (by repeat (first | (with_reducible first | exact HB.out | apply below_alloc | apply pw_below_drewN | apply below_drew1) | exact HB.out)))); have n3_ := Aside0.mk (below_step (by repeat (first | (with_reducible first | exact HB.out | apply below_alloc | apply pw_below_drewN | apply below_drew1) | exact HB.out)) hb); clear HO_5; clear HO_6; clear HB; have HO_5 := n0_; have HO_6 := n1_; have HO165 := n2_; have HB := n3_; clear n0_ n1_ n2_ n3_; clear hb ho44; have p40 : 0 ≤ (0 : Int) := (by omega); have q40 : (0 : Int) < ((y163.length : Int) : Int) := of_decide_eq_true (by first | (with_reducible assumption) | assumption); have qi40 : (0 < y163.length) = True := eq_true (by omega); obtain ⟨go40, co40, eo40, gb40, gl40, cl40, HG40⟩ := Kd.R_form HO165.out (by omega); (first | cases eo40 | (injection eo40 with ea_ en_ ec_; (first | subst ea_ | (injection ea_ with ea_; subst ea_)); subst ec_; clear en_)); have GB40 := Aside0.mk gb40; have GG40 := Aside0.mk HG40; clear gb40 gl40 HG40; obtain ⟨ce40, hcl40, hM40, hcc40, hfr40⟩ := Kd.R_elem HO165.out z35 (0 : Int) p40 q40; obtain rfl := k35_openM hM40; have hx40_0 : w43.cell? ⟨go40, (0 : Int).toNat * 2, none⟩ = some (.int .i64 ((rd_T35 y163 0).f0)) := hcc40 0 _ rfl; have hx40_1 : w43.cell? ⟨go40, (0 : Int).toNat * 2 + 1, none⟩ = some (.int .i64 ((rd_T35 y163 0).f1)) := hcc40 1 _ rfl; have hf40_0 : w43.frozen? ⟨go40, (0 : Int).toNat * 2, none⟩ = false := hfr40 0; have hf40_1 : w43.frozen? ⟨go40, (0 : Int).toNat * 2 + 1, none⟩ = false := hfr40 1; clear hcl40 hcc40 hfr40 hM40; (try rw [show ((0 : Int)).toNat = 0 from rfl] at hx40_0); (try simp only [Nat.reduceMul, Nat.zero_mul, Nat.zero_add, Nat.reduceAdd] at hx40_0); (try rw [show ((0 : Int)).toNat = 0 from rfl] at hf40_0); (try simp only [Nat.reduceMul, Nat.zero_mul, Nat.zero_add, Nat.reduceAdd] at hf40_0); (try rw [show ((0 : Int)).toNat = 0 from rfl] at hx40_1); (try simp only [Nat.reduceMul, Nat.zero_mul, Nat.zero_add, Nat.reduceAdd] at hx40_1); (try rw [show ((0 : Int)).toNat = 0 from rfl] at hf40_1); (try simp only [Nat.reduceMul, Nat.zero_mul, Nat.zero_add, Nat.reduceAdd] at hf40_1); replace p40 := eq_true p40; replace q40 := eq_true q40; have HX45 := Aside0.mk (show Kd.R k35 35 w43 w.heap.size (fun _ => True) (.slice (some ⟨go40, 0, none⟩) y163.length co40) y163 from (by (with_reducible repeat (first | apply Kd.R_alloc | apply Kd.R_drewN | apply Kd.R_drew)); exact HO165.out)); obtain ⟨ce45, hcl45, hM45, hcc45, hfr45⟩ := Kd.R_elem HX45.out z35 (0 : Int) (by omega) (by have h_ : (0 : Int) < ((y163.length : Int) : Int) := of_decide_eq_true (by first | (with_reducible assumption) | assumption); first | exact h_ | (have e_ := (Kd.R_reads' HO165.out).1; omega) | simpa using h_); obtain rfl := k35_openM hM45; have HP45 := Kd.R_seg HX45.out (0 : Int) (by omega) (by have h_ : (0 : Int) < ((y163.length : Int) : Int) := of_decide_eq_true (by first | (with_reducible assumption) | assumption); first | exact h_ | (have e_ := (Kd.R_reads' HO165.out).1; omega) | simpa using h_) (seg := [.int .i64 0, .int .i64 1]) (j := 0) hcl45 hcc45 (show 2 ≤ 2 from by decide) (x' := (⟨0, 1⟩ : S35)) (k35_mkM _ _ _ (⟨0, 1⟩ : S35) ) (fun _ hk => hk); have hx45_0 := hcc45 0 _ rfl; (try simp only [show (k35).sz = 2 from rfl, Nat.mul_one, Nat.add_zero] at hx45_0); (try rw [show ((0 : Int)).toNat = 0 from rfl] at hx45_0); (try simp only [Nat.reduceMul, Nat.zero_mul, Nat.zero_add, Nat.reduceAdd] at hx45_0); have hf45_0 := hfr45 0; (try simp only [show (k35).sz = 2 from rfl, Nat.mul_one, Nat.add_zero] at hf45_0); (try rw [show ((0 : Int)).toNat = 0 from rfl] at hf45_0); (try simp only [Nat.reduceMul, Nat.zero_mul, Nat.zero_add, Nat.reduceAdd] at hf45_0); have hx45_1 := hcc45 1 _ rfl; (try simp only [show (k35).sz = 2 from rfl, Nat.mul_one, Nat.add_zero] at hx45_1); (try rw [show ((0 : Int)).toNat = 0 from rfl] at hx45_1); (try simp only [Nat.reduceMul, Nat.zero_mul, Nat.zero_add, Nat.reduceAdd] at hx45_1); have hf45_1 := hfr45 1; (try simp only [show (k35).sz = 2 from rfl, Nat.mul_one, Nat.add_zero] at hf45_1); (try rw [show ((0 : Int)).toNat = 0 from rfl] at hf45_1); (try simp only [Nat.reduceMul, Nat.zero_mul, Nat.zero_add, Nat.reduceAdd] at hf45_1); clear hcl45 hcc45 hfr45 hM45) | ((with_reducible refine gate_store (t := 35) (p := 55) rfl ?_); refine store_event (t := 35) (p := 55) (v := ?vo_w46) (w1 := ((w43.setCell ⟨go40, 0, none⟩ (.int .i64 0)).setCell ⟨go40, 1, none⟩ (.int .i64 1))) ?hg ?ho ?hn ?hr ?_; (case ho => rfl); (case hg => rfl); (case hn => rfl); (case hr => first | (go_simp; done) | (go_simp; rfl)); intro w46 hw; have hg : w43.grownBy w46 (some go40) := (by rw [hw]; exact HP45.2); have hp_ : Kd.R k35 35 w46 w.heap.size (fun _ => True) (.slice (some ⟨go40, 0, none⟩) y163.length co40) y166 := (by rw [hw, Ny166.out]; exact HP45.1); clear HP45; have n0_ := Aside0.mk (Kd.R_over' (v := (.slice (some ⟨go40, 0, none⟩) y163.length co40)) (by (with_reducible repeat (first | apply Kd.R_alloc | apply Kd.R_drewN | apply Kd.R_drew)); exact HO_5.out) (Kd.R_typed HO165.out) (by decide) hg); have n1_ := Aside0.mk (Kd.R_over' (v := (.slice (some ⟨go40, 0, none⟩) y163.length co40)) (by (with_reducible repeat (first | apply Kd.R_alloc | apply Kd.R_drewN | apply Kd.R_drew)); exact HO_6.out) (Kd.R_typed HO165.out) (by decide) hg); have n2_ := Aside0.mk (hp_); have n3_ := Aside0.mk ((by rw [hw]; exact below_set (below_set (HB.out) GB40.out) GB40.out : Below w.heap.size w w46)); clear HO_5; clear HO_6; clear HO165; clear HB; have HO_5 := n0_; have HO_6 := n1_; have HO165 := n2_; have HB := n3_; clear n0_ n1_ n2_ n3_; clear hg hw hp_) | ((with_reducible refine gate_dst (N := 58) rfl ?_); refine Kd.R_make k35 _ 35 rfl (N := 58) rfl 25 _ _ rfl (l0.length : Int) rfl rfl Try.underlying25 (.agg #[(.int .i64 0), (.int .i64 0)]) 16 info35 rfl (by decide) (by omega) z35 (ok := fun _ => True) (okp := fun _ => True) (k35_mkM _ _ _ z35 ) (fun _ hk => hk) trivial (of_decide_eq_true (by first | (with_reducible assumption) | assumption)) (Nat.le_trans (Nat.mul_le_mul_right _ (of_decide_eq_true (by first | (with_reducible assumption) | assumption) : (l0.length : Int).toNat ≤ 17592186044416)) (by omega)) (Below.refl _ _) (Nat.le_refl _) ?_; intro v168 w47 ho48 hb hg_ hnew_; clear hg_ hnew_; (first | rw [← Ny167.out] at ho48 | (simp only [Int.reduceToNat] at ho48; rw [← Ny167.out] at ho48)); have n0_ := Aside0.mk (Kd.R_below (by (with_reducible repeat (first | apply Kd.R_alloc | apply Kd.R_drewN | apply Kd.R_drew)); exact HO_5.out) hb); have n1_ := Aside0.mk (Kd.R_below (by (with_reducible repeat (first | apply Kd.R_alloc | apply Kd.R_drewN | apply Kd.R_drew)); exact HO_6.out) hb); have n2_ := Aside0.mk (Kd.R_elder' (by (with_reducible repeat (first | apply Kd.R_alloc | apply Kd.R_drewN | apply Kd.R_drew)); exact HO165.out) (Kd.R_base ho48) hb); have n3_ := Aside0.mk (Kd.R_lower (Kd.R_new' ho48 (Kd.R_lt (by (with_reducible repeat (first | apply Kd.R_alloc | apply Kd.R_drewN | apply Kd.R_drew)); exact HO165.out))) (below_size (by repeat (first | (with_reducible first | exact HB.out | apply below_alloc | apply pw_below_drewN | apply below_drew1) | exact HB.out)))); have n4_ := Aside0.mk (below_step (by repeat (first | (with_reducible first | exact HB.out | apply below_alloc | apply pw_below_drewN | apply below_drew1) | exact HB.out)) hb); clear HO_5; clear HO_6; clear HO165; clear HB; have HO_5 := n0_; have HO_6 := n1_; have HO165 := n2_; have HO169 := n3_; have HB := n4_; clear n0_ n1_ n2_ n3_ n4_; clear hb ho48; have p42 : 0 ≤ (0 : Int) := (by omega); have q42 : (0 : Int) < ((y167.length : Int) : Int) := of_decide_eq_true (by first | (with_reducible assumption) | assumption); have qi42 : (0 < y167.length) = True := eq_true (by omega); obtain ⟨go42, co42, eo42, gb42, gl42, cl42, HG42⟩ := Kd.R_form HO169.out (by omega); (first | cases eo42 | (injection eo42 with ea_ en_ ec_; (first | subst ea_ | (injection ea_ with ea_; subst ea_)); subst ec_; clear en_)); have GB42 := Aside0.mk gb42; have GG42 := Aside0.mk HG42; clear gb42 gl42 HG42; obtain ⟨ce42, hcl42, hM42, hcc42, hfr42⟩ := Kd.R_elem HO169.out z35 (0 : Int) p42 q42; obtain rfl := k35_openM hM42; have hx42_0 : w47.cell? ⟨go42, (0 : Int).toNat * 2, none⟩ = some (.int .i64 ((rd_T35 y167 0).f0)) := hcc42 0 _ rfl; have hx42_1 : w47.cell? ⟨go42, (0 : Int).toNat * 2 + 1, none⟩ = some (.int .i64 ((rd_T35 y167 0).f1)) := hcc42 1 _ rfl; have hf42_0 : w47.frozen? ⟨go42, (0 : Int).toNat * 2, none⟩ = false := hfr42 0; have hf42_1 : w47.frozen? ⟨go42, (0 : Int).toNat * 2 + 1, none⟩ = false := hfr42 1; clear hcl42 hcc42 hfr42 hM42; (try rw [show ((0 : Int)).toNat = 0 from rfl] at hx42_0); (try simp only [Nat.reduceMul, Nat.zero_mul, Nat.zero_add, Nat.reduceAdd] at hx42_0); (try rw [show ((0 : Int)).toNat = 0 from rfl] at hf42_0); (try simp only [Nat.reduceMul, Nat.zero_mul, Nat.zero_add, Nat.reduceAdd] at hf42_0); (try rw [show ((0 : Int)).toNat = 0 from rfl] at hx42_1); (try simp only [Nat.reduceMul, Nat.zero_mul, Nat.zero_add, Nat.reduceAdd] at hx42_1); (try rw [show ((0 : Int)).toNat = 0 from rfl] at hf42_1); (try simp only [Nat.reduceMul, Nat.zero_mul, Nat.zero_add, Nat.reduceAdd] at hf42_1); replace p42 := eq_true p42; replace q42 := eq_true q42; have n_ := Aside0.mk (Kd.R_mono (ok' := (fun k_ => some k_ ≠ (.slice (some ⟨go40, 0, none⟩) y163.length co40 : Value).ownBlock)) HO169.out (fun k_ hk => hk.2)); clear HO169; have HO169 := n_; clear n_; have HX49 := Aside0.mk (show Kd.R k35 35 w47 w.heap.size (fun k_ => some k_ ≠ (.slice (some ⟨go40, 0, none⟩) y163.length co40 : Value).ownBlock) (.slice (some ⟨go42, 0, none⟩) y167.length co42) y167 from (by (with_reducible repeat (first | apply Kd.R_alloc | apply Kd.R_drewN | apply Kd.R_drew)); exact HO169.out)); obtain ⟨ce49, hcl49, hM49, hcc49, hfr49⟩ := Kd.R_elem HX49.out z35 (0 : Int) (by omega) (by have h_ : (0 : Int) < ((y167.length : Int) : Int) := of_decide_eq_true (by first | (with_reducible assumption) | assumption); first | exact h_ | (have e_ := (Kd.R_reads' HO169.out).1; omega) | simpa using h_); obtain rfl := k35_openM hM49; have HP49 := Kd.R_seg HX49.out (0 : Int) (by omega) (by have h_ : (0 : Int) < ((y167.length : Int) : Int) := of_decide_eq_true (by first | (with_reducible assumption) | assumption); first | exact h_ | (have e_ := (Kd.R_reads' HO169.out).1; omega) | simpa using h_) (seg := [.int .i64 1, .int .i64 1]) (j := 0) hcl49 hcc49 (show 2 ≤ 2 from by decide) (x' := (⟨1, 1⟩ : S35)) (k35_mkM _ _ _ (⟨1, 1⟩ : S35) ) (fun _ hk => hk); have hx49_0 := hcc49 0 _ rfl; (try simp only [show (k35).sz = 2 from rfl, Nat.mul_one, Nat.add_zero] at hx49_0); (try rw [show ((0 : Int)).toNat = 0 from rfl] at hx49_0); (try simp only [Nat.reduceMul, Nat.zero_mul, Nat.zero_add, Nat.reduceAdd] at hx49_0); have hf49_0 := hfr49 0; (try simp only [show (k35).sz = 2 from rfl, Nat.mul_one, Nat.add_zero] at hf49_0); (try rw [show ((0 : Int)).toNat = 0 from rfl] at hf49_0); (try simp only [Nat.reduceMul, Nat.zero_mul, Nat.zero_add, Nat.reduceAdd] at hf49_0); have hx49_1 := hcc49 1 _ rfl; (try simp only [show (k35).sz = 2 from rfl, Nat.mul_one, Nat.add_zero] at hx49_1); (try rw [show ((0 : Int)).toNat = 0 from rfl] at hx49_1); (try simp only [Nat.reduceMul, Nat.zero_mul, Nat.zero_add, Nat.reduceAdd] at hx49_1); have hf49_1 := hfr49 1; (try simp only [show (k35).sz = 2 from rfl, Nat.mul_one, Nat.add_zero] at hf49_1); (try rw [show ((0 : Int)).toNat = 0 from rfl] at hf49_1); (try simp only [Nat.reduceMul, Nat.zero_mul, Nat.zero_add, Nat.reduceAdd] at hf49_1); clear hcl49 hcc49 hfr49 hM49) | ((with_reducible refine gate_store (t := 35) (p := 61) rfl ?_); refine store_event (t := 35) (p := 61) (v := ?vo_w50) (w1 := ((w47.setCell ⟨go42, 0, none⟩ (.int .i64 1)).setCell ⟨go42, 1, none⟩ (.int .i64 1))) ?hg ?ho ?hn ?hr ?_; (case ho => rfl); (case hg => rfl); (case hn => rfl); (case hr => first | (go_simp; done) | (go_simp; rfl)); intro w50 hw; have hg : w47.grownBy w50 (some go42) := (by rw [hw]; exact HP49.2); have hp_ : Kd.R k35 35 w50 w.heap.size (fun k_ => some k_ ≠ (.slice (some ⟨go40, 0, none⟩) y163.length co40 : Value).ownBlock) (.slice (some ⟨go42, 0, none⟩) y167.length co42) y170 := (by rw [hw, Ny170.out]; exact HP49.1); clear HP49; have n0_ := Aside0.mk (Kd.R_over' (v := (.slice (some ⟨go42, 0, none⟩) y167.length co42)) (by (with_reducible repeat (first | apply Kd.R_alloc | apply Kd.R_drewN | apply Kd.R_drew)); exact HO_5.out) (Kd.R_typed HO169.out) (by decide) hg); have n1_ := Aside0.mk (Kd.R_over' (v := (.slice (some ⟨go42, 0, none⟩) y167.length co42)) (by (with_reducible repeat (first | apply Kd.R_alloc | apply Kd.R_drewN | apply Kd.R_drew)); exact HO_6.out) (Kd.R_typed HO169.out) (by decide) hg); have n2_ := Aside0.mk (Kd.R_after (v := (.slice (some ⟨go42, 0, none⟩) y167.length co42)) (v1 := (.slice (some ⟨go42, 0, none⟩) y167.length co42)) (ok := (fun _ => True)) (by (with_reducible repeat (first | apply Kd.R_alloc | apply Kd.R_drewN | apply Kd.R_drew)); exact HO165.out) hg (.inl rfl)); have n3_ := Aside0.mk (hp_); have n4_ := Aside0.mk ((by rw [hw]; exact below_set (below_set (HB.out) GB42.out) GB42.out : Below w.heap.size w w50)); clear HO_5; clear HO_6; clear HO165; clear HO169; clear HB; have HO_5 := n0_; have HO_6 := n1_; have HO165 := n2_; have HO169 := n3_; have HB := n4_; clear n0_ n1_ n2_ n3_ n4_; clear hg hw hp_))
                            go_loopg [11] k1 (fun kq v11 w' => ∃ (x9_2 : List (S35)) (x10_2 : List (S35)) (x11_2 : Int), v11 = .int .i64 x11_2 ∧ Aside0 (part_Heirs.l1 kq l0 t147 x6_1 x9_2 x10_2 x11_2 = some (r1, r2)) ∧ Aside0 (kq ≤ k1) ∧ Aside0 (Kd.R Kd.bool 4 w' w.heap.size (fun _ => True) (.slice (some ad150) t147.length co13) t147) ∧ Aside0 (Kd.R (Kd.int .i64) 3 w' w.heap.size (fun _ => True) v152 x6_1) ∧ Aside0 (Kd.R k35 35 w' w.heap.size (fun k_ => some k_ ≠ ((.slice (some ⟨go42, 0, none⟩) y167.length co42) : Value).ownBlock) (.slice (some ⟨go40, 0, none⟩) y163.length co40) x9_2) ∧ Aside0 (Kd.R k35 35 w' w.heap.size (fun k_ => some k_ ≠ ((.slice (some ⟨go40, 0, none⟩) y163.length co40) : Value).ownBlock) (.slice (some ⟨go42, 0, none⟩) y167.length co42) x10_2) ∧ Aside0 (Below w.heap.size w w'))
                            case atStart => exact ⟨(y166), (y170), (1), (by first | rfl | (simp; done) | (simp [*]; done)), H', ⟨Nat.le_refl _⟩, ⟨by (with_reducible repeat (first | apply Kd.R_alloc | apply Kd.R_drewN | apply Kd.R_drew)); exact HO_5.out⟩, ⟨by (with_reducible repeat (first | apply Kd.R_alloc | apply Kd.R_drewN | apply Kd.R_drew)); exact HO_6.out⟩, ⟨by (with_reducible repeat (first | apply Kd.R_alloc | apply Kd.R_drewN | apply Kd.R_drew)); exact Kd.R_mono HO165.out (fun _ hk => hk.2)⟩, ⟨by (with_reducible repeat (first | apply Kd.R_alloc | apply Kd.R_drewN | apply Kd.R_drew)); exact HO169.out⟩, ⟨by repeat (first | (with_reducible first | exact HB.out | apply below_alloc | apply pw_below_drewN | apply below_drew1) | exact HB.out)⟩⟩
                            case round =>
                              clear H'
                              try clear c1
                              try clear p1
                              try clear q1
                              try clear hx1
                              try clear qi1
                              try clear c2
                              try clear p2
                              try clear q2
                              try clear hx2
                              try clear hf2
                              try clear c3
                              try clear c3b0
                              try clear c3b1
                              try clear c4
                              try clear p4
                              try clear q4
                              try clear hx4
                              try clear qi4
                              try clear hf4
                              try clear c5
                              try clear c5b0
                              try clear c5b1
                              try clear p6
                              try clear q6
                              try clear c7
                              try clear c8
                              try clear c8b0
                              try clear c8b1
                              try clear c9
                              try clear c9b0
                              try clear c9b1
                              try clear c10
                              try clear c10b0
                              try clear c10b1
                              try clear c13
                              try clear p15
                              try clear q15
                              try clear hx15
                              try clear qi15
                              try clear c16
                              try clear p16
                              try clear q16
                              try clear hx16
                              try clear c17
                              try clear c17b0
                              try clear c18
                              try clear c18b0
                              try clear c19
                              try clear c19b0
                              try clear c21
                              try clear c21b0
                              try clear c22
                              try clear c22b0
                              try clear q23
                              try clear c24
                              try clear c25
                              try clear c25b0
                              try clear c26
                              try clear c26b0
                              try clear p27
                              try clear q27
                              try clear hx27
                              try clear hf27
                              try clear c37
                              try clear c37b0
                              try clear c37b1
                              try clear c38
                              try clear c38b0
                              try clear c38b1
                              try clear c39
                              try clear c39b0
                              try clear c39b1
                              try clear c40
                              try clear p40
                              try clear q40
                              try clear hx40
                              try clear qi40
                              try clear hf40
                              try clear c41
                              try clear c41b0
                              try clear c41b1
                              try clear c42
                              try clear p42
                              try clear q42
                              try clear hx42
                              try clear qi42
                              try clear hf42
                              try clear c45
                              try clear hx45
                              try clear hf45
                              try clear c48
                              try clear c49
                              try clear hx49
                              try clear hf49
                              try clear hcz29_0
                              try clear hcz29_1
                              try clear hcz31_0
                              try clear hcz31_1
                              try clear hcz36_0
                              try clear hcz36_1
                              try clear hfz29_0
                              try clear hfz29_1
                              try clear hfz31_0
                              try clear hfz31_1
                              try clear hfz36_0
                              try clear hfz36_1
                              try clear hx150_0
                              try clear hx158_0
                              try clear hx158_1
                              try clear hx160_0
                              try clear hx161_0
                              try clear hx27_0
                              try clear hx40_0
                              try clear hx40_1
                              try clear hx42_0
                              try clear hx42_1
                              try clear hx45_0
                              try clear hx45_1
                              try clear hx49_0
                              try clear hx49_1
                              try clear p1
                              try clear p15
                              try clear p150
                              try clear p158
                              try clear p160
                              try clear p161
                              try clear p2
                              try clear p27
                              try clear p40
                              try clear p42
                              try clear q1
                              try clear q15
                              try clear q150
                              try clear q158
                              try clear q16
                              try clear q160
                              try clear q161
                              try clear q27
                              try clear q40
                              try clear q42
                              try clear q6
                              obtain ⟨x9_2, x10_2, x11_2, rfl, HA, HK2, HO_5, HO_6, HO_9, HO_10, HB⟩ := hrel
                              have hl9_2 := (Kd.R_reads' HO_9.out).1
                              rw [hl9_2] at HO_9
                              (try simp only [hl9_2])
                              (try simp only [hl9_2] at HO_5)
                              (try simp only [hl9_2] at HO_6)
                              (try simp only [hl9_2] at HO_10)
                              have hl10_2 := (Kd.R_reads' HO_10.out).1
                              rw [hl10_2] at HO_10
                              (try simp only [hl10_2])
                              (try simp only [hl10_2] at HO_5)
                              (try simp only [hl10_2] at HO_6)
                              (try simp only [hl10_2] at HO_9)
                              cases gk with
                              | zero => exact absurd HA.out (by simp [part_Heirs.l1])
                              | succ k2 =>
                                have H := HA.out
                                clear HA
                                simp only [part_Heirs.l1] at H
                                by_cases c51 : x11_2 < (l0.length : Int)
                                · rw [if_pos c51] at H
                                  have c51b0 : decide (x11_2 < (l0.length : Int)) = true := decide_eq_true c51
                                  clear c51
                                  by_cases c52 : 0 ≤ x11_2
                                  · rw [if_pos c52] at H
                                    have c52b0 : decide (0 ≤ x11_2) = true := decide_eq_true c52
                                    clear c52
                                    by_cases c53 : x11_2 < (x9_2.length : Int)
                                    · rw [if_pos c53] at H
                                      have c53b0 : decide (x11_2 < (x9_2.length : Int)) = true := decide_eq_true c53
                                      clear c53
                                      obtain ⟨y172, hy172⟩ : ∃ y_ : List (S35), y_ = (x9_2.set (x11_2 : Int).toNat (⟨0, 1⟩ : S35)) := ⟨_, rfl⟩
                                      replace H : (if x11_2 < (t147.length : Int) then (if rdOf false t147 x11_2 = true then (if 0 ≤ ((rd_T32 l0 x11_2).f0) then (if ((rd_T32 l0 x11_2).f0) < (x10_2.length : Int) then (part_Heirs.j2 k2 l0 t147 x6_1 y172 x10_2 x11_2 ((rd_T32 l0 x11_2).f0) (((rd_T35 x10_2 ((rd_T32 l0 x11_2).f0)).f0) == 0)) else (none)) else (none)) else (part_Heirs.j2 k2 l0 t147 x6_1 y172 x10_2 x11_2 ((rd_T32 l0 x11_2).f0) true)) else (none)) = some (r1, r2) := by first | (rw [hy172]; with_reducible exact H) | (have H2_ := (Option.bind_some _ _).symm.trans H; rw [hy172]; with_reducible exact H2_) | (have H2_ := (Option.bind_some _ _).symm.trans H; with_reducible exact H2_) | with_reducible exact H | (rw [hy172]; exact H) | exact H
                                      have Ny172 := Aside0.mk hy172
                                      clear hy172
                                      have HC55 := Aside0.mk H
                                      clear H
                                      have p171 : 0 ≤ (x11_2 : Int) := of_decide_eq_true (by first | (with_reducible assumption) | assumption)
                                      have q171 : x11_2 < (l0.length : Int) := of_decide_eq_true (by first | (with_reducible assumption) | assumption)
                                      obtain ⟨ad171, e171, hx171_0, hx171_1⟩ := at_T32 HR0.out x11_2 p171 q171
                                      (try rw [← Nbq6.out] at hx171_1)
                                      cases e171
                                      replace hx171_0 := (HB.out.cell (World.block_lt_of_cell? w _ hx171_0)).trans hx171_0
                                      replace hx171_1 := (HB.out.cell (World.block_lt_of_cell? w _ hx171_1)).trans hx171_1
                                      replace p171 := eq_true p171
                                      replace q171 := eq_true q171
                                      have p54 : 0 ≤ (x11_2 : Int) := of_decide_eq_true (by first | (with_reducible assumption) | assumption)
                                      have q54 : (x11_2 : Int) < ((x9_2.length : Int) : Int) := of_decide_eq_true (by first | (with_reducible assumption) | assumption)
                                      obtain ⟨ce54, hcl54, hM54, hcc54, hfr54⟩ := Kd.R_elem HO_9.out z35 (x11_2 : Int) p54 q54
                                      obtain rfl := k35_openM hM54
                                      have hx54_0 : wr.cell? ⟨go40, (x11_2 : Int).toNat * 2, none⟩ = some (.int .i64 ((rd_T35 x9_2 x11_2).f0)) := hcc54 0 _ rfl
                                      have hx54_1 : wr.cell? ⟨go40, (x11_2 : Int).toNat * 2 + 1, none⟩ = some (.int .i64 ((rd_T35 x9_2 x11_2).f1)) := hcc54 1 _ rfl
                                      have hf54_0 : wr.frozen? ⟨go40, (x11_2 : Int).toNat * 2, none⟩ = false := hfr54 0
                                      have hf54_1 : wr.frozen? ⟨go40, (x11_2 : Int).toNat * 2 + 1, none⟩ = false := hfr54 1
                                      clear hcl54 hcc54 hfr54 hM54
                                      replace p54 := eq_true p54
                                      replace q54 := eq_true q54
                                      have HX56 := Aside0.mk (show Kd.R k35 35 wr w.heap.size (fun k_ => some k_ ≠ (.slice (some ⟨go42, 0, none⟩) x10_2.length co42 : Value).ownBlock) (.slice (some ⟨go40, 0, none⟩) x9_2.length co40) x9_2 from (by (with_reducible repeat (first | apply Kd.R_alloc | apply Kd.R_drewN | apply Kd.R_drew)); exact HO_9.out))
                                      obtain ⟨ce56, hcl56, hM56, hcc56, hfr56⟩ := Kd.R_elem HX56.out z35 (x11_2 : Int) (of_decide_eq_true (by first | (with_reducible assumption) | assumption)) (by have h_ : (x11_2 : Int) < ((x9_2.length : Int) : Int) := of_decide_eq_true (by first | (with_reducible assumption) | assumption); first | exact h_ | (have e_ := (Kd.R_reads' HO_9.out).1; omega) | simpa using h_)
                                      obtain rfl := k35_openM hM56
                                      have HP56 := Kd.R_seg HX56.out (x11_2 : Int) (of_decide_eq_true (by first | (with_reducible assumption) | assumption)) (by have h_ : (x11_2 : Int) < ((x9_2.length : Int) : Int) := of_decide_eq_true (by first | (with_reducible assumption) | assumption); first | exact h_ | (have e_ := (Kd.R_reads' HO_9.out).1; omega) | simpa using h_) (seg := [.int .i64 0, .int .i64 1]) (j := 0) hcl56 hcc56 (show 2 ≤ 2 from by decide) (x' := (⟨0, 1⟩ : S35)) (k35_mkM _ _ _ (⟨0, 1⟩ : S35) ) (fun _ hk => hk)
                                      have hx56_0 := hcc56 0 _ rfl
                                      (try simp only [show (k35).sz = 2 from rfl, Nat.mul_one, Nat.add_zero] at hx56_0)
                                      have hf56_0 := hfr56 0
                                      (try simp only [show (k35).sz = 2 from rfl, Nat.mul_one, Nat.add_zero] at hf56_0)
                                      have hx56_1 := hcc56 1 _ rfl
                                      (try simp only [show (k35).sz = 2 from rfl, Nat.mul_one, Nat.add_zero] at hx56_1)
                                      have hf56_1 := hfr56 1
                                      (try simp only [show (k35).sz = 2 from rfl, Nat.mul_one, Nat.add_zero] at hf56_1)
                                      clear hcl56 hcc56 hfr56 hM56
                                      go_upto_region 23 with (first | ((with_reducible refine gate_store (t := 35) (p := 76) rfl ?_); refine store_event (t := 35) (p := 76) (v := ?vo_w57) (w1 := ((wr.setCell ⟨go40, (x11_2 : Int).toNat * 2, none⟩ (.int .i64 0)).setCell ⟨go40, (x11_2 : Int).toNat * 2 + 1, none⟩ (.int .i64 1))) ?hg ?ho ?hn ?hr ?_; (case ho => rfl); (case hg => rfl); (case hn => rfl); (case hr => first | (go_simp; done) | (go_simp; rfl)); intro w57 hw; have hg : wr.grownBy w57 (some go40) := (by rw [hw]; exact HP56.2); have hp_ : Kd.R k35 35 w57 w.heap.size (fun k_ => some k_ ≠ (.slice (some ⟨go42, 0, none⟩) x10_2.length co42 : Value).ownBlock) (.slice (some ⟨go40, 0, none⟩) x9_2.length co40) y172 := (by rw [hw, Ny172.out]; exact HP56.1); clear HP56; have n0_ := Aside0.mk (Kd.R_over' (v := (.slice (some ⟨go40, 0, none⟩) x9_2.length co40)) (by (with_reducible repeat (first | apply Kd.R_alloc | apply Kd.R_drewN | apply Kd.R_drew)); exact HO_5.out) (Kd.R_typed HO_9.out) (by decide) hg); have n1_ := Aside0.mk (Kd.R_over' (v := (.slice (some ⟨go40, 0, none⟩) x9_2.length co40)) (by (with_reducible repeat (first | apply Kd.R_alloc | apply Kd.R_drewN | apply Kd.R_drew)); exact HO_6.out) (Kd.R_typed HO_9.out) (by decide) hg); have n2_ := Aside0.mk (hp_); have n3_ := Aside0.mk (Kd.R_after (v := (.slice (some ⟨go40, 0, none⟩) x9_2.length co40)) (v1 := (.slice (some ⟨go40, 0, none⟩) x9_2.length co40)) (ok := (fun _ => True)) (by (with_reducible repeat (first | apply Kd.R_alloc | apply Kd.R_drewN | apply Kd.R_drew)); exact Kd.R_mono HO_10.out (fun _ hk => ⟨trivial, hk⟩)) hg (.inl rfl)); have n4_ := Aside0.mk ((by rw [hw]; exact below_set (below_set (HB.out) GB40.out) GB40.out : Below w.heap.size w w57)); clear HO_5; clear HO_6; clear HO_9; clear HO_10; clear HB; have HO_5 := n0_; have HO_6 := n1_; have HO_9 := n2_; have HO_10 := n3_; have HB := n4_; clear n0_ n1_ n2_ n3_ n4_; clear hg hw hp_))
                                      (try simp only [Act.put, List.setIfInBounds_toArray, List.set_cons_zero, List.set_cons_succ])
                                      go_cut [89] (fun v89 wc => ∃ (kq : Nat) (x89_54 : Bool), v89 = .bool x89_54 ∧ Aside0 (part_Heirs.j2 kq l0 t147 x6_1 y172 x10_2 x11_2 ((rd_T32 l0 x11_2).f0) x89_54 = some (r1, r2)) ∧ Aside0 (kq ≤ k2) ∧ Aside0 (Kd.R Kd.bool 4 wc w.heap.size (fun _ => True) (.slice (some ad150) t147.length co13) t147) ∧ Aside0 (Kd.R (Kd.int .i64) 3 wc w.heap.size (fun _ => True) v152 x6_1) ∧ Aside0 (Kd.R k35 35 wc w.heap.size (fun k_ => some k_ ≠ ((.slice (some ⟨go42, 0, none⟩) x10_2.length co42) : Value).ownBlock) (.slice (some ⟨go40, 0, none⟩) x9_2.length co40) y172) ∧ Aside0 (Kd.R k35 35 wc w.heap.size (fun k_ => some k_ ≠ ((.slice (some ⟨go40, 0, none⟩) x9_2.length co40) : Value).ownBlock) (.slice (some ⟨go42, 0, none⟩) x10_2.length co42) x10_2) ∧ Aside0 (Below w.heap.size w wc))
                                      case first =>
                                        have H := HC55.out
                                        clear HC55
                                        by_cases c58 : x11_2 < (t147.length : Int)
                                        · rw [if_pos c58] at H
                                          have c58b0 : decide (x11_2 < (t147.length : Int)) = true := decide_eq_true c58
                                          clear c58
                                          (first | rw [c58b0] | (simp only [i64_w, i32_w]; rw [c58b0]) | skip)
                                          obtain ⟨bq59, hbq59⟩ : ∃ b_ : Bool, b_ = (rdOf false t147 x11_2) := ⟨_, rfl⟩
                                          replace H : (if bq59 = true then (if 0 ≤ ((rd_T32 l0 x11_2).f0) then (if ((rd_T32 l0 x11_2).f0) < (x10_2.length : Int) then (part_Heirs.j2 k2 l0 t147 x6_1 y172 x10_2 x11_2 ((rd_T32 l0 x11_2).f0) (((rd_T35 x10_2 ((rd_T32 l0 x11_2).f0)).f0) == 0)) else (none)) else (none)) else (part_Heirs.j2 k2 l0 t147 x6_1 y172 x10_2 x11_2 ((rd_T32 l0 x11_2).f0) true)) = some (r1, r2) := by rw [← hbq59] at H; exact H
                                          have Nbq59 := Aside0.mk hbq59
                                          clear hbq59
                                          by_cases c60 : bq59 = true
                                          · subst c60
                                            have H1 : (if 0 ≤ ((rd_T32 l0 x11_2).f0) then (if ((rd_T32 l0 x11_2).f0) < (x10_2.length : Int) then (part_Heirs.j2 k2 l0 t147 x6_1 y172 x10_2 x11_2 ((rd_T32 l0 x11_2).f0) (((rd_T35 x10_2 ((rd_T32 l0 x11_2).f0)).f0) == 0)) else (none)) else (none)) = some (r1, r2) := by rw [if_pos rfl] at H; exact H
                                            clear H
                                            have H := H1
                                            clear H1
                                            by_cases c61 : 0 ≤ ((rd_T32 l0 x11_2).f0)
                                            · rw [if_pos c61] at H
                                              have c61b0 : decide (0 ≤ ((rd_T32 l0 x11_2).f0)) = true := decide_eq_true c61
                                              clear c61
                                              by_cases c62 : ((rd_T32 l0 x11_2).f0) < (x10_2.length : Int)
                                              · rw [if_pos c62] at H
                                                have c62b0 : decide (((rd_T32 l0 x11_2).f0) < (x10_2.length : Int)) = true := decide_eq_true c62
                                                clear c62
                                                have H' := Aside0.mk H
                                                clear H
                                                have p173 : 0 ≤ (x11_2 : Int) := of_decide_eq_true (by first | (with_reducible assumption) | assumption)
                                                have q173 : x11_2 < (t147.length : Int) := of_decide_eq_true (by first | (with_reducible assumption) | assumption)
                                                obtain ⟨ad173, e173, hx173_0⟩ := Kd.at_bool (Kd.R_reads' HO_5.out).2.2 x11_2 p173 q173
                                                (try rw [← Nbq6.out] at hx173_0)
                                                (try rw [← Nbq59.out] at hx173_0)
                                                obtain rfl : ad150 = ad173 := (by injection e173)
                                                replace p173 := eq_true p173
                                                replace q173 := eq_true q173
                                                have p174 : 0 ≤ (((rd_T32 l0 x11_2).f0) : Int) := of_decide_eq_true (by first | (with_reducible assumption) | assumption)
                                                have q174 : ((rd_T32 l0 x11_2).f0) < (x10_2.length : Int) := of_decide_eq_true (by first | (with_reducible assumption) | assumption)
                                                obtain ⟨ad174, e174, hx174_0, hx174_1⟩ := at_T35 (Kd.R_reads' HO_10.out).2.2 ((rd_T32 l0 x11_2).f0) p174 q174
                                                obtain rfl : (⟨go42, 0, none⟩ : Addr) = ad174 := (by injection e174)
                                                (first | simp only [add_plain] at hx174_0 | simp only [add_at] at hx174_0 | simp only [Addr.add, Nat.zero_add] at hx174_0 | skip)
                                                (first | simp only [add_plain] at hx174_1 | simp only [add_at] at hx174_1 | simp only [Addr.add, Nat.zero_add] at hx174_1 | skip)
                                                replace p174 := eq_true p174
                                                replace q174 := eq_true q174
                                                go_wp2
                                                go_meet
                                                case rel => exact ⟨_, ((((rd_T35 x10_2 ((rd_T32 l0 x11_2).f0)).f0) == 0)), (by first | rfl | (simp; done) | (simp [*]; done)), H', ⟨by have := HK1.out; have := HK2.out; first | omega | exact Nat.le_refl _⟩, ⟨by (try simp only [hl9_2]); (try simp only [hl10_2]); (with_reducible repeat (first | apply Kd.R_alloc | apply Kd.R_drewN | apply Kd.R_drew)); exact HO_5.out⟩, ⟨by (try simp only [hl9_2]); (try simp only [hl10_2]); (with_reducible repeat (first | apply Kd.R_alloc | apply Kd.R_drewN | apply Kd.R_drew)); exact HO_6.out⟩, ⟨by (try simp only [hl9_2]); (try simp only [hl10_2]); (with_reducible repeat (first | apply Kd.R_alloc | apply Kd.R_drewN | apply Kd.R_drew)); exact HO_9.out⟩, ⟨by (try simp only [hl9_2]); (try simp only [hl10_2]); (with_reducible repeat (first | apply Kd.R_alloc | apply Kd.R_drewN | apply Kd.R_drew)); exact Kd.R_mono HO_10.out (fun _ hk => hk.2)⟩, ⟨by repeat (first | (with_reducible first | exact HB.out | apply below_alloc | apply pw_below_drewN | apply below_drew1) | exact HB.out)⟩⟩
                                              · rw [if_neg c62] at H
                                                exact absurd H (by simp)
                                            · rw [if_neg c61] at H
                                              exact absurd H (by simp)
                                          · replace c60 := Bool.eq_false_iff.mpr c60
                                            subst c60
                                            have H1 : (part_Heirs.j2 k2 l0 t147 x6_1 y172 x10_2 x11_2 ((rd_T32 l0 x11_2).f0) true) = some (r1, r2) := by rw [if_neg (show ¬ (false = true) by decide)] at H; exact H
                                            clear H
                                            have H := H1
                                            clear H1
                                            have H' := Aside0.mk H
                                            clear H
                                            have p173 : 0 ≤ (x11_2 : Int) := of_decide_eq_true (by first | (with_reducible assumption) | assumption)
                                            have q173 : x11_2 < (t147.length : Int) := of_decide_eq_true (by first | (with_reducible assumption) | assumption)
                                            obtain ⟨ad173, e173, hx173_0⟩ := Kd.at_bool (Kd.R_reads' HO_5.out).2.2 x11_2 p173 q173
                                            (try rw [← Nbq6.out] at hx173_0)
                                            (try rw [← Nbq59.out] at hx173_0)
                                            obtain rfl : ad150 = ad173 := (by injection e173)
                                            replace p173 := eq_true p173
                                            replace q173 := eq_true q173
                                            go_wp2
                                            go_meet
                                            case rel => exact ⟨_, (true), (by first | rfl | (simp; done) | (simp [*]; done)), H', ⟨by have := HK1.out; have := HK2.out; first | omega | exact Nat.le_refl _⟩, ⟨by (try simp only [hl9_2]); (try simp only [hl10_2]); (with_reducible repeat (first | apply Kd.R_alloc | apply Kd.R_drewN | apply Kd.R_drew)); exact HO_5.out⟩, ⟨by (try simp only [hl9_2]); (try simp only [hl10_2]); (with_reducible repeat (first | apply Kd.R_alloc | apply Kd.R_drewN | apply Kd.R_drew)); exact HO_6.out⟩, ⟨by (try simp only [hl9_2]); (try simp only [hl10_2]); (with_reducible repeat (first | apply Kd.R_alloc | apply Kd.R_drewN | apply Kd.R_drew)); exact HO_9.out⟩, ⟨by (try simp only [hl9_2]); (try simp only [hl10_2]); (with_reducible repeat (first | apply Kd.R_alloc | apply Kd.R_drewN | apply Kd.R_drew)); exact Kd.R_mono HO_10.out (fun _ hk => hk.2)⟩, ⟨by repeat (first | (with_reducible first | exact HB.out | apply below_alloc | apply pw_below_drewN | apply below_drew1) | exact HB.out)⟩⟩
                                        · rw [if_neg c58] at H
                                          exact absurd H (by simp)
                                      case rest =>
                                        clear HC55
                                        try clear c1
                                        try clear p1
                                        try clear q1
                                        try clear hx1
                                        try clear qi1
                                        try clear c2
                                        try clear p2
                                        try clear q2
                                        try clear hx2
                                        try clear hf2
                                        try clear c3
                                        try clear c3b0
                                        try clear c3b1
                                        try clear c4
                                        try clear p4
                                        try clear q4
                                        try clear hx4
                                        try clear qi4
                                        try clear hf4
                                        try clear c5
                                        try clear c5b0
                                        try clear c5b1
                                        try clear p5
                                        try clear q5
                                        try clear hx5
                                        try clear hf5
                                        try clear c6
                                        try clear p6
                                        try clear q6
                                        try clear c7
                                        try clear c8
                                        try clear c8b0
                                        try clear c8b1
                                        try clear c9
                                        try clear c9b0
                                        try clear c9b1
                                        try clear c10
                                        try clear c10b0
                                        try clear c10b1
                                        try clear c13
                                        try clear p15
                                        try clear q15
                                        try clear hx15
                                        try clear qi15
                                        try clear c16
                                        try clear p16
                                        try clear q16
                                        try clear hx16
                                        try clear c17
                                        try clear c17b0
                                        try clear p17
                                        try clear q17
                                        try clear hx17
                                        try clear c18
                                        try clear c18b0
                                        try clear c19
                                        try clear c19b0
                                        try clear c21
                                        try clear c21b0
                                        try clear c22
                                        try clear c22b0
                                        try clear q23
                                        try clear c24
                                        try clear c25
                                        try clear c25b0
                                        try clear c26
                                        try clear c26b0
                                        try clear p27
                                        try clear q27
                                        try clear hx27
                                        try clear hf27
                                        try clear c37
                                        try clear c37b0
                                        try clear c37b1
                                        try clear c38
                                        try clear c38b0
                                        try clear c38b1
                                        try clear c39
                                        try clear c39b0
                                        try clear c39b1
                                        try clear c40
                                        try clear p40
                                        try clear q40
                                        try clear hx40
                                        try clear qi40
                                        try clear hf40
                                        try clear c41
                                        try clear c41b0
                                        try clear c41b1
                                        try clear c42
                                        try clear p42
                                        try clear q42
                                        try clear hx42
                                        try clear qi42
                                        try clear hf42
                                        try clear c45
                                        try clear hx45
                                        try clear hf45
                                        try clear c48
                                        try clear c49
                                        try clear hx49
                                        try clear hf49
                                        try clear c51
                                        try clear c51b0
                                        try clear c52
                                        try clear c52b0
                                        try clear c53
                                        try clear c53b0
                                        try clear c54
                                        try clear p54
                                        try clear q54
                                        try clear hx54
                                        try clear hf54
                                        try clear c56
                                        try clear hx56
                                        try clear hf56
                                        try clear c58
                                        try clear c58b0
                                        try clear q59
                                        try clear c60
                                        try clear c61
                                        try clear c61b0
                                        try clear c62
                                        try clear c62b0
                                        try clear hcz29_0
                                        try clear hcz29_1
                                        try clear hcz31_0
                                        try clear hcz31_1
                                        try clear hcz36_0
                                        try clear hcz36_1
                                        try clear hfz29_0
                                        try clear hfz29_1
                                        try clear hfz31_0
                                        try clear hfz31_1
                                        try clear hfz36_0
                                        try clear hfz36_1
                                        try clear hx150_0
                                        try clear hx158_0
                                        try clear hx158_1
                                        try clear hx160_0
                                        try clear hx161_0
                                        try clear hx171_0
                                        try clear hx171_1
                                        try clear hx173_0
                                        try clear hx174_0
                                        try clear hx174_1
                                        try clear hx27_0
                                        try clear hx40_0
                                        try clear hx40_1
                                        try clear hx42_0
                                        try clear hx42_1
                                        try clear hx45_0
                                        try clear hx45_1
                                        try clear hx49_0
                                        try clear hx49_1
                                        try clear hx54_0
                                        try clear hx54_1
                                        try clear hx56_0
                                        try clear hx56_1
                                        try clear p1
                                        try clear p15
                                        try clear p150
                                        try clear p158
                                        try clear p16
                                        try clear p160
                                        try clear p161
                                        try clear p171
                                        try clear p173
                                        try clear p174
                                        try clear p2
                                        try clear p27
                                        try clear p4
                                        try clear p40
                                        try clear p42
                                        try clear p54
                                        try clear p6
                                        try clear q1
                                        try clear q15
                                        try clear q150
                                        try clear q158
                                        try clear q16
                                        try clear q160
                                        try clear q161
                                        try clear q171
                                        try clear q173
                                        try clear q174
                                        try clear q2
                                        try clear q23
                                        try clear q27
                                        try clear q4
                                        try clear q40
                                        try clear q42
                                        try clear q54
                                        try clear q6
                                        obtain ⟨kq, x89_54, rfl, HA, HJ54, HO_5, HO_6, HO_9, HO_10, HB⟩ := hcut
                                        have hl9_54 := (Kd.R_reads' HO_9.out).1
                                        rw [hl9_54] at HO_9
                                        (try simp only [hl9_54])
                                        (try simp only [hl9_54] at HO_5)
                                        (try simp only [hl9_54] at HO_6)
                                        (try simp only [hl9_54] at HO_10)
                                        cases kq with
                                        | zero => exact absurd HA.out (by simp [part_Heirs.j2])
                                        | succ kj54 =>
                                          have H := HA.out
                                          clear HA
                                          simp only [part_Heirs.j2] at H
                                          by_cases c63 : x89_54 = true
                                          · subst c63
                                            have H1 : (if 0 ≤ x11_2 then (if x11_2 < (x10_2.length : Int) then (part_Heirs.l1 kj54 l0 t147 x6_1 y172 (x10_2.set (x11_2 : Int).toNat (⟨0, 1⟩ : S35)) (wrap64 (x11_2 + 1))) else (none)) else (none)) = some (r1, r2) := by rw [if_pos rfl] at H; exact H
                                            clear H
                                            have H := H1
                                            clear H1
                                            by_cases c64 : 0 ≤ x11_2
                                            · rw [if_pos c64] at H
                                              have c64b0 : decide (0 ≤ x11_2) = true := decide_eq_true c64
                                              clear c64
                                              by_cases c65 : x11_2 < (x10_2.length : Int)
                                              · rw [if_pos c65] at H
                                                have c65b0 : decide (x11_2 < (x10_2.length : Int)) = true := decide_eq_true c65
                                                clear c65
                                                obtain ⟨y175, hy175⟩ : ∃ y_ : List (S35), y_ = (x10_2.set (x11_2 : Int).toNat (⟨0, 1⟩ : S35)) := ⟨_, rfl⟩
                                                replace H : (part_Heirs.l1 kj54 l0 t147 x6_1 y172 y175 (wrap64 (x11_2 + 1))) = some (r1, r2) := by first | (rw [hy175]; with_reducible exact H) | (have H2_ := (Option.bind_some _ _).symm.trans H; rw [hy175]; with_reducible exact H2_) | (have H2_ := (Option.bind_some _ _).symm.trans H; with_reducible exact H2_) | with_reducible exact H | (rw [hy175]; exact H) | exact H
                                                have Ny175 := Aside0.mk hy175
                                                clear hy175
                                                have H' := Aside0.mk H
                                                clear H
                                                have p66 : 0 ≤ (x11_2 : Int) := of_decide_eq_true (by first | (with_reducible assumption) | assumption)
                                                have q66 : (x11_2 : Int) < ((x10_2.length : Int) : Int) := of_decide_eq_true (by first | (with_reducible assumption) | assumption)
                                                obtain ⟨ce66, hcl66, hM66, hcc66, hfr66⟩ := Kd.R_elem HO_10.out z35 (x11_2 : Int) p66 q66
                                                obtain rfl := k35_openM hM66
                                                have hx66_0 : wc.cell? ⟨go42, (x11_2 : Int).toNat * 2, none⟩ = some (.int .i64 ((rd_T35 x10_2 x11_2).f0)) := hcc66 0 _ rfl
                                                have hx66_1 : wc.cell? ⟨go42, (x11_2 : Int).toNat * 2 + 1, none⟩ = some (.int .i64 ((rd_T35 x10_2 x11_2).f1)) := hcc66 1 _ rfl
                                                have hf66_0 : wc.frozen? ⟨go42, (x11_2 : Int).toNat * 2, none⟩ = false := hfr66 0
                                                have hf66_1 : wc.frozen? ⟨go42, (x11_2 : Int).toNat * 2 + 1, none⟩ = false := hfr66 1
                                                clear hcl66 hcc66 hfr66 hM66
                                                replace p66 := eq_true p66
                                                replace q66 := eq_true q66
                                                have HX67 := Aside0.mk (show Kd.R k35 35 wc w.heap.size (fun k_ => some k_ ≠ (.slice (some ⟨go40, 0, none⟩) y172.length co40 : Value).ownBlock) (.slice (some ⟨go42, 0, none⟩) x10_2.length co42) x10_2 from (by (with_reducible repeat (first | apply Kd.R_alloc | apply Kd.R_drewN | apply Kd.R_drew)); exact HO_10.out))
                                                obtain ⟨ce67, hcl67, hM67, hcc67, hfr67⟩ := Kd.R_elem HX67.out z35 (x11_2 : Int) (of_decide_eq_true (by first | (with_reducible assumption) | assumption)) (by have h_ : (x11_2 : Int) < ((x10_2.length : Int) : Int) := of_decide_eq_true (by first | (with_reducible assumption) | assumption); first | exact h_ | (have e_ := (Kd.R_reads' HO_10.out).1; omega) | simpa using h_)
                                                obtain rfl := k35_openM hM67
                                                have HP67 := Kd.R_seg HX67.out (x11_2 : Int) (of_decide_eq_true (by first | (with_reducible assumption) | assumption)) (by have h_ : (x11_2 : Int) < ((x10_2.length : Int) : Int) := of_decide_eq_true (by first | (with_reducible assumption) | assumption); first | exact h_ | (have e_ := (Kd.R_reads' HO_10.out).1; omega) | simpa using h_) (seg := [.int .i64 0, .int .i64 1]) (j := 0) hcl67 hcc67 (show 2 ≤ 2 from by decide) (x' := (⟨0, 1⟩ : S35)) (k35_mkM _ _ _ (⟨0, 1⟩ : S35) ) (fun _ hk => hk)
                                                have hx67_0 := hcc67 0 _ rfl
                                                (try simp only [show (k35).sz = 2 from rfl, Nat.mul_one, Nat.add_zero] at hx67_0)
                                                have hf67_0 := hfr67 0
                                                (try simp only [show (k35).sz = 2 from rfl, Nat.mul_one, Nat.add_zero] at hf67_0)
                                                have hx67_1 := hcc67 1 _ rfl
                                                (try simp only [show (k35).sz = 2 from rfl, Nat.mul_one, Nat.add_zero] at hx67_1)
                                                have hf67_1 := hfr67 1
                                                (try simp only [show (k35).sz = 2 from rfl, Nat.mul_one, Nat.add_zero] at hf67_1)
                                                clear hcl67 hcc67 hfr67 hM67
                                                go_wp2_with (first | ((with_reducible refine gate_store (t := 35) (p := 93) rfl ?_); refine store_event (t := 35) (p := 93) (v := ?vo_w68) (w1 := ((wc.setCell ⟨go42, (x11_2 : Int).toNat * 2, none⟩ (.int .i64 0)).setCell ⟨go42, (x11_2 : Int).toNat * 2 + 1, none⟩ (.int .i64 1))) ?hg ?ho ?hn ?hr ?_; (case ho => rfl); (case hg => rfl); (case hn => rfl); (case hr => first | (go_simp; done) | (go_simp; rfl)); intro w68 hw; have hg : wc.grownBy w68 (some go42) := (by rw [hw]; exact HP67.2); have hp_ : Kd.R k35 35 w68 w.heap.size (fun k_ => some k_ ≠ (.slice (some ⟨go40, 0, none⟩) y172.length co40 : Value).ownBlock) (.slice (some ⟨go42, 0, none⟩) x10_2.length co42) y175 := (by rw [hw, Ny175.out]; exact HP67.1); clear HP67; have n0_ := Aside0.mk (Kd.R_over' (v := (.slice (some ⟨go42, 0, none⟩) x10_2.length co42)) (by (with_reducible repeat (first | apply Kd.R_alloc | apply Kd.R_drewN | apply Kd.R_drew)); exact HO_5.out) (Kd.R_typed HO_10.out) (by decide) hg); have n1_ := Aside0.mk (Kd.R_over' (v := (.slice (some ⟨go42, 0, none⟩) x10_2.length co42)) (by (with_reducible repeat (first | apply Kd.R_alloc | apply Kd.R_drewN | apply Kd.R_drew)); exact HO_6.out) (Kd.R_typed HO_10.out) (by decide) hg); have n2_ := Aside0.mk (Kd.R_after (v := (.slice (some ⟨go42, 0, none⟩) x10_2.length co42)) (v1 := (.slice (some ⟨go42, 0, none⟩) x10_2.length co42)) (ok := (fun _ => True)) (by (with_reducible repeat (first | apply Kd.R_alloc | apply Kd.R_drewN | apply Kd.R_drew)); exact Kd.R_mono HO_9.out (fun _ hk => ⟨trivial, hk⟩)) hg (.inl rfl)); have n3_ := Aside0.mk (hp_); have n4_ := Aside0.mk ((by rw [hw]; exact below_set (below_set (HB.out) GB42.out) GB42.out : Below w.heap.size w w68)); clear HO_5; clear HO_6; clear HO_9; clear HO_10; clear HB; have HO_5 := n0_; have HO_6 := n1_; have HO_9 := n2_; have HO_10 := n3_; have HB := n4_; clear n0_ n1_ n2_ n3_ n4_; clear hg hw hp_))
                                                (try simp only [← hl9_2, ← hl10_2, ← hl9_54])
                                                go_roundg kj54
                                                case measure => have := HK1.out; have := HK2.out; have := HJ54.out; omega
                                                case rel => exact ⟨(y172), (y175), (wrap64 (x11_2 + 1)), (by first | rfl | (simp; done) | (simp [*]; done)), H', ⟨by have := HK1.out; have := HK2.out; have := HJ54.out; omega⟩, ⟨by (try simp only [hl9_2]); (try simp only [hl10_2]); (try simp only [hl9_54]); (with_reducible repeat (first | apply Kd.R_alloc | apply Kd.R_drewN | apply Kd.R_drew)); exact HO_5.out⟩, ⟨by (try simp only [hl9_2]); (try simp only [hl10_2]); (try simp only [hl9_54]); (with_reducible repeat (first | apply Kd.R_alloc | apply Kd.R_drewN | apply Kd.R_drew)); exact HO_6.out⟩, ⟨by (try simp only [hl9_2]); (try simp only [hl10_2]); (try simp only [hl9_54]); (with_reducible repeat (first | apply Kd.R_alloc | apply Kd.R_drewN | apply Kd.R_drew)); exact Kd.R_mono HO_9.out (fun _ hk => hk.2)⟩, ⟨by (try simp only [hl9_2]); (try simp only [hl10_2]); (try simp only [hl9_54]); (with_reducible repeat (first | apply Kd.R_alloc | apply Kd.R_drewN | apply Kd.R_drew)); exact HO_10.out⟩, ⟨by repeat (first | (with_reducible first | exact HB.out | apply below_alloc | apply pw_below_drewN | apply below_drew1) | exact HB.out)⟩⟩
                                              · rw [if_neg c65] at H
                                                exact absurd H (by simp)
                                            · rw [if_neg c64] at H
                                              exact absurd H (by simp)
                                          · replace c63 := Bool.eq_false_iff.mpr c63
                                            subst c63
                                            have H1 : (if 0 ≤ ((rd_T32 l0 x11_2).f0) then (if ((rd_T32 l0 x11_2).f0) < (x10_2.length : Int) then (if ((rd_T32 l0 x11_2).f0) < (x6_1.length : Int) then ((part_Of.f kj54 ((rd_T35 x10_2 ((rd_T32 l0 x11_2).f0)).f0) (wrap64 (((rd_T35 x10_2 ((rd_T32 l0 x11_2).f0)).f1) * (rd x6_1 ((rd_T32 l0 x11_2).f0))))).bind fun bt179 => (if bt179.2.2 = 0 then (if 0 ≤ x11_2 then (if x11_2 < (x10_2.length : Int) then ((some (x10_2.set (x11_2 : Int).toNat (⟨bt179.1, bt179.2.1⟩ : S35) : List (S35))).bind fun y183 => (if x11_2 < (l0.length : Int) then (if (rd_T32 l0 x11_2).f1 = true then (if x11_2 < (y172.length : Int) then (part_Heirs.l1 kj54 l0 t147 x6_1 (y172.set (x11_2 : Int).toNat (⟨bt179.1, bt179.2.1⟩ : S35)) (y183.set (x11_2 : Int).toNat (⟨0, 1⟩ : S35)) (wrap64 (x11_2 + 1))) else (none)) else (part_Heirs.l1 kj54 l0 t147 x6_1 y172 y183 (wrap64 (x11_2 + 1)))) else (none))) else (none)) else (none)) else (none))) else (none)) else (none)) else (none)) = some (r1, r2) := by rw [if_neg (show ¬ (false = true) by decide)] at H; exact H
                                            clear H
                                            have H := H1
                                            clear H1
                                            by_cases c69 : 0 ≤ ((rd_T32 l0 x11_2).f0)
                                            · rw [if_pos c69] at H
                                              have c69b0 : decide (0 ≤ ((rd_T32 l0 x11_2).f0)) = true := decide_eq_true c69
                                              clear c69
                                              by_cases c70 : ((rd_T32 l0 x11_2).f0) < (x10_2.length : Int)
                                              · rw [if_pos c70] at H
                                                have c70b0 : decide (((rd_T32 l0 x11_2).f0) < (x10_2.length : Int)) = true := decide_eq_true c70
                                                clear c70
                                                by_cases c71 : ((rd_T32 l0 x11_2).f0) < (x6_1.length : Int)
                                                · rw [if_pos c71] at H
                                                  have c71b0 : decide (((rd_T32 l0 x11_2).f0) < (x6_1.length : Int)) = true := decide_eq_true c71
                                                  clear c71
                                                  replace H := Option.bind_eq_some_iff.mp H
                                                  obtain ⟨⟨t179, t180, t181⟩, A720, H⟩ := H
                                                  replace H : (if t181 = 0 then (if 0 ≤ x11_2 then (if x11_2 < (x10_2.length : Int) then ((some (x10_2.set (x11_2 : Int).toNat (⟨t179, t180⟩ : S35) : List (S35))).bind fun y183 => (if x11_2 < (l0.length : Int) then (if (rd_T32 l0 x11_2).f1 = true then (if x11_2 < (y172.length : Int) then (part_Heirs.l1 kj54 l0 t147 x6_1 (y172.set (x11_2 : Int).toNat (⟨t179, t180⟩ : S35)) (y183.set (x11_2 : Int).toNat (⟨0, 1⟩ : S35)) (wrap64 (x11_2 + 1))) else (none)) else (part_Heirs.l1 kj54 l0 t147 x6_1 y172 y183 (wrap64 (x11_2 + 1)))) else (none))) else (none)) else (none)) else (none)) = some (r1, r2) := H
                                                  have A72 := Aside0.mk A720
                                                  clear A720
                                                  by_cases c73 : t181 = 0
                                                  · rw [if_pos c73] at H
                                                    have c73b0 : (t181 == 0) = true := beq_iff_eq.mpr c73
                                                    have c73b1 : (t181 != 0) = false := bne_eq_false_iff_eq.mpr c73
                                                    clear c73
                                                    by_cases c74 : 0 ≤ x11_2
                                                    · rw [if_pos c74] at H
                                                      have c74b0 : decide (0 ≤ x11_2) = true := decide_eq_true c74
                                                      clear c74
                                                      by_cases c75 : x11_2 < (x10_2.length : Int)
                                                      · rw [if_pos c75] at H
                                                        have c75b0 : decide (x11_2 < (x10_2.length : Int)) = true := decide_eq_true c75
                                                        clear c75
                                                        obtain ⟨y183, hy183⟩ : ∃ y_ : List (S35), y_ = (x10_2.set (x11_2 : Int).toNat (⟨t179, t180⟩ : S35)) := ⟨_, rfl⟩
                                                        replace H : (if x11_2 < (l0.length : Int) then (if (rd_T32 l0 x11_2).f1 = true then (if x11_2 < (y172.length : Int) then (part_Heirs.l1 kj54 l0 t147 x6_1 (y172.set (x11_2 : Int).toNat (⟨t179, t180⟩ : S35)) (y183.set (x11_2 : Int).toNat (⟨0, 1⟩ : S35)) (wrap64 (x11_2 + 1))) else (none)) else (part_Heirs.l1 kj54 l0 t147 x6_1 y172 y183 (wrap64 (x11_2 + 1)))) else (none)) = some (r1, r2) := by first | (rw [hy183]; with_reducible exact H) | (have H2_ := (Option.bind_some _ _).symm.trans H; rw [hy183]; with_reducible exact H2_) | (have H2_ := (Option.bind_some _ _).symm.trans H; with_reducible exact H2_) | with_reducible exact H | (rw [hy183]; exact H) | exact H
                                                        have Ny183 := Aside0.mk hy183
                                                        clear hy183
                                                        by_cases c77 : x11_2 < (l0.length : Int)
                                                        · rw [if_pos c77] at H
                                                          have c77b0 : decide (x11_2 < (l0.length : Int)) = true := decide_eq_true c77
                                                          clear c77
                                                          obtain ⟨bq78, hbq78⟩ : ∃ b_ : Bool, b_ = ((rd_T32 l0 x11_2).f1) := ⟨_, rfl⟩
                                                          replace H : (if bq78 = true then (if x11_2 < (y172.length : Int) then (part_Heirs.l1 kj54 l0 t147 x6_1 (y172.set (x11_2 : Int).toNat (⟨t179, t180⟩ : S35)) (y183.set (x11_2 : Int).toNat (⟨0, 1⟩ : S35)) (wrap64 (x11_2 + 1))) else (none)) else (part_Heirs.l1 kj54 l0 t147 x6_1 y172 y183 (wrap64 (x11_2 + 1)))) = some (r1, r2) := by rw [← hbq78] at H; exact H
                                                          have Nbq78 := Aside0.mk hbq78
                                                          clear hbq78
                                                          by_cases c79 : bq78 = true
                                                          · subst c79
                                                            have H1 : (if x11_2 < (y172.length : Int) then (part_Heirs.l1 kj54 l0 t147 x6_1 (y172.set (x11_2 : Int).toNat (⟨t179, t180⟩ : S35)) (y183.set (x11_2 : Int).toNat (⟨0, 1⟩ : S35)) (wrap64 (x11_2 + 1))) else (none)) = some (r1, r2) := by rw [if_pos rfl] at H; exact H
                                                            clear H
                                                            have H := H1
                                                            clear H1
                                                            by_cases c80 : x11_2 < (y172.length : Int)
                                                            · rw [if_pos c80] at H
                                                              have c80b0 : decide (x11_2 < (y172.length : Int)) = true := decide_eq_true c80
                                                              clear c80
                                                              obtain ⟨y185, hy185⟩ : ∃ y_ : List (S35), y_ = (y172.set (x11_2 : Int).toNat (⟨t179, t180⟩ : S35)) := ⟨_, rfl⟩
                                                              replace H : (part_Heirs.l1 kj54 l0 t147 x6_1 y185 (y183.set (x11_2 : Int).toNat (⟨0, 1⟩ : S35)) (wrap64 (x11_2 + 1))) = some (r1, r2) := by first | (rw [hy185]; with_reducible exact H) | (have H2_ := (Option.bind_some _ _).symm.trans H; rw [hy185]; with_reducible exact H2_) | (have H2_ := (Option.bind_some _ _).symm.trans H; with_reducible exact H2_) | with_reducible exact H | (rw [hy185]; exact H) | exact H
                                                              have Ny185 := Aside0.mk hy185
                                                              clear hy185
                                                              obtain ⟨y186, hy186⟩ : ∃ y_ : List (S35), y_ = (y183.set (x11_2 : Int).toNat (⟨0, 1⟩ : S35)) := ⟨_, rfl⟩
                                                              replace H : (part_Heirs.l1 kj54 l0 t147 x6_1 y185 y186 (wrap64 (x11_2 + 1))) = some (r1, r2) := by first | (rw [hy186]; with_reducible exact H) | (have H2_ := (Option.bind_some _ _).symm.trans H; rw [hy186]; with_reducible exact H2_) | (have H2_ := (Option.bind_some _ _).symm.trans H; with_reducible exact H2_) | with_reducible exact H | (rw [hy186]; exact H) | exact H
                                                              have Ny186 := Aside0.mk hy186
                                                              clear hy186
                                                              have H' := Aside0.mk H
                                                              clear H
                                                              try go_wp2
                                                              have n0_ := Aside0.mk (Kd.R_drew HO_5.out)
                                                              have n1_ := Aside0.mk (Kd.R_drew HO_6.out)
                                                              have n2_ := Aside0.mk (Kd.R_drew HO_9.out)
                                                              have n3_ := Aside0.mk (Kd.R_drew HO_10.out)
                                                              have n4_ := Aside0.mk (below_drew1 HB.out)
                                                              clear HO_5
                                                              clear HO_6
                                                              clear HO_9
                                                              clear HO_10
                                                              clear HB
                                                              have HO_5 := n0_
                                                              have HO_6 := n1_
                                                              have HO_9 := n2_
                                                              have HO_10 := n3_
                                                              have HB := n4_
                                                              clear n0_ n1_ n2_ n3_ n4_
                                                              have p176 : 0 ≤ (((rd_T32 l0 x11_2).f0) : Int) := of_decide_eq_true (by first | (with_reducible assumption) | assumption)
                                                              have q176 : ((rd_T32 l0 x11_2).f0) < (x10_2.length : Int) := of_decide_eq_true (by first | (with_reducible assumption) | assumption)
                                                              obtain ⟨ad176, e176, hx176_0, hx176_1⟩ := at_T35 (Kd.R_reads' HO_10.out).2.2 ((rd_T32 l0 x11_2).f0) p176 q176
                                                              obtain rfl : (⟨go42, 0, none⟩ : Addr) = ad176 := (by injection e176)
                                                              (first | simp only [add_plain] at hx176_0 | simp only [add_at] at hx176_0 | simp only [Addr.add, Nat.zero_add] at hx176_0 | skip)
                                                              (first | simp only [add_plain] at hx176_1 | simp only [add_at] at hx176_1 | simp only [Addr.add, Nat.zero_add] at hx176_1 | skip)
                                                              replace p176 := eq_true p176
                                                              replace q176 := eq_true q176
                                                              have p177 : 0 ≤ (((rd_T32 l0 x11_2).f0) : Int) := of_decide_eq_true (by first | (with_reducible assumption) | assumption)
                                                              have q177 : ((rd_T32 l0 x11_2).f0) < (x10_2.length : Int) := of_decide_eq_true (by first | (with_reducible assumption) | assumption)
                                                              obtain ⟨ad177, e177, hx177_0, hx177_1⟩ := at_T35 (Kd.R_reads' HO_10.out).2.2 ((rd_T32 l0 x11_2).f0) p177 q177
                                                              obtain rfl : (⟨go42, 0, none⟩ : Addr) = ad177 := (by injection e177)
                                                              (first | simp only [add_plain] at hx177_0 | simp only [add_at] at hx177_0 | simp only [Addr.add, Nat.zero_add] at hx177_0 | skip)
                                                              (first | simp only [add_plain] at hx177_1 | simp only [add_at] at hx177_1 | simp only [Addr.add, Nat.zero_add] at hx177_1 | skip)
                                                              replace p177 := eq_true p177
                                                              replace q177 := eq_true q177
                                                              obtain ⟨Ao84, co84, eo84⟩ := Kd.R_slice HO_6.out
                                                              (first | subst eo84 | (injection eo84 with f1_ f2_ f3_; have f4_ := f1_.symm; have f5_ := f3_.symm; clear f1_ f2_ f3_; subst f4_; subst f5_))
                                                              have p178 : 0 ≤ (((rd_T32 l0 x11_2).f0) : Int) := of_decide_eq_true (by first | (with_reducible assumption) | assumption)
                                                              have q178 : ((rd_T32 l0 x11_2).f0) < (x6_1.length : Int) := of_decide_eq_true (by first | (with_reducible assumption) | assumption)
                                                              obtain ⟨ad178, e178, hx178_0⟩ := Kd.at_int (Kd.R_reads' HO_6.out).2.2 ((rd_T32 l0 x11_2).f0) p178 q178
                                                              cases e178
                                                              replace p178 := eq_true p178
                                                              replace q178 := eq_true q178
                                                              refine start_ (n := 22) (S := fun w' => w'.cell? ⟨go42, (((rd_T32 l0 x11_2).f0)).toNat * 2, none⟩ = some (.int .i64 ((rd_T35 x10_2 ((rd_T32 l0 x11_2).f0)).f0)) ∧ w'.cell? ⟨go42, (((rd_T32 l0 x11_2).f0)).toNat * 2 + 1, none⟩ = some (.int .i64 ((rd_T35 x10_2 ((rd_T32 l0 x11_2).f0)).f1)) ∧ w'.cell? ⟨go42, (((rd_T32 l0 x11_2).f0)).toNat * 2, none⟩ = some (.int .i64 ((rd_T35 x10_2 ((rd_T32 l0 x11_2).f0)).f0)) ∧ w'.cell? ⟨go42, (((rd_T32 l0 x11_2).f0)).toNat * 2 + 1, none⟩ = some (.int .i64 ((rd_T35 x10_2 ((rd_T32 l0 x11_2).f0)).f1)) ∧ w'.cell? (ad178.add (((rd_T32 l0 x11_2).f0)).toNat) = some (.int .i64 (rd x6_1 ((rd_T32 l0 x11_2).f0)))) (ds := []) #[false, false, false, false, false, false, false, false, false, false, false, false, false, false, false, false, false, false, false, false, false, false] (by kernel_rfl) rfl rfl ⟨hx176_0, hx176_1, hx177_0, hx177_1, hx178_0⟩ (fun hHeld => ?_); refine with_tabW part_Heirs.tab25 part_Heirs.bits25 (fun HT_ HW_ => ?_)
                                                              generalize wc.drew = w83 at HO_5 HO_6 HO_9 HO_10 HB hx176_0 hx176_1 hx177_0 hx177_1 hx178_0 hHeld ⊢
                                                              refine pure_ (i := 0) (N := some 95) (v := ?_) (a' := ?_) #[true, false, false, false, false, false, false, false, false, false, false, false, false, false, false, false, false, false, false, false, false, false] rfl rfl (any_of HT_.out (by kernel_rfl)) (fun _ _ _ h => h) (Or.inl ⟨by rfl, ?_⟩) ?_ ?_
                                                              rotate_left
                                                              · intro w'
                                                                go_simp
                                                                with_reducible rfl
                                                              rotate_left
                                                              · simp only [Act.put, List.setIfInBounds_toArray, List.set_cons_zero, List.set_cons_succ, i64_w, i32_w]
                                                                rfl
                                                              refine pure_ (i := 1) (N := some 96) (v := ?_) (a' := ?_) #[true, true, false, false, false, false, false, false, false, false, false, false, false, false, false, false, false, false, false, false, false, false] rfl rfl (any_of HT_.out (by kernel_rfl)) (fun _ _ _ h => h) (Or.inl ⟨by rfl, ?_⟩) ?_ ?_
                                                              rotate_left
                                                              · intro w'
                                                                go_simp
                                                                with_reducible rfl
                                                              rotate_left
                                                              · simp only [Act.put, List.setIfInBounds_toArray, List.set_cons_zero, List.set_cons_succ, i64_w, i32_w]
                                                                rfl
                                                              refine pure_ (i := 2) (N := some 97) (v := ?_) (a' := ?_) #[true, true, true, false, false, false, false, false, false, false, false, false, false, false, false, false, false, false, false, false, false, false] rfl rfl (any_of HT_.out (by kernel_rfl)) (fun _ _ _ h => h) (Or.inl ⟨by rfl, ?_⟩) ?_ ?_
                                                              rotate_left
                                                              · intro w'
                                                                go_simp
                                                                with_reducible rfl
                                                              rotate_left
                                                              · simp only [Act.put, List.setIfInBounds_toArray, List.set_cons_zero, List.set_cons_succ, i64_w, i32_w]
                                                                rfl
                                                              refine pure_ (i := 3) (N := some 98) (v := ?_) (a' := ?_) #[true, true, true, true, false, false, false, false, false, false, false, false, false, false, false, false, false, false, false, false, false, false] rfl rfl (any_of HT_.out (by kernel_rfl)) (fun _ _ _ h => h) (Or.inl ⟨by rfl, ?_⟩) ?_ ?_
                                                              rotate_left
                                                              · intro w'
                                                                go_simp
                                                                with_reducible rfl
                                                              rotate_left
                                                              · simp only [Act.put, List.setIfInBounds_toArray, List.set_cons_zero, List.set_cons_succ, i64_w, i32_w]
                                                                rfl
                                                              refine pure_ (i := 5) (N := some 100) (v := ?_) (a' := ?_) #[true, true, true, true, false, true, false, false, false, false, false, false, false, false, false, false, false, false, false, false, false, false] rfl rfl (any_of HT_.out (by kernel_rfl)) (fun _ _ _ h => h) (Or.inl ⟨by rfl, ?_⟩) ?_ ?_
                                                              rotate_left
                                                              · intro w'
                                                                go_simp
                                                                with_reducible rfl
                                                              rotate_left
                                                              · simp only [Act.put, List.setIfInBounds_toArray, List.set_cons_zero, List.set_cons_succ, i64_w, i32_w]
                                                                rfl
                                                              refine pure_ (i := 6) (N := some 101) (v := ?_) (a' := ?_) #[true, true, true, true, false, true, true, false, false, false, false, false, false, false, false, false, false, false, false, false, false, false] rfl rfl (any_of HT_.out (by kernel_rfl)) (fun _ _ _ h => h) (Or.inl ⟨by rfl, ?_⟩) ?_ ?_
                                                              rotate_left
                                                              · intro w'
                                                                go_simp
                                                                with_reducible rfl
                                                              rotate_left
                                                              · simp only [Act.put, List.setIfInBounds_toArray, List.set_cons_zero, List.set_cons_succ, i64_w, i32_w]
                                                                rfl
                                                              refine pure_ (i := 7) (N := some 102) (v := ?_) (a' := ?_) #[true, true, true, true, false, true, true, true, false, false, false, false, false, false, false, false, false, false, false, false, false, false] rfl rfl (any_of HT_.out (by kernel_rfl)) (fun _ _ _ h => h) (Or.inl ⟨by rfl, ?_⟩) ?_ ?_
                                                              rotate_left
                                                              · intro w'
                                                                go_simp
                                                                with_reducible rfl
                                                              rotate_left
                                                              · simp only [Act.put, List.setIfInBounds_toArray, List.set_cons_zero, List.set_cons_succ, i64_w, i32_w]
                                                                rfl
                                                              refine pure_ (i := 8) (N := some 103) (v := ?_) (a' := ?_) #[true, true, true, true, false, true, true, true, true, false, false, false, false, false, false, false, false, false, false, false, false, false] rfl rfl (any_of HT_.out (by kernel_rfl)) (fun _ _ _ h => h) (Or.inl ⟨by rfl, ?_⟩) ?_ ?_
                                                              rotate_left
                                                              · intro w'
                                                                go_simp
                                                                with_reducible rfl
                                                              rotate_left
                                                              · simp only [Act.put, List.setIfInBounds_toArray, List.set_cons_zero, List.set_cons_succ, i64_w, i32_w]
                                                                rfl
                                                              refine pure_ (i := 10) (N := some 105) (v := ?_) (a' := ?_) #[true, true, true, true, false, true, true, true, true, false, true, false, false, false, false, false, false, false, false, false, false, false] rfl rfl (any_of HT_.out (by kernel_rfl)) (fun _ _ _ h => h) (Or.inl ⟨by rfl, ?_⟩) ?_ ?_
                                                              rotate_left
                                                              · intro w'
                                                                go_simp
                                                                with_reducible rfl
                                                              rotate_left
                                                              · simp only [Act.put, List.setIfInBounds_toArray, List.set_cons_zero, List.set_cons_succ, i64_w, i32_w]
                                                                rfl
                                                              refine pure_ (i := 11) (N := some 106) (v := ?_) (a' := ?_) #[true, true, true, true, false, true, true, true, true, false, true, true, false, false, false, false, false, false, false, false, false, false] rfl rfl (any_of HT_.out (by kernel_rfl)) (fun _ _ _ h => h) (Or.inl ⟨by rfl, ?_⟩) ?_ ?_
                                                              rotate_left
                                                              · intro w'
                                                                go_simp
                                                                with_reducible rfl
                                                              rotate_left
                                                              · simp only [Act.put, List.setIfInBounds_toArray, List.set_cons_zero, List.set_cons_succ, i64_w, i32_w]
                                                                rfl
                                                              refine pure_ (i := 12) (N := some 107) (v := ?_) (a' := ?_) #[true, true, true, true, false, true, true, true, true, false, true, true, true, false, false, false, false, false, false, false, false, false] rfl rfl (any_of HT_.out (by kernel_rfl)) (fun _ _ _ h => h) (Or.inl ⟨by rfl, ?_⟩) ?_ ?_
                                                              rotate_left
                                                              · intro w'
                                                                go_simp
                                                                with_reducible rfl
                                                              rotate_left
                                                              · simp only [Act.put, List.setIfInBounds_toArray, List.set_cons_zero, List.set_cons_succ, i64_w, i32_w]
                                                                rfl
                                                              refine take_ (i := 4) (N := some 99) (v := ?_) (a' := ?_) #[true, true, true, true, true, true, true, true, true, false, true, true, true, false, false, false, false, false, false, false, false, false] rfl rfl (take_ofW HT_.out HW_.out (by kernel_rfl)) (fun _ _ _ h => h) (Or.inl ⟨by rfl, ?_⟩) hHeld ?_ ?_
                                                              rotate_left
                                                              · rintro w' ⟨s0, s1, s2, s3, s4⟩
                                                                go_simp
                                                                with_reducible rfl
                                                              rotate_left
                                                              · simp only [Act.put, List.setIfInBounds_toArray, List.set_cons_zero, List.set_cons_succ, i64_w, i32_w]
                                                                rfl
                                                              refine take_ (i := 9) (N := some 104) (v := ?_) (a' := ?_) #[true, true, true, true, true, true, true, true, true, true, true, true, true, false, false, false, false, false, false, false, false, false] rfl rfl (take_ofW HT_.out HW_.out (by kernel_rfl)) (fun _ _ _ h => h) (Or.inl ⟨by rfl, ?_⟩) hHeld ?_ ?_
                                                              rotate_left
                                                              · rintro w' ⟨s0, s1, s2, s3, s4⟩
                                                                go_simp
                                                                with_reducible rfl
                                                              rotate_left
                                                              · simp only [Act.put, List.setIfInBounds_toArray, List.set_cons_zero, List.set_cons_succ, i64_w, i32_w]
                                                                rfl
                                                              refine take_ (i := 13) (N := some 108) (v := ?_) (a' := ?_) #[true, true, true, true, true, true, true, true, true, true, true, true, true, true, false, false, false, false, false, false, false, false] rfl rfl (take_ofW HT_.out HW_.out (by kernel_rfl)) (fun _ _ _ h => h) (Or.inl ⟨by rfl, ?_⟩) hHeld ?_ ?_
                                                              rotate_left
                                                              · rintro w' ⟨s0, s1, s2, s3, s4⟩
                                                                go_simp
                                                                with_reducible rfl
                                                              rotate_left
                                                              · simp only [Act.put, List.setIfInBounds_toArray, List.set_cons_zero, List.set_cons_succ, i64_w, i32_w]
                                                                rfl
                                                              refine pure_ (i := 14) (N := some 109) (v := ?_) (a' := ?_) #[true, true, true, true, true, true, true, true, true, true, true, true, true, true, true, false, false, false, false, false, false, false] rfl rfl (any_of HT_.out (by kernel_rfl)) (fun _ _ _ h => h) (Or.inl ⟨by rfl, ?_⟩) ?_ ?_
                                                              rotate_left
                                                              · intro w'
                                                                go_simp
                                                                with_reducible rfl
                                                              rotate_left
                                                              · simp only [Act.put, List.setIfInBounds_toArray, List.set_cons_zero, List.set_cons_succ, i64_w, i32_w]
                                                                rfl
                                                              refine join_ (σ := Nat) 2 #[true, true, true, true, true, true, true, true, true, true, true, true, true, true, true, true, true, true, true, true, false, false] (fun s_ => [(110, .tuple #[.agg #[.int .i64 t179, .int .i64 t180], .int .i64 t181]), (13, .pointer (some ⟨s_, 0, none⟩)), (94, .tuple #[.agg #[.int .i64 t179, .int .i64 t180], .int .i64 t181]), (111, .agg #[.int .i64 t179, .int .i64 t180]), (112, .int .i64 t181)]) (fun s_ w' => (w'.cell? ⟨go42, (((rd_T32 l0 x11_2).f0)).toNat * 2, none⟩ = some (.int .i64 ((rd_T35 x10_2 ((rd_T32 l0 x11_2).f0)).f0)) ∧ w'.cell? ⟨go42, (((rd_T32 l0 x11_2).f0)).toNat * 2 + 1, none⟩ = some (.int .i64 ((rd_T35 x10_2 ((rd_T32 l0 x11_2).f0)).f1)) ∧ w'.cell? ⟨go42, (((rd_T32 l0 x11_2).f0)).toNat * 2, none⟩ = some (.int .i64 ((rd_T35 x10_2 ((rd_T32 l0 x11_2).f0)).f0)) ∧ w'.cell? ⟨go42, (((rd_T32 l0 x11_2).f0)).toNat * 2 + 1, none⟩ = some (.int .i64 ((rd_T35 x10_2 ((rd_T32 l0 x11_2).f0)).f1)) ∧ w'.cell? (ad178.add (((rd_T32 l0 x11_2).f0)).toNat) = some (.int .i64 (rd x6_1 ((rd_T32 l0 x11_2).f0)))) ∧ (Kd.R k35 35 w' w.heap.size (fun k_ => some k_ ≠ (.slice (some ⟨go40, 0, none⟩) y172.length co40 : Value).ownBlock ∧ k_ ≠ s_) (.slice (some ⟨go42, 0, none⟩) x10_2.length co42) x10_2) ∧ (Kd.R Kd.bool 4 w' w.heap.size (fun _ => True) (.slice (some ad150) t147.length co13) t147) ∧ (Kd.R (Kd.int .i64) 3 w' w.heap.size (fun _ => True) (.slice (some ad178) x6_1.length co84) x6_1) ∧ (Kd.R k35 35 w' w.heap.size (fun k_ => some k_ ≠ (.slice (some ⟨go42, 0, none⟩) x10_2.length co42 : Value).ownBlock ∧ k_ ≠ s_) (.slice (some ⟨go40, 0, none⟩) y172.length co40) y172) ∧ (w'.heap[s_]? = some (.cells #[.int .i64 0, .int .i64 0] 35 (0, 0))) ∧ (w.heap.size ≤ s_) ∧ (w.heap.size ≤ s_) ∧ (Below w.heap.size w w')) ?_ ?_
                                                              rotate_left
                                                              · intro hCont
                                                                refine two_ (i := 15) (j := 19) (Ni := some 110) (Nj := some 13) #[true, true, true, true, true, true, true, true, true, true, true, true, true, true, true, true, false, false, false, false, false, false] #[true, true, true, true, true, true, true, true, true, true, true, true, true, true, true, false, false, false, false, true, false, false] rfl rfl rfl rfl (two_of HT_.out (by kernel_rfl)) (by decide) (by decide) (fun K hK => ?_) (fun K hK => ?_)
                                                                · skip
                                                                  refine goes_ Try.func50 (by kernel_rfl) rfl #[.int .i64 ((rd_T35 x10_2 ((rd_T32 l0 x11_2).f0)).f0), .int .i64 (wrap64 (((rd_T35 x10_2 ((rd_T32 l0 x11_2).f0)).f1) * (rd x6_1 ((rd_T32 l0 x11_2).f0))))] (by rfl) rfl rfl (by (try simp only [List.map_toArray, List.map_cons, List.map_nil]); first | done | rfl | (simp only [List.length_drop, List.length_take]; rfl)) ?_
                                                                  with_reducible refine (part_Of.calls kj54 ((rd_T35 x10_2 ((rd_T32 l0 x11_2).f0)).f0) (wrap64 (((rd_T35 x10_2 ((rd_T32 l0 x11_2).f0)).f1) * (rd x6_1 ((rd_T32 l0 x11_2).f0)))) t179 t180 t181 _ A72.out).mono ?_
                                                                  rintro e w85 ⟨rfl, hb⟩
                                                                  have HS0_ := (hb.cell (World.block_lt_of_cell? _ _ (hHeld.1))).trans (hHeld.1)
                                                                  have HS1_ := (hb.cell (World.block_lt_of_cell? _ _ (hHeld.2.1))).trans (hHeld.2.1)
                                                                  have HS2_ := (hb.cell (World.block_lt_of_cell? _ _ (hHeld.2.2.1))).trans (hHeld.2.2.1)
                                                                  have HS3_ := (hb.cell (World.block_lt_of_cell? _ _ (hHeld.2.2.2.1))).trans (hHeld.2.2.2.1)
                                                                  have HS4_ := (hb.cell (World.block_lt_of_cell? _ _ (hHeld.2.2.2.2))).trans (hHeld.2.2.2.2)
                                                                  refine ⟨_, rfl, ?_⟩
                                                                  have n0_ := Aside0.mk (Kd.R_below (by (with_reducible repeat (first | apply Kd.R_alloc | apply Kd.R_drewN | apply Kd.R_drew)); exact HO_5.out) hb)
                                                                  have n1_ := Aside0.mk (Kd.R_below (by (with_reducible repeat (first | apply Kd.R_alloc | apply Kd.R_drewN | apply Kd.R_drew)); exact HO_6.out) hb)
                                                                  have n2_ := Aside0.mk (Kd.R_below (by (with_reducible repeat (first | apply Kd.R_alloc | apply Kd.R_drewN | apply Kd.R_drew)); exact HO_9.out) hb)
                                                                  have n3_ := Aside0.mk (Kd.R_below (by (with_reducible repeat (first | apply Kd.R_alloc | apply Kd.R_drewN | apply Kd.R_drew)); exact HO_10.out) hb)
                                                                  have n4_ := Aside0.mk (below_step (by repeat (first | (with_reducible first | exact HB.out | apply below_alloc | apply pw_below_drewN | apply below_drew1) | exact HB.out)) hb)
                                                                  clear HO_5
                                                                  clear HO_6
                                                                  clear HO_9
                                                                  clear HO_10
                                                                  clear HB
                                                                  have HO_5 := n0_
                                                                  have HO_6 := n1_
                                                                  have HO_9 := n2_
                                                                  have HO_10 := n3_
                                                                  have HB := n4_
                                                                  clear n0_ n1_ n2_ n3_ n4_
                                                                  (try clear hb)
                                                                  (try clear hb2)
                                                                  (try clear hk)
                                                                  (try clear hi)
                                                                  refine hK.out _ _ ⟨HS0_, HS1_, HS2_, HS3_, HS4_⟩ (fun hHeld => ?_)
                                                                  clear hK K
                                                                  refine norm_ (a' := ?_) ?_ ?_
                                                                  rotate_left
                                                                  · show Act.put _ (some 110) _ = _
                                                                    simp only [Act.put, List.setIfInBounds_toArray, List.set_cons_zero, List.set_cons_succ, i64_w, i32_w]
                                                                    rfl
                                                                  refine pure_ (i := 16) (N := some 94) (v := ?_) (a' := ?_) #[true, true, true, true, true, true, true, true, true, true, true, true, true, true, true, true, true, false, false, false, false, false] rfl rfl (any_of HT_.out (by kernel_rfl)) (fun _ _ _ h => h) (Or.inl ⟨by rfl, ?_⟩) ?_ ?_
                                                                  rotate_left
                                                                  · intro w'
                                                                    go_simp
                                                                    with_reducible rfl
                                                                  rotate_left
                                                                  · simp only [Act.put, List.setIfInBounds_toArray, List.set_cons_zero, List.set_cons_succ, i64_w, i32_w]
                                                                    rfl
                                                                  refine pure_ (i := 17) (N := some 111) (v := ?_) (a' := ?_) #[true, true, true, true, true, true, true, true, true, true, true, true, true, true, true, true, true, true, false, false, false, false] rfl rfl (any_of HT_.out (by kernel_rfl)) (fun _ _ _ h => h) (Or.inl ⟨by rfl, ?_⟩) ?_ ?_
                                                                  rotate_left
                                                                  · intro w'
                                                                    go_simp
                                                                    with_reducible rfl
                                                                  rotate_left
                                                                  · simp only [Act.put, List.setIfInBounds_toArray, List.set_cons_zero, List.set_cons_succ, i64_w, i32_w]
                                                                    rfl
                                                                  refine pure_ (i := 18) (N := some 112) (v := ?_) (a' := ?_) #[true, true, true, true, true, true, true, true, true, true, true, true, true, true, true, true, true, true, true, false, false, false] rfl rfl (any_of HT_.out (by kernel_rfl)) (fun _ _ _ h => h) (Or.inl ⟨by rfl, ?_⟩) ?_ ?_
                                                                  rotate_left
                                                                  · intro w'
                                                                    go_simp
                                                                    with_reducible rfl
                                                                  rotate_left
                                                                  · simp only [Act.put, List.setIfInBounds_toArray, List.set_cons_zero, List.set_cons_succ, i64_w, i32_w]
                                                                    rfl
                                                                  refine one_ (i := 19) (N := some 13) #[true, true, true, true, true, true, true, true, true, true, true, true, true, true, true, true, true, true, true, true, false, false] rfl rfl (one_of HT_.out (by kernel_rfl)) (by decide) (fun K hK => ?_)
                                                                  refine box_step ?hg (N := 13) ?hd (cs := #[.int .i64 0, .int .i64 0]) (t := 35) ?hr ?_; (case hd => rfl); (case hg => rfl); (case hr => first | (go_simp; done) | (go_simp; rfl))
                                                                  intro gb182 hg w86 hbox hb
                                                                  have HS0_ := (hb.cell (World.block_lt_of_cell? _ _ (hHeld.1))).trans (hHeld.1)
                                                                  have HS1_ := (hb.cell (World.block_lt_of_cell? _ _ (hHeld.2.1))).trans (hHeld.2.1)
                                                                  have HS2_ := (hb.cell (World.block_lt_of_cell? _ _ (hHeld.2.2.1))).trans (hHeld.2.2.1)
                                                                  have HS3_ := (hb.cell (World.block_lt_of_cell? _ _ (hHeld.2.2.2.1))).trans (hHeld.2.2.2.1)
                                                                  have HS4_ := (hb.cell (World.block_lt_of_cell? _ _ (hHeld.2.2.2.2))).trans (hHeld.2.2.2.2)
                                                                  have n0_ := Aside0.mk (Kd.R_below (by (with_reducible repeat (first | apply Kd.R_alloc | apply Kd.R_drewN | apply Kd.R_drew)); exact HO_5.out) hb)
                                                                  have n1_ := Aside0.mk (Kd.R_below (by (with_reducible repeat (first | apply Kd.R_alloc | apply Kd.R_drewN | apply Kd.R_drew)); exact HO_6.out) hb)
                                                                  have n2_ := Aside0.mk (Kd.R_below (Kd.R_elderB (by (with_reducible repeat (first | apply Kd.R_alloc | apply Kd.R_drewN | apply Kd.R_drew)); exact HO_9.out) gb182 (Nat.le_of_eq hg.symm)) hb)
                                                                  have n3_ := Aside0.mk (Kd.R_below (Kd.R_elderB (by (with_reducible repeat (first | apply Kd.R_alloc | apply Kd.R_drewN | apply Kd.R_drew)); exact HO_10.out) gb182 (Nat.le_of_eq hg.symm)) hb)
                                                                  have n4_ := Aside0.mk (below_step (by repeat (first | (with_reducible first | exact HB.out | apply below_alloc | apply pw_below_drewN | apply below_drew1) | exact HB.out)) hb)
                                                                  have n5_ := Aside0.mk (hbox)
                                                                  have n6_ := Aside0.mk ((by rw [hg]; exact (below_size (by repeat (first | (with_reducible first | exact HB.out | apply below_alloc | apply pw_below_drewN | apply below_drew1) | exact HB.out))) : w.heap.size ≤ gb182))
                                                                  have n7_ := Aside0.mk ((by rw [hg]; exact (below_size (by repeat (first | (with_reducible first | exact HB.out | apply below_alloc | apply pw_below_drewN | apply below_drew1) | exact HB.out))) : w.heap.size ≤ gb182))
                                                                  clear HO_5
                                                                  clear HO_6
                                                                  clear HO_9
                                                                  clear HO_10
                                                                  clear HB
                                                                  have HO_5 := n0_
                                                                  have HO_6 := n1_
                                                                  have HO_9 := n2_
                                                                  have HO_10 := n3_
                                                                  have HB := n4_
                                                                  have BK182 := n5_
                                                                  have GW182 := n6_
                                                                  have GE182 := n7_
                                                                  clear n0_ n1_ n2_ n3_ n4_ n5_ n6_ n7_
                                                                  clear hb hbox hg
                                                                  refine hK.out _ _ ⟨HS0_, HS1_, HS2_, HS3_, HS4_⟩ (fun hHeld => ?_)
                                                                  clear hK K
                                                                  refine norm_ (a' := ?_) ?_ ?_
                                                                  rotate_left
                                                                  · show Act.put _ (some 13) _ = _
                                                                    simp only [Act.put, List.setIfInBounds_toArray, List.set_cons_zero, List.set_cons_succ, i64_w, i32_w]
                                                                    rfl
                                                                  exact norm_ (by simp only [putAll, Act.put, List.setIfInBounds_toArray, List.set_cons_zero, List.set_cons_succ]) (hCont (gb182) _ ⟨hHeld, (by (with_reducible repeat (first | apply Kd.R_alloc | apply Kd.R_drewN | apply Kd.R_drew)); exact HO_10.out), (by (with_reducible repeat (first | apply Kd.R_alloc | apply Kd.R_drewN | apply Kd.R_drew)); exact HO_5.out), (by (with_reducible repeat (first | apply Kd.R_alloc | apply Kd.R_drewN | apply Kd.R_drew)); exact HO_6.out), (by (with_reducible repeat (first | apply Kd.R_alloc | apply Kd.R_drewN | apply Kd.R_drew)); exact HO_9.out), (by (with_reducible repeat (first | refine blk_drewN ?_ _ | refine blk_drew ?_ | refine blk_alloc ?_ _)); exact BK182.out), GW182.out, GE182.out, (by repeat (first | (with_reducible first | exact HB.out | apply below_alloc | apply pw_below_drewN | apply below_drew1 | refine below_set ?_ GE182.out) | exact HB.out))⟩)
                                                                · skip
                                                                  refine box_step ?hg (N := 13) ?hd (cs := #[.int .i64 0, .int .i64 0]) (t := 35) ?hr ?_; (case hd => rfl); (case hg => rfl); (case hr => first | (go_simp; done) | (go_simp; rfl))
                                                                  intro gb182 hg w85 hbox hb
                                                                  have HS0_ := (hb.cell (World.block_lt_of_cell? _ _ (hHeld.1))).trans (hHeld.1)
                                                                  have HS1_ := (hb.cell (World.block_lt_of_cell? _ _ (hHeld.2.1))).trans (hHeld.2.1)
                                                                  have HS2_ := (hb.cell (World.block_lt_of_cell? _ _ (hHeld.2.2.1))).trans (hHeld.2.2.1)
                                                                  have HS3_ := (hb.cell (World.block_lt_of_cell? _ _ (hHeld.2.2.2.1))).trans (hHeld.2.2.2.1)
                                                                  have HS4_ := (hb.cell (World.block_lt_of_cell? _ _ (hHeld.2.2.2.2))).trans (hHeld.2.2.2.2)
                                                                  have n0_ := Aside0.mk (Kd.R_below (by (with_reducible repeat (first | apply Kd.R_alloc | apply Kd.R_drewN | apply Kd.R_drew)); exact HO_5.out) hb)
                                                                  have n1_ := Aside0.mk (Kd.R_below (by (with_reducible repeat (first | apply Kd.R_alloc | apply Kd.R_drewN | apply Kd.R_drew)); exact HO_6.out) hb)
                                                                  have n2_ := Aside0.mk (Kd.R_below (Kd.R_elderB (by (with_reducible repeat (first | apply Kd.R_alloc | apply Kd.R_drewN | apply Kd.R_drew)); exact HO_9.out) gb182 (Nat.le_of_eq hg.symm)) hb)
                                                                  have n3_ := Aside0.mk (Kd.R_below (Kd.R_elderB (by (with_reducible repeat (first | apply Kd.R_alloc | apply Kd.R_drewN | apply Kd.R_drew)); exact HO_10.out) gb182 (Nat.le_of_eq hg.symm)) hb)
                                                                  have n4_ := Aside0.mk (below_step (by repeat (first | (with_reducible first | exact HB.out | apply below_alloc | apply pw_below_drewN | apply below_drew1) | exact HB.out)) hb)
                                                                  have n5_ := Aside0.mk (hbox)
                                                                  have n6_ := Aside0.mk ((by rw [hg]; exact (below_size (by repeat (first | (with_reducible first | exact HB.out | apply below_alloc | apply pw_below_drewN | apply below_drew1) | exact HB.out))) : w.heap.size ≤ gb182))
                                                                  have n7_ := Aside0.mk ((by rw [hg]; exact (below_size (by repeat (first | (with_reducible first | exact HB.out | apply below_alloc | apply pw_below_drewN | apply below_drew1) | exact HB.out))) : w.heap.size ≤ gb182))
                                                                  clear HO_5
                                                                  clear HO_6
                                                                  clear HO_9
                                                                  clear HO_10
                                                                  clear HB
                                                                  have HO_5 := n0_
                                                                  have HO_6 := n1_
                                                                  have HO_9 := n2_
                                                                  have HO_10 := n3_
                                                                  have HB := n4_
                                                                  have BK182 := n5_
                                                                  have GW182 := n6_
                                                                  have GE182 := n7_
                                                                  clear n0_ n1_ n2_ n3_ n4_ n5_ n6_ n7_
                                                                  clear hb hbox hg
                                                                  refine hK.out _ _ ⟨HS0_, HS1_, HS2_, HS3_, HS4_⟩ (fun hHeld => ?_)
                                                                  clear hK K
                                                                  refine norm_ (a' := ?_) ?_ ?_
                                                                  rotate_left
                                                                  · show Act.put _ (some 13) _ = _
                                                                    simp only [Act.put, List.setIfInBounds_toArray, List.set_cons_zero, List.set_cons_succ, i64_w, i32_w]
                                                                    rfl
                                                                  refine one_ (i := 15) (N := some 110) #[true, true, true, true, true, true, true, true, true, true, true, true, true, true, true, true, false, false, false, true, false, false] rfl rfl (one_of HT_.out (by kernel_rfl)) (by decide) (fun K hK => ?_)
                                                                  refine goes_ Try.func50 (by kernel_rfl) rfl #[.int .i64 ((rd_T35 x10_2 ((rd_T32 l0 x11_2).f0)).f0), .int .i64 (wrap64 (((rd_T35 x10_2 ((rd_T32 l0 x11_2).f0)).f1) * (rd x6_1 ((rd_T32 l0 x11_2).f0))))] (by rfl) rfl rfl (by (try simp only [List.map_toArray, List.map_cons, List.map_nil]); first | done | rfl | (simp only [List.length_drop, List.length_take]; rfl)) ?_
                                                                  with_reducible refine (part_Of.calls kj54 ((rd_T35 x10_2 ((rd_T32 l0 x11_2).f0)).f0) (wrap64 (((rd_T35 x10_2 ((rd_T32 l0 x11_2).f0)).f1) * (rd x6_1 ((rd_T32 l0 x11_2).f0)))) t179 t180 t181 _ A72.out).mono ?_
                                                                  rintro e w86 ⟨rfl, hb⟩
                                                                  have HS0_ := (hb.cell (World.block_lt_of_cell? _ _ (hHeld.1))).trans (hHeld.1)
                                                                  have HS1_ := (hb.cell (World.block_lt_of_cell? _ _ (hHeld.2.1))).trans (hHeld.2.1)
                                                                  have HS2_ := (hb.cell (World.block_lt_of_cell? _ _ (hHeld.2.2.1))).trans (hHeld.2.2.1)
                                                                  have HS3_ := (hb.cell (World.block_lt_of_cell? _ _ (hHeld.2.2.2.1))).trans (hHeld.2.2.2.1)
                                                                  have HS4_ := (hb.cell (World.block_lt_of_cell? _ _ (hHeld.2.2.2.2))).trans (hHeld.2.2.2.2)
                                                                  refine ⟨_, rfl, ?_⟩
                                                                  have n0_ := Aside0.mk (Kd.R_below (by (with_reducible repeat (first | apply Kd.R_alloc | apply Kd.R_drewN | apply Kd.R_drew)); exact HO_5.out) hb)
                                                                  have n1_ := Aside0.mk (Kd.R_below (by (with_reducible repeat (first | apply Kd.R_alloc | apply Kd.R_drewN | apply Kd.R_drew)); exact HO_6.out) hb)
                                                                  have n2_ := Aside0.mk (Kd.R_below (by (with_reducible repeat (first | apply Kd.R_alloc | apply Kd.R_drewN | apply Kd.R_drew)); exact HO_9.out) hb)
                                                                  have n3_ := Aside0.mk (Kd.R_below (by (with_reducible repeat (first | apply Kd.R_alloc | apply Kd.R_drewN | apply Kd.R_drew)); exact HO_10.out) hb)
                                                                  have n4_ := Aside0.mk (blk_below (g := gb182) (o := .cells #[.int .i64 0, .int .i64 0] 35 (0, 0)) (by (with_reducible repeat (first | refine blk_drewN ?_ _ | refine blk_drew ?_ | refine blk_alloc ?_ _)); exact BK182.out) hb)
                                                                  have n5_ := Aside0.mk (below_step (by repeat (first | (with_reducible first | exact HB.out | apply below_alloc | apply pw_below_drewN | apply below_drew1 | refine below_set ?_ GE182.out) | exact HB.out)) hb)
                                                                  clear HO_5
                                                                  clear HO_6
                                                                  clear HO_9
                                                                  clear HO_10
                                                                  clear BK182
                                                                  clear HB
                                                                  have HO_5 := n0_
                                                                  have HO_6 := n1_
                                                                  have HO_9 := n2_
                                                                  have HO_10 := n3_
                                                                  have BK182 := n4_
                                                                  have HB := n5_
                                                                  clear n0_ n1_ n2_ n3_ n4_ n5_
                                                                  (try clear hb)
                                                                  (try clear hb2)
                                                                  (try clear hk)
                                                                  (try clear hi)
                                                                  refine hK.out _ _ ⟨HS0_, HS1_, HS2_, HS3_, HS4_⟩ (fun hHeld => ?_)
                                                                  clear hK K
                                                                  refine norm_ (a' := ?_) ?_ ?_
                                                                  rotate_left
                                                                  · show Act.put _ (some 110) _ = _
                                                                    simp only [Act.put, List.setIfInBounds_toArray, List.set_cons_zero, List.set_cons_succ, i64_w, i32_w]
                                                                    rfl
                                                                  refine pure_ (i := 16) (N := some 94) (v := ?_) (a' := ?_) #[true, true, true, true, true, true, true, true, true, true, true, true, true, true, true, true, true, false, false, true, false, false] rfl rfl (any_of HT_.out (by kernel_rfl)) (fun _ _ _ h => h) (Or.inl ⟨by rfl, ?_⟩) ?_ ?_
                                                                  rotate_left
                                                                  · intro w'
                                                                    go_simp
                                                                    with_reducible rfl
                                                                  rotate_left
                                                                  · simp only [Act.put, List.setIfInBounds_toArray, List.set_cons_zero, List.set_cons_succ, i64_w, i32_w]
                                                                    rfl
                                                                  refine pure_ (i := 17) (N := some 111) (v := ?_) (a' := ?_) #[true, true, true, true, true, true, true, true, true, true, true, true, true, true, true, true, true, true, false, true, false, false] rfl rfl (any_of HT_.out (by kernel_rfl)) (fun _ _ _ h => h) (Or.inl ⟨by rfl, ?_⟩) ?_ ?_
                                                                  rotate_left
                                                                  · intro w'
                                                                    go_simp
                                                                    with_reducible rfl
                                                                  rotate_left
                                                                  · simp only [Act.put, List.setIfInBounds_toArray, List.set_cons_zero, List.set_cons_succ, i64_w, i32_w]
                                                                    rfl
                                                                  refine pure_ (i := 18) (N := some 112) (v := ?_) (a' := ?_) #[true, true, true, true, true, true, true, true, true, true, true, true, true, true, true, true, true, true, true, true, false, false] rfl rfl (any_of HT_.out (by kernel_rfl)) (fun _ _ _ h => h) (Or.inl ⟨by rfl, ?_⟩) ?_ ?_
                                                                  rotate_left
                                                                  · intro w'
                                                                    go_simp
                                                                    with_reducible rfl
                                                                  rotate_left
                                                                  · simp only [Act.put, List.setIfInBounds_toArray, List.set_cons_zero, List.set_cons_succ, i64_w, i32_w]
                                                                    rfl
                                                                  exact norm_ (by simp only [putAll, Act.put, List.setIfInBounds_toArray, List.set_cons_zero, List.set_cons_succ]) (hCont (gb182) _ ⟨hHeld, (by (with_reducible repeat (first | apply Kd.R_alloc | apply Kd.R_drewN | apply Kd.R_drew)); exact HO_10.out), (by (with_reducible repeat (first | apply Kd.R_alloc | apply Kd.R_drewN | apply Kd.R_drew)); exact HO_5.out), (by (with_reducible repeat (first | apply Kd.R_alloc | apply Kd.R_drewN | apply Kd.R_drew)); exact HO_6.out), (by (with_reducible repeat (first | apply Kd.R_alloc | apply Kd.R_drewN | apply Kd.R_drew)); exact HO_9.out), (by (with_reducible repeat (first | refine blk_drewN ?_ _ | refine blk_drew ?_ | refine blk_alloc ?_ _)); exact BK182.out), GW182.out, GE182.out, (by repeat (first | (with_reducible first | exact HB.out | apply below_alloc | apply pw_below_drewN | apply below_drew1 | refine below_set ?_ GE182.out) | exact HB.out))⟩)
                                                              rintro gb182 w87 ⟨hS_, h0_, h1_, h2_, h3_, h4_, h5_, h6_, h7_⟩
                                                              have n0_ : Aside0 (Kd.R k35 35 w87 w.heap.size (fun k_ => some k_ ≠ (.slice (some ⟨go40, 0, none⟩) y172.length co40 : Value).ownBlock ∧ k_ ≠ gb182) (.slice (some ⟨go42, 0, none⟩) x10_2.length co42) x10_2) := ⟨h0_⟩
                                                              have n1_ : Aside0 (Kd.R Kd.bool 4 w87 w.heap.size (fun _ => True) (.slice (some ad150) t147.length co13) t147) := ⟨h1_⟩
                                                              have n2_ : Aside0 (Kd.R (Kd.int .i64) 3 w87 w.heap.size (fun _ => True) (.slice (some ad178) x6_1.length co84) x6_1) := ⟨h2_⟩
                                                              have n3_ : Aside0 (Kd.R k35 35 w87 w.heap.size (fun k_ => some k_ ≠ (.slice (some ⟨go42, 0, none⟩) x10_2.length co42 : Value).ownBlock ∧ k_ ≠ gb182) (.slice (some ⟨go40, 0, none⟩) y172.length co40) y172) := ⟨h3_⟩
                                                              have n4_ : Aside0 (w87.heap[gb182]? = some (.cells #[.int .i64 0, .int .i64 0] 35 (0, 0))) := ⟨h4_⟩
                                                              have n5_ : Aside0 (w.heap.size ≤ gb182) := ⟨h5_⟩
                                                              have n6_ : Aside0 (w.heap.size ≤ gb182) := ⟨h6_⟩
                                                              have n7_ : Aside0 (Below w.heap.size w w87) := ⟨h7_⟩
                                                              clear HO_5
                                                              clear HO_6
                                                              clear HO_9
                                                              clear HO_10
                                                              clear HB
                                                              clear h0_ h1_ h2_ h3_ h4_ h5_ h6_ h7_
                                                              have HO_10 := n0_
                                                              have HO_5 := n1_
                                                              have HO_6 := n2_
                                                              have HO_9 := n3_
                                                              have BK182 := n4_
                                                              have GW182 := n5_
                                                              have GE182 := n6_
                                                              have HB := n7_
                                                              clear n0_ n1_ n2_ n3_ n4_ n5_ n6_ n7_
                                                              have hHeld : w87.cell? ⟨go42, (((rd_T32 l0 x11_2).f0)).toNat * 2, none⟩ = some (.int .i64 ((rd_T35 x10_2 ((rd_T32 l0 x11_2).f0)).f0)) ∧ w87.cell? ⟨go42, (((rd_T32 l0 x11_2).f0)).toNat * 2 + 1, none⟩ = some (.int .i64 ((rd_T35 x10_2 ((rd_T32 l0 x11_2).f0)).f1)) ∧ w87.cell? ⟨go42, (((rd_T32 l0 x11_2).f0)).toNat * 2, none⟩ = some (.int .i64 ((rd_T35 x10_2 ((rd_T32 l0 x11_2).f0)).f0)) ∧ w87.cell? ⟨go42, (((rd_T32 l0 x11_2).f0)).toNat * 2 + 1, none⟩ = some (.int .i64 ((rd_T35 x10_2 ((rd_T32 l0 x11_2).f0)).f1)) ∧ w87.cell? (ad178.add (((rd_T32 l0 x11_2).f0)).toNat) = some (.int .i64 (rd x6_1 ((rd_T32 l0 x11_2).f0))) := hS_
                                                              refine norm_ (a' := ?_) ?_ ?_
                                                              rotate_left
                                                              · simp only [putAll, Act.put, List.setIfInBounds_toArray, List.set_cons_zero, List.set_cons_succ]
                                                                rfl
                                                              refine one_ (i := 20) (N := none) #[true, true, true, true, true, true, true, true, true, true, true, true, true, true, true, true, true, true, true, true, true, false] rfl rfl (one_of HT_.out (by kernel_rfl)) (by decide) (fun K hK => ?_)
                                                              have hs88 : w87.cell? ⟨gb182, 0, none⟩ = some (.int .i64 0) := (blk_cell BK182.out 0).trans rfl
                                                              have hfs88 := blk_frozen BK182.out 0
                                                              have hs89 : w87.cell? ⟨gb182, 1, none⟩ = some (.int .i64 0) := (blk_cell BK182.out 1).trans rfl
                                                              have hfs89 := blk_frozen BK182.out 1
                                                              refine skip_ (w1 := ?_) (by rfl) rfl ?_ ?_
                                                              rotate_left
                                                              · go_simp
                                                                rfl
                                                              refine hK.out _ _ ⟨((cell_far (p := ⟨gb182, _, none⟩) (by first | (dsimp only; exact Kd.own_blk (Kd.R_away HO_10.out (fun _ hk => hk.2))) | exact Kd.own_blk (Kd.R_away HO_10.out (fun _ hk => hk.2)) | (rw [add_block]; exact Kd.own_blk (Kd.R_away HO_10.out (fun _ hk => hk.2))) | (show (Addr.add _ _).block ≠ _; rw [add_block]; exact Kd.own_blk (Kd.R_away HO_10.out (fun _ hk => hk.2)))) _).trans (((cell_far (p := ⟨gb182, _, none⟩) (by first | (dsimp only; exact Kd.own_blk (Kd.R_away HO_10.out (fun _ hk => hk.2))) | exact Kd.own_blk (Kd.R_away HO_10.out (fun _ hk => hk.2)) | (rw [add_block]; exact Kd.own_blk (Kd.R_away HO_10.out (fun _ hk => hk.2))) | (show (Addr.add _ _).block ≠ _; rw [add_block]; exact Kd.own_blk (Kd.R_away HO_10.out (fun _ hk => hk.2)))) _).trans (hHeld.1)))), ((cell_far (p := ⟨gb182, _, none⟩) (by first | (dsimp only; exact Kd.own_blk (Kd.R_away HO_10.out (fun _ hk => hk.2))) | exact Kd.own_blk (Kd.R_away HO_10.out (fun _ hk => hk.2)) | (rw [add_block]; exact Kd.own_blk (Kd.R_away HO_10.out (fun _ hk => hk.2))) | (show (Addr.add _ _).block ≠ _; rw [add_block]; exact Kd.own_blk (Kd.R_away HO_10.out (fun _ hk => hk.2)))) _).trans (((cell_far (p := ⟨gb182, _, none⟩) (by first | (dsimp only; exact Kd.own_blk (Kd.R_away HO_10.out (fun _ hk => hk.2))) | exact Kd.own_blk (Kd.R_away HO_10.out (fun _ hk => hk.2)) | (rw [add_block]; exact Kd.own_blk (Kd.R_away HO_10.out (fun _ hk => hk.2))) | (show (Addr.add _ _).block ≠ _; rw [add_block]; exact Kd.own_blk (Kd.R_away HO_10.out (fun _ hk => hk.2)))) _).trans (hHeld.2.1)))), ((cell_far (p := ⟨gb182, _, none⟩) (by first | (dsimp only; exact Kd.own_blk (Kd.R_away HO_10.out (fun _ hk => hk.2))) | exact Kd.own_blk (Kd.R_away HO_10.out (fun _ hk => hk.2)) | (rw [add_block]; exact Kd.own_blk (Kd.R_away HO_10.out (fun _ hk => hk.2))) | (show (Addr.add _ _).block ≠ _; rw [add_block]; exact Kd.own_blk (Kd.R_away HO_10.out (fun _ hk => hk.2)))) _).trans (((cell_far (p := ⟨gb182, _, none⟩) (by first | (dsimp only; exact Kd.own_blk (Kd.R_away HO_10.out (fun _ hk => hk.2))) | exact Kd.own_blk (Kd.R_away HO_10.out (fun _ hk => hk.2)) | (rw [add_block]; exact Kd.own_blk (Kd.R_away HO_10.out (fun _ hk => hk.2))) | (show (Addr.add _ _).block ≠ _; rw [add_block]; exact Kd.own_blk (Kd.R_away HO_10.out (fun _ hk => hk.2)))) _).trans (hHeld.2.2.1)))), ((cell_far (p := ⟨gb182, _, none⟩) (by first | (dsimp only; exact Kd.own_blk (Kd.R_away HO_10.out (fun _ hk => hk.2))) | exact Kd.own_blk (Kd.R_away HO_10.out (fun _ hk => hk.2)) | (rw [add_block]; exact Kd.own_blk (Kd.R_away HO_10.out (fun _ hk => hk.2))) | (show (Addr.add _ _).block ≠ _; rw [add_block]; exact Kd.own_blk (Kd.R_away HO_10.out (fun _ hk => hk.2)))) _).trans (((cell_far (p := ⟨gb182, _, none⟩) (by first | (dsimp only; exact Kd.own_blk (Kd.R_away HO_10.out (fun _ hk => hk.2))) | exact Kd.own_blk (Kd.R_away HO_10.out (fun _ hk => hk.2)) | (rw [add_block]; exact Kd.own_blk (Kd.R_away HO_10.out (fun _ hk => hk.2))) | (show (Addr.add _ _).block ≠ _; rw [add_block]; exact Kd.own_blk (Kd.R_away HO_10.out (fun _ hk => hk.2)))) _).trans (hHeld.2.2.2.1)))), ((cell_far (p := ⟨gb182, _, none⟩) (by first | (dsimp only; exact Kd.own_blk (Kd.R_ne HO_6.out BK182.out (by decide))) | exact Kd.own_blk (Kd.R_ne HO_6.out BK182.out (by decide)) | (rw [add_block]; exact Kd.own_blk (Kd.R_ne HO_6.out BK182.out (by decide))) | (show (Addr.add _ _).block ≠ _; rw [add_block]; exact Kd.own_blk (Kd.R_ne HO_6.out BK182.out (by decide)))) _).trans (((cell_far (p := ⟨gb182, _, none⟩) (by first | (dsimp only; exact Kd.own_blk (Kd.R_ne HO_6.out BK182.out (by decide))) | exact Kd.own_blk (Kd.R_ne HO_6.out BK182.out (by decide)) | (rw [add_block]; exact Kd.own_blk (Kd.R_ne HO_6.out BK182.out (by decide))) | (show (Addr.add _ _).block ≠ _; rw [add_block]; exact Kd.own_blk (Kd.R_ne HO_6.out BK182.out (by decide)))) _).trans (hHeld.2.2.2.2))))⟩ (fun hHeld => ?_)
                                                              clear hK K
                                                              refine pure_ (i := 21) (N := some 14) (v := ?_) (a' := ?_) #[true, true, true, true, true, true, true, true, true, true, true, true, true, true, true, true, true, true, true, true, true, true] rfl rfl (any_of HT_.out (by kernel_rfl)) (fun _ _ _ h => h) (Or.inl ⟨by rfl, ?_⟩) ?_ ?_
                                                              rotate_left
                                                              · intro w'
                                                                go_simp
                                                                with_reducible rfl
                                                              rotate_left
                                                              · simp only [Act.put, List.setIfInBounds_toArray, List.set_cons_zero, List.set_cons_succ, i64_w, i32_w]
                                                                rfl
                                                              refine done_ (done_of HT_.out (by kernel_rfl)) ?_
                                                              have n0_ : Aside0 (Kd.R Kd.bool 4 ((w87.setCell ⟨gb182, 0, none⟩ (.int .i64 t179)).setCell ⟨gb182, 1, none⟩ (.int .i64 t180)) w.heap.size (fun _ => True) (.slice (some ad150) t147.length co13) t147) := ⟨by (with_reducible repeat (first | apply Kd.R_alloc | apply Kd.R_drewN | apply Kd.R_drew)); exact Kd.R_mono (Kd.R_far (p := ⟨gb182, 1, none⟩) (Kd.R_far (p := ⟨gb182, 0, none⟩) (Kd.R_types HO_5.out BK182.out (by decide)) (fun _ hk => hk.2) (.int .i64 t179)) (fun _ hk => hk.2) (.int .i64 t180)) (fun _ hk => trivial)⟩
                                                              have n1_ : Aside0 (Kd.R (Kd.int .i64) 3 ((w87.setCell ⟨gb182, 0, none⟩ (.int .i64 t179)).setCell ⟨gb182, 1, none⟩ (.int .i64 t180)) w.heap.size (fun _ => True) (.slice (some ad178) x6_1.length co84) x6_1) := ⟨by (with_reducible repeat (first | apply Kd.R_alloc | apply Kd.R_drewN | apply Kd.R_drew)); exact Kd.R_mono (Kd.R_far (p := ⟨gb182, 1, none⟩) (Kd.R_far (p := ⟨gb182, 0, none⟩) (Kd.R_types HO_6.out BK182.out (by decide)) (fun _ hk => hk.2) (.int .i64 t179)) (fun _ hk => hk.2) (.int .i64 t180)) (fun _ hk => trivial)⟩
                                                              have n2_ : Aside0 (Kd.R k35 35 ((w87.setCell ⟨gb182, 0, none⟩ (.int .i64 t179)).setCell ⟨gb182, 1, none⟩ (.int .i64 t180)) w.heap.size (fun k_ => some k_ ≠ (.slice (some ⟨go42, 0, none⟩) x10_2.length co42 : Value).ownBlock ∧ k_ ≠ gb182) (.slice (some ⟨go40, 0, none⟩) y172.length co40) y172) := ⟨by (with_reducible repeat (first | apply Kd.R_alloc | apply Kd.R_drewN | apply Kd.R_drew)); exact Kd.R_mono (Kd.R_far (p := ⟨gb182, 1, none⟩) (Kd.R_far (p := ⟨gb182, 0, none⟩) (Kd.R_mono HO_9.out (fun k_ hk => (⟨hk, hk.2⟩ : _ ∧ k_ ≠ gb182))) (fun _ hk => hk.2) (.int .i64 t179)) (fun _ hk => hk.2) (.int .i64 t180)) (fun _ hk => ⟨hk.1.1, hk.1.2⟩)⟩
                                                              have n3_ : Aside0 (Kd.R k35 35 ((w87.setCell ⟨gb182, 0, none⟩ (.int .i64 t179)).setCell ⟨gb182, 1, none⟩ (.int .i64 t180)) w.heap.size (fun k_ => some k_ ≠ (.slice (some ⟨go40, 0, none⟩) y172.length co40 : Value).ownBlock ∧ k_ ≠ gb182) (.slice (some ⟨go42, 0, none⟩) x10_2.length co42) x10_2) := ⟨by (with_reducible repeat (first | apply Kd.R_alloc | apply Kd.R_drewN | apply Kd.R_drew)); exact Kd.R_mono (Kd.R_far (p := ⟨gb182, 1, none⟩) (Kd.R_far (p := ⟨gb182, 0, none⟩) (Kd.R_mono HO_10.out (fun k_ hk => (⟨hk, hk.2⟩ : _ ∧ k_ ≠ gb182))) (fun _ hk => hk.2) (.int .i64 t179)) (fun _ hk => hk.2) (.int .i64 t180)) (fun _ hk => ⟨hk.1.1, hk.1.2⟩)⟩
                                                              have n4_ : Aside0 (((w87.setCell ⟨gb182, 0, none⟩ (.int .i64 t179)).setCell ⟨gb182, 1, none⟩ (.int .i64 t180)).heap[gb182]? = some (.cells #[.int .i64 t179, .int .i64 t180] 35 (0, 0))) := ⟨by (with_reducible repeat (first | refine blk_drewN ?_ _ | refine blk_drew ?_ | refine blk_alloc ?_ _)); refine blk_put (cs := #[.int .i64 t179, .int .i64 0]) ?_ 1 _ rfl; (with_reducible repeat (first | refine blk_drewN ?_ _ | refine blk_drew ?_ | refine blk_alloc ?_ _)); refine blk_put (cs := #[.int .i64 0, .int .i64 0]) ?_ 0 _ rfl; (with_reducible repeat (first | refine blk_drewN ?_ _ | refine blk_drew ?_ | refine blk_alloc ?_ _)); exact BK182.out⟩
                                                              have n5_ : Aside0 (Below w.heap.size w ((w87.setCell ⟨gb182, 0, none⟩ (.int .i64 t179)).setCell ⟨gb182, 1, none⟩ (.int .i64 t180))) := ⟨by repeat (first | (with_reducible first | exact HB.out | apply below_alloc | apply pw_below_drewN | apply below_drew1 | refine below_set ?_ GE182.out) | exact HB.out)⟩
                                                              (try clear HO_5)
                                                              (try clear HO_6)
                                                              (try clear HO_9)
                                                              (try clear HO_10)
                                                              (try clear BK182)
                                                              (try clear HB)
                                                              generalize ((w87.setCell ⟨gb182, 0, none⟩ (.int .i64 t179)).setCell ⟨gb182, 1, none⟩ (.int .i64 t180)) = w90 at n0_ n1_ n2_ n3_ n4_ n5_ ⊢
                                                              have HO_5 := n0_
                                                              have HO_6 := n1_
                                                              have HO_9 := n2_
                                                              have HO_10 := n3_
                                                              have BK182 := n4_
                                                              have HB := n5_
                                                              clear n0_ n1_ n2_ n3_ n4_ n5_
                                                              have hcz91_0 : w90.cell? ⟨gb182, 0, none⟩ = some (.int .i64 t179) := (blk_cell BK182.out 0).trans rfl
                                                              have hcz91_1 : w90.cell? ⟨gb182, 1, none⟩ = some (.int .i64 t180) := (blk_cell BK182.out 1).trans rfl
                                                              have hfz91_0 := blk_frozen BK182.out 0
                                                              have hfz91_1 := blk_frozen BK182.out 1
                                                              have p76 : 0 ≤ (x11_2 : Int) := of_decide_eq_true (by first | (with_reducible assumption) | assumption)
                                                              have q76 : (x11_2 : Int) < ((x10_2.length : Int) : Int) := of_decide_eq_true (by first | (with_reducible assumption) | assumption)
                                                              obtain ⟨ce76, hcl76, hM76, hcc76, hfr76⟩ := Kd.R_elem HO_10.out z35 (x11_2 : Int) p76 q76
                                                              obtain rfl := k35_openM hM76
                                                              have hx76_0 : w90.cell? ⟨go42, (x11_2 : Int).toNat * 2, none⟩ = some (.int .i64 ((rd_T35 x10_2 x11_2).f0)) := hcc76 0 _ rfl
                                                              have hx76_1 : w90.cell? ⟨go42, (x11_2 : Int).toNat * 2 + 1, none⟩ = some (.int .i64 ((rd_T35 x10_2 x11_2).f1)) := hcc76 1 _ rfl
                                                              have hf76_0 : w90.frozen? ⟨go42, (x11_2 : Int).toNat * 2, none⟩ = false := hfr76 0
                                                              have hf76_1 : w90.frozen? ⟨go42, (x11_2 : Int).toNat * 2 + 1, none⟩ = false := hfr76 1
                                                              clear hcl76 hcc76 hfr76 hM76
                                                              replace p76 := eq_true p76
                                                              replace q76 := eq_true q76
                                                              have HX92 := Aside0.mk (show Kd.R k35 35 w90 w.heap.size (fun k_ => some k_ ≠ (.slice (some ⟨go40, 0, none⟩) y172.length co40 : Value).ownBlock ∧ k_ ≠ gb182) (.slice (some ⟨go42, 0, none⟩) x10_2.length co42) x10_2 from (by (with_reducible repeat (first | apply Kd.R_alloc | apply Kd.R_drewN | apply Kd.R_drew)); exact HO_10.out))
                                                              obtain ⟨ce92, hcl92, hM92, hcc92, hfr92⟩ := Kd.R_elem HX92.out z35 (x11_2 : Int) (of_decide_eq_true (by first | (with_reducible assumption) | assumption)) (by have h_ : (x11_2 : Int) < ((x10_2.length : Int) : Int) := of_decide_eq_true (by first | (with_reducible assumption) | assumption); first | exact h_ | (have e_ := (Kd.R_reads' HO_10.out).1; omega) | simpa using h_)
                                                              obtain rfl := k35_openM hM92
                                                              have HP92 := Kd.R_seg HX92.out (x11_2 : Int) (of_decide_eq_true (by first | (with_reducible assumption) | assumption)) (by have h_ : (x11_2 : Int) < ((x10_2.length : Int) : Int) := of_decide_eq_true (by first | (with_reducible assumption) | assumption); first | exact h_ | (have e_ := (Kd.R_reads' HO_10.out).1; omega) | simpa using h_) (seg := [.int .i64 t179, .int .i64 t180]) (j := 0) hcl92 hcc92 (show 2 ≤ 2 from by decide) (x' := (⟨t179, t180⟩ : S35)) (k35_mkM _ _ _ (⟨t179, t180⟩ : S35) ) (fun _ hk => hk)
                                                              have hx92_0 := hcc92 0 _ rfl
                                                              (try simp only [show (k35).sz = 2 from rfl, Nat.mul_one, Nat.add_zero] at hx92_0)
                                                              have hf92_0 := hfr92 0
                                                              (try simp only [show (k35).sz = 2 from rfl, Nat.mul_one, Nat.add_zero] at hf92_0)
                                                              have hx92_1 := hcc92 1 _ rfl
                                                              (try simp only [show (k35).sz = 2 from rfl, Nat.mul_one, Nat.add_zero] at hx92_1)
                                                              have hf92_1 := hfr92 1
                                                              (try simp only [show (k35).sz = 2 from rfl, Nat.mul_one, Nat.add_zero] at hf92_1)
                                                              clear hcl92 hcc92 hfr92 hM92
                                                              try go_wp2_with (first | ((with_reducible refine gate_store (t := 35) (p := 119) rfl ?_); refine store_event (t := 35) (p := 119) (v := ?vo_w93) (w1 := ((w90.setCell ⟨go42, (x11_2 : Int).toNat * 2, none⟩ (.int .i64 t179)).setCell ⟨go42, (x11_2 : Int).toNat * 2 + 1, none⟩ (.int .i64 t180))) ?hg ?ho ?hn ?hr ?_; (case ho => rfl); (case hg => rfl); (case hn => rfl); (case hr => first | (go_simp; done) | (go_simp; rfl)); intro w93 hw; have hg : w90.grownBy w93 (some go42) := (by rw [hw]; exact HP92.2); have hp_ : Kd.R k35 35 w93 w.heap.size (fun k_ => some k_ ≠ (.slice (some ⟨go40, 0, none⟩) y172.length co40 : Value).ownBlock ∧ k_ ≠ gb182) (.slice (some ⟨go42, 0, none⟩) x10_2.length co42) y183 := (by rw [hw, Ny183.out]; exact HP92.1); clear HP92; have n0_ := Aside0.mk (Kd.R_over' (v := (.slice (some ⟨go42, 0, none⟩) x10_2.length co42)) (by (with_reducible repeat (first | apply Kd.R_alloc | apply Kd.R_drewN | apply Kd.R_drew)); exact HO_5.out) (Kd.R_typed HO_10.out) (by decide) hg); have n1_ := Aside0.mk (Kd.R_over' (v := (.slice (some ⟨go42, 0, none⟩) x10_2.length co42)) (by (with_reducible repeat (first | apply Kd.R_alloc | apply Kd.R_drewN | apply Kd.R_drew)); exact HO_6.out) (Kd.R_typed HO_10.out) (by decide) hg); have n2_ := Aside0.mk (Kd.R_after (v := (.slice (some ⟨go42, 0, none⟩) x10_2.length co42)) (v1 := (.slice (some ⟨go42, 0, none⟩) x10_2.length co42)) (ok := (fun k_ => k_ ≠ gb182)) (by (with_reducible repeat (first | apply Kd.R_alloc | apply Kd.R_drewN | apply Kd.R_drew)); exact Kd.R_mono HO_9.out (fun _ hk => ⟨hk.2, hk.1⟩)) hg (.inl rfl)); have n3_ := Aside0.mk (hp_); have n4_ := Aside0.mk (blk_grown (g := gb182) (o := .cells #[.int .i64 t179, .int .i64 t180] 35 (0, 0)) (by (with_reducible repeat (first | refine blk_drewN ?_ _ | refine blk_drew ?_ | refine blk_alloc ?_ _)); exact BK182.out) hg (Kd.R_away HO_10.out (fun _ hk => hk.2))); have n5_ := Aside0.mk ((by rw [hw]; exact below_set (below_set (HB.out) GB42.out) GB42.out : Below w.heap.size w w93)); clear HO_5; clear HO_6; clear HO_9; clear HO_10; clear BK182; clear HB; have HO_5 := n0_; have HO_6 := n1_; have HO_9 := n2_; have HO_10 := n3_; have BK182 := n4_; have HB := n5_; clear n0_ n1_ n2_ n3_ n4_ n5_; clear hg hw hp_; have p184 : 0 ≤ (x11_2 : Int) := of_decide_eq_true (by first | (with_reducible assumption) | assumption); have q184 : x11_2 < (l0.length : Int) := of_decide_eq_true (by first | (with_reducible assumption) | assumption); obtain ⟨ad184, e184, hx184_0, hx184_1⟩ := at_T32 HR0.out x11_2 p184 q184; (try rw [← Nbq6.out] at hx184_1); (try rw [← Nbq78.out] at hx184_1); obtain rfl : ad171 = ad184 := (by injection e184); replace hx184_0 := (HB.out.cell (World.block_lt_of_cell? w _ hx184_0)).trans hx184_0; replace hx184_1 := (HB.out.cell (World.block_lt_of_cell? w _ hx184_1)).trans hx184_1; replace p184 := eq_true p184; replace q184 := eq_true q184; have hcz94_0 : w93.cell? ⟨gb182, 0, none⟩ = some (.int .i64 t179) := (blk_cell BK182.out 0).trans rfl; have hcz94_1 : w93.cell? ⟨gb182, 1, none⟩ = some (.int .i64 t180) := (blk_cell BK182.out 1).trans rfl; have hfz94_0 := blk_frozen BK182.out 0; have hfz94_1 := blk_frozen BK182.out 1; have p81 : 0 ≤ (x11_2 : Int) := of_decide_eq_true (by first | (with_reducible assumption) | assumption); have q81 : (x11_2 : Int) < ((y172.length : Int) : Int) := of_decide_eq_true (by first | (with_reducible assumption) | assumption); obtain ⟨ce81, hcl81, hM81, hcc81, hfr81⟩ := Kd.R_elem HO_9.out z35 (x11_2 : Int) p81 q81; obtain rfl := k35_openM hM81; have hx81_0 : w93.cell? ⟨go40, (x11_2 : Int).toNat * 2, none⟩ = some (.int .i64 ((rd_T35 y172 x11_2).f0)) := hcc81 0 _ rfl; have hx81_1 : w93.cell? ⟨go40, (x11_2 : Int).toNat * 2 + 1, none⟩ = some (.int .i64 ((rd_T35 y172 x11_2).f1)) := hcc81 1 _ rfl; have hf81_0 : w93.frozen? ⟨go40, (x11_2 : Int).toNat * 2, none⟩ = false := hfr81 0; have hf81_1 : w93.frozen? ⟨go40, (x11_2 : Int).toNat * 2 + 1, none⟩ = false := hfr81 1; clear hcl81 hcc81 hfr81 hM81; replace p81 := eq_true p81; replace q81 := eq_true q81; have HX95 := Aside0.mk (show Kd.R k35 35 w93 w.heap.size (fun k_ => some k_ ≠ (.slice (some ⟨go42, 0, none⟩) x10_2.length co42 : Value).ownBlock ∧ k_ ≠ gb182) (.slice (some ⟨go40, 0, none⟩) y172.length co40) y172 from (by (with_reducible repeat (first | apply Kd.R_alloc | apply Kd.R_drewN | apply Kd.R_drew)); exact Kd.R_mono HO_9.out (fun _ hk => ⟨hk.2, hk.1⟩))); obtain ⟨ce95, hcl95, hM95, hcc95, hfr95⟩ := Kd.R_elem HX95.out z35 (x11_2 : Int) (of_decide_eq_true (by first | (with_reducible assumption) | assumption)) (by have h_ : (x11_2 : Int) < ((y172.length : Int) : Int) := of_decide_eq_true (by first | (with_reducible assumption) | assumption); first | exact h_ | (have e_ := (Kd.R_reads' HO_9.out).1; omega) | simpa using h_); obtain rfl := k35_openM hM95; have HP95 := Kd.R_seg HX95.out (x11_2 : Int) (of_decide_eq_true (by first | (with_reducible assumption) | assumption)) (by have h_ : (x11_2 : Int) < ((y172.length : Int) : Int) := of_decide_eq_true (by first | (with_reducible assumption) | assumption); first | exact h_ | (have e_ := (Kd.R_reads' HO_9.out).1; omega) | simpa using h_) (seg := [.int .i64 t179, .int .i64 t180]) (j := 0) hcl95 hcc95 (show 2 ≤ 2 from by decide) (x' := (⟨t179, t180⟩ : S35)) (k35_mkM _ _ _ (⟨t179, t180⟩ : S35) ) (fun _ hk => hk); have hx95_0 := hcc95 0 _ rfl; (try simp only [show (k35).sz = 2 from rfl, Nat.mul_one, Nat.add_zero] at hx95_0); have hf95_0 := hfr95 0; (try simp only [show (k35).sz = 2 from rfl, Nat.mul_one, Nat.add_zero] at hf95_0); have hx95_1 := hcc95 1 _ rfl; (try simp only [show (k35).sz = 2 from rfl, Nat.mul_one, Nat.add_zero] at hx95_1); have hf95_1 := hfr95 1; (try simp only [show (k35).sz = 2 from rfl, Nat.mul_one, Nat.add_zero] at hf95_1); clear hcl95 hcc95 hfr95 hM95) | ((with_reducible refine gate_store (t := 35) (p := 131) rfl ?_); refine store_event (t := 35) (p := 131) (v := ?vo_w96) (w1 := ((w93.setCell ⟨go40, (x11_2 : Int).toNat * 2, none⟩ (.int .i64 t179)).setCell ⟨go40, (x11_2 : Int).toNat * 2 + 1, none⟩ (.int .i64 t180))) ?hg ?ho ?hn ?hr ?_; (case ho => rfl); (case hg => rfl); (case hn => rfl); (case hr => first | (go_simp; done) | (go_simp; rfl)); intro w96 hw; have hg : w93.grownBy w96 (some go40) := (by rw [hw]; exact HP95.2); have hp_ : Kd.R k35 35 w96 w.heap.size (fun k_ => some k_ ≠ (.slice (some ⟨go42, 0, none⟩) x10_2.length co42 : Value).ownBlock ∧ k_ ≠ gb182) (.slice (some ⟨go40, 0, none⟩) y172.length co40) y185 := (by rw [hw, Ny185.out]; exact HP95.1); clear HP95; have n0_ := Aside0.mk (Kd.R_over' (v := (.slice (some ⟨go40, 0, none⟩) y172.length co40)) (by (with_reducible repeat (first | apply Kd.R_alloc | apply Kd.R_drewN | apply Kd.R_drew)); exact HO_5.out) (Kd.R_typed HO_9.out) (by decide) hg); have n1_ := Aside0.mk (Kd.R_over' (v := (.slice (some ⟨go40, 0, none⟩) y172.length co40)) (by (with_reducible repeat (first | apply Kd.R_alloc | apply Kd.R_drewN | apply Kd.R_drew)); exact HO_6.out) (Kd.R_typed HO_9.out) (by decide) hg); have n2_ := Aside0.mk (hp_); have n3_ := Aside0.mk (Kd.R_after (v := (.slice (some ⟨go40, 0, none⟩) y172.length co40)) (v1 := (.slice (some ⟨go40, 0, none⟩) y172.length co40)) (ok := (fun k_ => k_ ≠ gb182)) (by (with_reducible repeat (first | apply Kd.R_alloc | apply Kd.R_drewN | apply Kd.R_drew)); exact Kd.R_mono HO_10.out (fun _ hk => ⟨hk.2, hk.1⟩)) hg (.inl rfl)); have n4_ := Aside0.mk (blk_grown (g := gb182) (o := .cells #[.int .i64 t179, .int .i64 t180] 35 (0, 0)) (by (with_reducible repeat (first | refine blk_drewN ?_ _ | refine blk_drew ?_ | refine blk_alloc ?_ _)); exact BK182.out) hg (Kd.R_away HO_9.out (fun _ hk => hk.1))); have n5_ := Aside0.mk ((by rw [hw]; exact below_set (below_set (HB.out) GB40.out) GB40.out : Below w.heap.size w w96)); clear HO_5; clear HO_6; clear HO_9; clear HO_10; clear BK182; clear HB; have HO_5 := n0_; have HO_6 := n1_; have HO_9 := n2_; have HO_10 := n3_; have BK182 := n4_; have HB := n5_; clear n0_ n1_ n2_ n3_ n4_ n5_; clear hg hw hp_; have p82 : 0 ≤ (x11_2 : Int) := of_decide_eq_true (by first | (with_reducible assumption) | assumption); have q82 : (x11_2 : Int) < ((x10_2.length : Int) : Int) := of_decide_eq_true (by first | (with_reducible assumption) | assumption); obtain ⟨ce82, hcl82, hM82, hcc82, hfr82⟩ := Kd.R_elem HO_10.out z35 (x11_2 : Int) p82 q82; obtain rfl := k35_openM hM82; have hx82_0 : w96.cell? ⟨go42, (x11_2 : Int).toNat * 2, none⟩ = some (.int .i64 ((rd_T35 y183 x11_2).f0)) := hcc82 0 _ rfl; have hx82_1 : w96.cell? ⟨go42, (x11_2 : Int).toNat * 2 + 1, none⟩ = some (.int .i64 ((rd_T35 y183 x11_2).f1)) := hcc82 1 _ rfl; have hf82_0 : w96.frozen? ⟨go42, (x11_2 : Int).toNat * 2, none⟩ = false := hfr82 0; have hf82_1 : w96.frozen? ⟨go42, (x11_2 : Int).toNat * 2 + 1, none⟩ = false := hfr82 1; clear hcl82 hcc82 hfr82 hM82; replace p82 := eq_true p82; replace q82 := eq_true q82; have HX97 := Aside0.mk (show Kd.R k35 35 w96 w.heap.size (fun k_ => some k_ ≠ (.slice (some ⟨go40, 0, none⟩) y172.length co40 : Value).ownBlock ∧ k_ ≠ gb182) (.slice (some ⟨go42, 0, none⟩) x10_2.length co42) y183 from (by (with_reducible repeat (first | apply Kd.R_alloc | apply Kd.R_drewN | apply Kd.R_drew)); exact Kd.R_mono HO_10.out (fun _ hk => ⟨hk.2, hk.1⟩))); obtain ⟨ce97, hcl97, hM97, hcc97, hfr97⟩ := Kd.R_elem HX97.out z35 (x11_2 : Int) (of_decide_eq_true (by first | (with_reducible assumption) | assumption)) (by have h_ : (x11_2 : Int) < ((x10_2.length : Int) : Int) := of_decide_eq_true (by first | (with_reducible assumption) | assumption); first | exact h_ | (have e_ := (Kd.R_reads' HO_10.out).1; omega) | simpa using h_); obtain rfl := k35_openM hM97; have HP97 := Kd.R_seg HX97.out (x11_2 : Int) (of_decide_eq_true (by first | (with_reducible assumption) | assumption)) (by have h_ : (x11_2 : Int) < ((x10_2.length : Int) : Int) := of_decide_eq_true (by first | (with_reducible assumption) | assumption); first | exact h_ | (have e_ := (Kd.R_reads' HO_10.out).1; omega) | simpa using h_) (seg := [.int .i64 0, .int .i64 1]) (j := 0) hcl97 hcc97 (show 2 ≤ 2 from by decide) (x' := (⟨0, 1⟩ : S35)) (k35_mkM _ _ _ (⟨0, 1⟩ : S35) ) (fun _ hk => hk); have hx97_0 := hcc97 0 _ rfl; (try simp only [show (k35).sz = 2 from rfl, Nat.mul_one, Nat.add_zero] at hx97_0); have hf97_0 := hfr97 0; (try simp only [show (k35).sz = 2 from rfl, Nat.mul_one, Nat.add_zero] at hf97_0); have hx97_1 := hcc97 1 _ rfl; (try simp only [show (k35).sz = 2 from rfl, Nat.mul_one, Nat.add_zero] at hx97_1); have hf97_1 := hfr97 1; (try simp only [show (k35).sz = 2 from rfl, Nat.mul_one, Nat.add_zero] at hf97_1); clear hcl97 hcc97 hfr97 hM97) | ((with_reducible refine gate_store (t := 35) (p := 132) rfl ?_); refine store_event (t := 35) (p := 132) (v := ?vo_w98) (w1 := ((w96.setCell ⟨go42, (x11_2 : Int).toNat * 2, none⟩ (.int .i64 0)).setCell ⟨go42, (x11_2 : Int).toNat * 2 + 1, none⟩ (.int .i64 1))) ?hg ?ho ?hn ?hr ?_; (case ho => rfl); (case hg => rfl); (case hn => rfl); (case hr => first | (go_simp; done) | (go_simp; rfl)); intro w98 hw; have hg : w96.grownBy w98 (some go42) := (by rw [hw]; exact HP97.2); have hp_ : Kd.R k35 35 w98 w.heap.size (fun k_ => some k_ ≠ (.slice (some ⟨go40, 0, none⟩) y172.length co40 : Value).ownBlock ∧ k_ ≠ gb182) (.slice (some ⟨go42, 0, none⟩) x10_2.length co42) y186 := (by rw [hw, Ny186.out]; exact HP97.1); clear HP97; have n0_ := Aside0.mk (Kd.R_over' (v := (.slice (some ⟨go42, 0, none⟩) x10_2.length co42)) (by (with_reducible repeat (first | apply Kd.R_alloc | apply Kd.R_drewN | apply Kd.R_drew)); exact HO_5.out) (Kd.R_typed HO_10.out) (by decide) hg); have n1_ := Aside0.mk (Kd.R_over' (v := (.slice (some ⟨go42, 0, none⟩) x10_2.length co42)) (by (with_reducible repeat (first | apply Kd.R_alloc | apply Kd.R_drewN | apply Kd.R_drew)); exact HO_6.out) (Kd.R_typed HO_10.out) (by decide) hg); have n2_ := Aside0.mk (Kd.R_after (v := (.slice (some ⟨go42, 0, none⟩) x10_2.length co42)) (v1 := (.slice (some ⟨go42, 0, none⟩) x10_2.length co42)) (ok := (fun k_ => k_ ≠ gb182)) (by (with_reducible repeat (first | apply Kd.R_alloc | apply Kd.R_drewN | apply Kd.R_drew)); exact Kd.R_mono HO_9.out (fun _ hk => ⟨hk.2, hk.1⟩)) hg (.inl rfl)); have n3_ := Aside0.mk (hp_); have n4_ := Aside0.mk (blk_grown (g := gb182) (o := .cells #[.int .i64 t179, .int .i64 t180] 35 (0, 0)) (by (with_reducible repeat (first | refine blk_drewN ?_ _ | refine blk_drew ?_ | refine blk_alloc ?_ _)); exact BK182.out) hg (Kd.R_away HO_10.out (fun _ hk => hk.1))); have n5_ := Aside0.mk ((by rw [hw]; exact below_set (below_set (HB.out) GB42.out) GB42.out : Below w.heap.size w w98)); clear HO_5; clear HO_6; clear HO_9; clear HO_10; clear BK182; clear HB; have HO_5 := n0_; have HO_6 := n1_; have HO_9 := n2_; have HO_10 := n3_; have BK182 := n4_; have HB := n5_; clear n0_ n1_ n2_ n3_ n4_ n5_; clear hg hw hp_))
                                                              (try simp only [← hl9_2, ← hl10_2, ← hl9_54])
                                                              go_roundg kj54
                                                              case measure => have := HK1.out; have := HK2.out; have := HJ54.out; omega
                                                              case rel => exact ⟨(y185), (y186), (wrap64 (x11_2 + 1)), (by first | rfl | (simp; done) | (simp [*]; done)), H', ⟨by have := HK1.out; have := HK2.out; have := HJ54.out; omega⟩, ⟨by (try simp only [hl9_2]); (try simp only [hl10_2]); (try simp only [hl9_54]); (with_reducible repeat (first | apply Kd.R_alloc | apply Kd.R_drewN | apply Kd.R_drew)); exact HO_5.out⟩, ⟨by (try simp only [hl9_2]); (try simp only [hl10_2]); (try simp only [hl9_54]); (with_reducible repeat (first | apply Kd.R_alloc | apply Kd.R_drewN | apply Kd.R_drew)); exact HO_6.out⟩, ⟨by (try simp only [hl9_2]); (try simp only [hl10_2]); (try simp only [hl9_54]); (with_reducible repeat (first | apply Kd.R_alloc | apply Kd.R_drewN | apply Kd.R_drew)); exact Kd.R_mono HO_9.out (fun _ hk => hk.2)⟩, ⟨by (try simp only [hl9_2]); (try simp only [hl10_2]); (try simp only [hl9_54]); (with_reducible repeat (first | apply Kd.R_alloc | apply Kd.R_drewN | apply Kd.R_drew)); exact Kd.R_mono HO_10.out (fun _ hk => hk.1)⟩, ⟨by repeat (first | (with_reducible first | exact HB.out | apply below_alloc | apply pw_below_drewN | apply below_drew1 | refine below_set ?_ GE182.out) | exact HB.out)⟩⟩
                                                            · rw [if_neg c80] at H
                                                              exact absurd H (by simp)
                                                          · replace c79 := Bool.eq_false_iff.mpr c79
                                                            subst c79
                                                            have H1 : (part_Heirs.l1 kj54 l0 t147 x6_1 y172 y183 (wrap64 (x11_2 + 1))) = some (r1, r2) := by rw [if_neg (show ¬ (false = true) by decide)] at H; exact H
                                                            clear H
                                                            have H := H1
                                                            clear H1
                                                            have H' := Aside0.mk H
                                                            clear H
                                                            try go_wp2
                                                            have n0_ := Aside0.mk (Kd.R_drew HO_5.out)
                                                            have n1_ := Aside0.mk (Kd.R_drew HO_6.out)
                                                            have n2_ := Aside0.mk (Kd.R_drew HO_9.out)
                                                            have n3_ := Aside0.mk (Kd.R_drew HO_10.out)
                                                            have n4_ := Aside0.mk (below_drew1 HB.out)
                                                            clear HO_5
                                                            clear HO_6
                                                            clear HO_9
                                                            clear HO_10
                                                            clear HB
                                                            have HO_5 := n0_
                                                            have HO_6 := n1_
                                                            have HO_9 := n2_
                                                            have HO_10 := n3_
                                                            have HB := n4_
                                                            clear n0_ n1_ n2_ n3_ n4_
                                                            have p176 : 0 ≤ (((rd_T32 l0 x11_2).f0) : Int) := of_decide_eq_true (by first | (with_reducible assumption) | assumption)
                                                            have q176 : ((rd_T32 l0 x11_2).f0) < (x10_2.length : Int) := of_decide_eq_true (by first | (with_reducible assumption) | assumption)
                                                            obtain ⟨ad176, e176, hx176_0, hx176_1⟩ := at_T35 (Kd.R_reads' HO_10.out).2.2 ((rd_T32 l0 x11_2).f0) p176 q176
                                                            obtain rfl : (⟨go42, 0, none⟩ : Addr) = ad176 := (by injection e176)
                                                            (first | simp only [add_plain] at hx176_0 | simp only [add_at] at hx176_0 | simp only [Addr.add, Nat.zero_add] at hx176_0 | skip)
                                                            (first | simp only [add_plain] at hx176_1 | simp only [add_at] at hx176_1 | simp only [Addr.add, Nat.zero_add] at hx176_1 | skip)
                                                            replace p176 := eq_true p176
                                                            replace q176 := eq_true q176
                                                            have p177 : 0 ≤ (((rd_T32 l0 x11_2).f0) : Int) := of_decide_eq_true (by first | (with_reducible assumption) | assumption)
                                                            have q177 : ((rd_T32 l0 x11_2).f0) < (x10_2.length : Int) := of_decide_eq_true (by first | (with_reducible assumption) | assumption)
                                                            obtain ⟨ad177, e177, hx177_0, hx177_1⟩ := at_T35 (Kd.R_reads' HO_10.out).2.2 ((rd_T32 l0 x11_2).f0) p177 q177
                                                            obtain rfl : (⟨go42, 0, none⟩ : Addr) = ad177 := (by injection e177)
                                                            (first | simp only [add_plain] at hx177_0 | simp only [add_at] at hx177_0 | simp only [Addr.add, Nat.zero_add] at hx177_0 | skip)
                                                            (first | simp only [add_plain] at hx177_1 | simp only [add_at] at hx177_1 | simp only [Addr.add, Nat.zero_add] at hx177_1 | skip)
                                                            replace p177 := eq_true p177
                                                            replace q177 := eq_true q177
                                                            obtain ⟨Ao100, co100, eo100⟩ := Kd.R_slice HO_6.out
                                                            (first | subst eo100 | (injection eo100 with f1_ f2_ f3_; have f4_ := f1_.symm; have f5_ := f3_.symm; clear f1_ f2_ f3_; subst f4_; subst f5_))
                                                            have p178 : 0 ≤ (((rd_T32 l0 x11_2).f0) : Int) := of_decide_eq_true (by first | (with_reducible assumption) | assumption)
                                                            have q178 : ((rd_T32 l0 x11_2).f0) < (x6_1.length : Int) := of_decide_eq_true (by first | (with_reducible assumption) | assumption)
                                                            obtain ⟨ad178, e178, hx178_0⟩ := Kd.at_int (Kd.R_reads' HO_6.out).2.2 ((rd_T32 l0 x11_2).f0) p178 q178
                                                            cases e178
                                                            replace p178 := eq_true p178
                                                            replace q178 := eq_true q178
                                                            refine start_ (n := 22) (S := fun w' => w'.cell? ⟨go42, (((rd_T32 l0 x11_2).f0)).toNat * 2, none⟩ = some (.int .i64 ((rd_T35 x10_2 ((rd_T32 l0 x11_2).f0)).f0)) ∧ w'.cell? ⟨go42, (((rd_T32 l0 x11_2).f0)).toNat * 2 + 1, none⟩ = some (.int .i64 ((rd_T35 x10_2 ((rd_T32 l0 x11_2).f0)).f1)) ∧ w'.cell? ⟨go42, (((rd_T32 l0 x11_2).f0)).toNat * 2, none⟩ = some (.int .i64 ((rd_T35 x10_2 ((rd_T32 l0 x11_2).f0)).f0)) ∧ w'.cell? ⟨go42, (((rd_T32 l0 x11_2).f0)).toNat * 2 + 1, none⟩ = some (.int .i64 ((rd_T35 x10_2 ((rd_T32 l0 x11_2).f0)).f1)) ∧ w'.cell? (ad178.add (((rd_T32 l0 x11_2).f0)).toNat) = some (.int .i64 (rd x6_1 ((rd_T32 l0 x11_2).f0)))) (ds := []) #[false, false, false, false, false, false, false, false, false, false, false, false, false, false, false, false, false, false, false, false, false, false] (by kernel_rfl) rfl rfl ⟨hx176_0, hx176_1, hx177_0, hx177_1, hx178_0⟩ (fun hHeld => ?_); refine with_tabW part_Heirs.tab25 part_Heirs.bits25 (fun HT_ HW_ => ?_)
                                                            generalize wc.drew = w99 at HO_5 HO_6 HO_9 HO_10 HB hx176_0 hx176_1 hx177_0 hx177_1 hx178_0 hHeld ⊢
                                                            refine pure_ (i := 0) (N := some 95) (v := ?_) (a' := ?_) #[true, false, false, false, false, false, false, false, false, false, false, false, false, false, false, false, false, false, false, false, false, false] rfl rfl (any_of HT_.out (by kernel_rfl)) (fun _ _ _ h => h) (Or.inl ⟨by rfl, ?_⟩) ?_ ?_
                                                            rotate_left
                                                            · intro w'
                                                              go_simp
                                                              with_reducible rfl
                                                            rotate_left
                                                            · simp only [Act.put, List.setIfInBounds_toArray, List.set_cons_zero, List.set_cons_succ, i64_w, i32_w]
                                                              rfl
                                                            refine pure_ (i := 1) (N := some 96) (v := ?_) (a' := ?_) #[true, true, false, false, false, false, false, false, false, false, false, false, false, false, false, false, false, false, false, false, false, false] rfl rfl (any_of HT_.out (by kernel_rfl)) (fun _ _ _ h => h) (Or.inl ⟨by rfl, ?_⟩) ?_ ?_
                                                            rotate_left
                                                            · intro w'
                                                              go_simp
                                                              with_reducible rfl
                                                            rotate_left
                                                            · simp only [Act.put, List.setIfInBounds_toArray, List.set_cons_zero, List.set_cons_succ, i64_w, i32_w]
                                                              rfl
                                                            refine pure_ (i := 2) (N := some 97) (v := ?_) (a' := ?_) #[true, true, true, false, false, false, false, false, false, false, false, false, false, false, false, false, false, false, false, false, false, false] rfl rfl (any_of HT_.out (by kernel_rfl)) (fun _ _ _ h => h) (Or.inl ⟨by rfl, ?_⟩) ?_ ?_
                                                            rotate_left
                                                            · intro w'
                                                              go_simp
                                                              with_reducible rfl
                                                            rotate_left
                                                            · simp only [Act.put, List.setIfInBounds_toArray, List.set_cons_zero, List.set_cons_succ, i64_w, i32_w]
                                                              rfl
                                                            refine pure_ (i := 3) (N := some 98) (v := ?_) (a' := ?_) #[true, true, true, true, false, false, false, false, false, false, false, false, false, false, false, false, false, false, false, false, false, false] rfl rfl (any_of HT_.out (by kernel_rfl)) (fun _ _ _ h => h) (Or.inl ⟨by rfl, ?_⟩) ?_ ?_
                                                            rotate_left
                                                            · intro w'
                                                              go_simp
                                                              with_reducible rfl
                                                            rotate_left
                                                            · simp only [Act.put, List.setIfInBounds_toArray, List.set_cons_zero, List.set_cons_succ, i64_w, i32_w]
                                                              rfl
                                                            refine pure_ (i := 5) (N := some 100) (v := ?_) (a' := ?_) #[true, true, true, true, false, true, false, false, false, false, false, false, false, false, false, false, false, false, false, false, false, false] rfl rfl (any_of HT_.out (by kernel_rfl)) (fun _ _ _ h => h) (Or.inl ⟨by rfl, ?_⟩) ?_ ?_
                                                            rotate_left
                                                            · intro w'
                                                              go_simp
                                                              with_reducible rfl
                                                            rotate_left
                                                            · simp only [Act.put, List.setIfInBounds_toArray, List.set_cons_zero, List.set_cons_succ, i64_w, i32_w]
                                                              rfl
                                                            refine pure_ (i := 6) (N := some 101) (v := ?_) (a' := ?_) #[true, true, true, true, false, true, true, false, false, false, false, false, false, false, false, false, false, false, false, false, false, false] rfl rfl (any_of HT_.out (by kernel_rfl)) (fun _ _ _ h => h) (Or.inl ⟨by rfl, ?_⟩) ?_ ?_
                                                            rotate_left
                                                            · intro w'
                                                              go_simp
                                                              with_reducible rfl
                                                            rotate_left
                                                            · simp only [Act.put, List.setIfInBounds_toArray, List.set_cons_zero, List.set_cons_succ, i64_w, i32_w]
                                                              rfl
                                                            refine pure_ (i := 7) (N := some 102) (v := ?_) (a' := ?_) #[true, true, true, true, false, true, true, true, false, false, false, false, false, false, false, false, false, false, false, false, false, false] rfl rfl (any_of HT_.out (by kernel_rfl)) (fun _ _ _ h => h) (Or.inl ⟨by rfl, ?_⟩) ?_ ?_
                                                            rotate_left
                                                            · intro w'
                                                              go_simp
                                                              with_reducible rfl
                                                            rotate_left
                                                            · simp only [Act.put, List.setIfInBounds_toArray, List.set_cons_zero, List.set_cons_succ, i64_w, i32_w]
                                                              rfl
                                                            refine pure_ (i := 8) (N := some 103) (v := ?_) (a' := ?_) #[true, true, true, true, false, true, true, true, true, false, false, false, false, false, false, false, false, false, false, false, false, false] rfl rfl (any_of HT_.out (by kernel_rfl)) (fun _ _ _ h => h) (Or.inl ⟨by rfl, ?_⟩) ?_ ?_
                                                            rotate_left
                                                            · intro w'
                                                              go_simp
                                                              with_reducible rfl
                                                            rotate_left
                                                            · simp only [Act.put, List.setIfInBounds_toArray, List.set_cons_zero, List.set_cons_succ, i64_w, i32_w]
                                                              rfl
                                                            refine pure_ (i := 10) (N := some 105) (v := ?_) (a' := ?_) #[true, true, true, true, false, true, true, true, true, false, true, false, false, false, false, false, false, false, false, false, false, false] rfl rfl (any_of HT_.out (by kernel_rfl)) (fun _ _ _ h => h) (Or.inl ⟨by rfl, ?_⟩) ?_ ?_
                                                            rotate_left
                                                            · intro w'
                                                              go_simp
                                                              with_reducible rfl
                                                            rotate_left
                                                            · simp only [Act.put, List.setIfInBounds_toArray, List.set_cons_zero, List.set_cons_succ, i64_w, i32_w]
                                                              rfl
                                                            refine pure_ (i := 11) (N := some 106) (v := ?_) (a' := ?_) #[true, true, true, true, false, true, true, true, true, false, true, true, false, false, false, false, false, false, false, false, false, false] rfl rfl (any_of HT_.out (by kernel_rfl)) (fun _ _ _ h => h) (Or.inl ⟨by rfl, ?_⟩) ?_ ?_
                                                            rotate_left
                                                            · intro w'
                                                              go_simp
                                                              with_reducible rfl
                                                            rotate_left
                                                            · simp only [Act.put, List.setIfInBounds_toArray, List.set_cons_zero, List.set_cons_succ, i64_w, i32_w]
                                                              rfl
                                                            refine pure_ (i := 12) (N := some 107) (v := ?_) (a' := ?_) #[true, true, true, true, false, true, true, true, true, false, true, true, true, false, false, false, false, false, false, false, false, false] rfl rfl (any_of HT_.out (by kernel_rfl)) (fun _ _ _ h => h) (Or.inl ⟨by rfl, ?_⟩) ?_ ?_
                                                            rotate_left
                                                            · intro w'
                                                              go_simp
                                                              with_reducible rfl
                                                            rotate_left
                                                            · simp only [Act.put, List.setIfInBounds_toArray, List.set_cons_zero, List.set_cons_succ, i64_w, i32_w]
                                                              rfl
                                                            refine take_ (i := 4) (N := some 99) (v := ?_) (a' := ?_) #[true, true, true, true, true, true, true, true, true, false, true, true, true, false, false, false, false, false, false, false, false, false] rfl rfl (take_ofW HT_.out HW_.out (by kernel_rfl)) (fun _ _ _ h => h) (Or.inl ⟨by rfl, ?_⟩) hHeld ?_ ?_
                                                            rotate_left
                                                            · rintro w' ⟨s0, s1, s2, s3, s4⟩
                                                              go_simp
                                                              with_reducible rfl
                                                            rotate_left
                                                            · simp only [Act.put, List.setIfInBounds_toArray, List.set_cons_zero, List.set_cons_succ, i64_w, i32_w]
                                                              rfl
                                                            refine take_ (i := 9) (N := some 104) (v := ?_) (a' := ?_) #[true, true, true, true, true, true, true, true, true, true, true, true, true, false, false, false, false, false, false, false, false, false] rfl rfl (take_ofW HT_.out HW_.out (by kernel_rfl)) (fun _ _ _ h => h) (Or.inl ⟨by rfl, ?_⟩) hHeld ?_ ?_
                                                            rotate_left
                                                            · rintro w' ⟨s0, s1, s2, s3, s4⟩
                                                              go_simp
                                                              with_reducible rfl
                                                            rotate_left
                                                            · simp only [Act.put, List.setIfInBounds_toArray, List.set_cons_zero, List.set_cons_succ, i64_w, i32_w]
                                                              rfl
                                                            refine take_ (i := 13) (N := some 108) (v := ?_) (a' := ?_) #[true, true, true, true, true, true, true, true, true, true, true, true, true, true, false, false, false, false, false, false, false, false] rfl rfl (take_ofW HT_.out HW_.out (by kernel_rfl)) (fun _ _ _ h => h) (Or.inl ⟨by rfl, ?_⟩) hHeld ?_ ?_
                                                            rotate_left
                                                            · rintro w' ⟨s0, s1, s2, s3, s4⟩
                                                              go_simp
                                                              with_reducible rfl
                                                            rotate_left
                                                            · simp only [Act.put, List.setIfInBounds_toArray, List.set_cons_zero, List.set_cons_succ, i64_w, i32_w]
                                                              rfl
                                                            refine pure_ (i := 14) (N := some 109) (v := ?_) (a' := ?_) #[true, true, true, true, true, true, true, true, true, true, true, true, true, true, true, false, false, false, false, false, false, false] rfl rfl (any_of HT_.out (by kernel_rfl)) (fun _ _ _ h => h) (Or.inl ⟨by rfl, ?_⟩) ?_ ?_
                                                            rotate_left
                                                            · intro w'
                                                              go_simp
                                                              with_reducible rfl
                                                            rotate_left
                                                            · simp only [Act.put, List.setIfInBounds_toArray, List.set_cons_zero, List.set_cons_succ, i64_w, i32_w]
                                                              rfl
                                                            refine join_ (σ := Nat) 2 #[true, true, true, true, true, true, true, true, true, true, true, true, true, true, true, true, true, true, true, true, false, false] (fun s_ => [(110, .tuple #[.agg #[.int .i64 t179, .int .i64 t180], .int .i64 t181]), (13, .pointer (some ⟨s_, 0, none⟩)), (94, .tuple #[.agg #[.int .i64 t179, .int .i64 t180], .int .i64 t181]), (111, .agg #[.int .i64 t179, .int .i64 t180]), (112, .int .i64 t181)]) (fun s_ w' => (w'.cell? ⟨go42, (((rd_T32 l0 x11_2).f0)).toNat * 2, none⟩ = some (.int .i64 ((rd_T35 x10_2 ((rd_T32 l0 x11_2).f0)).f0)) ∧ w'.cell? ⟨go42, (((rd_T32 l0 x11_2).f0)).toNat * 2 + 1, none⟩ = some (.int .i64 ((rd_T35 x10_2 ((rd_T32 l0 x11_2).f0)).f1)) ∧ w'.cell? ⟨go42, (((rd_T32 l0 x11_2).f0)).toNat * 2, none⟩ = some (.int .i64 ((rd_T35 x10_2 ((rd_T32 l0 x11_2).f0)).f0)) ∧ w'.cell? ⟨go42, (((rd_T32 l0 x11_2).f0)).toNat * 2 + 1, none⟩ = some (.int .i64 ((rd_T35 x10_2 ((rd_T32 l0 x11_2).f0)).f1)) ∧ w'.cell? (ad178.add (((rd_T32 l0 x11_2).f0)).toNat) = some (.int .i64 (rd x6_1 ((rd_T32 l0 x11_2).f0)))) ∧ (Kd.R k35 35 w' w.heap.size (fun k_ => some k_ ≠ (.slice (some ⟨go40, 0, none⟩) y172.length co40 : Value).ownBlock ∧ k_ ≠ s_) (.slice (some ⟨go42, 0, none⟩) x10_2.length co42) x10_2) ∧ (Kd.R Kd.bool 4 w' w.heap.size (fun _ => True) (.slice (some ad150) t147.length co13) t147) ∧ (Kd.R (Kd.int .i64) 3 w' w.heap.size (fun _ => True) (.slice (some ad178) x6_1.length co100) x6_1) ∧ (Kd.R k35 35 w' w.heap.size (fun k_ => some k_ ≠ (.slice (some ⟨go42, 0, none⟩) x10_2.length co42 : Value).ownBlock ∧ k_ ≠ s_) (.slice (some ⟨go40, 0, none⟩) y172.length co40) y172) ∧ (w'.heap[s_]? = some (.cells #[.int .i64 0, .int .i64 0] 35 (0, 0))) ∧ (w.heap.size ≤ s_) ∧ (w.heap.size ≤ s_) ∧ (Below w.heap.size w w')) ?_ ?_
                                                            rotate_left
                                                            · intro hCont
                                                              refine two_ (i := 15) (j := 19) (Ni := some 110) (Nj := some 13) #[true, true, true, true, true, true, true, true, true, true, true, true, true, true, true, true, false, false, false, false, false, false] #[true, true, true, true, true, true, true, true, true, true, true, true, true, true, true, false, false, false, false, true, false, false] rfl rfl rfl rfl (two_of HT_.out (by kernel_rfl)) (by decide) (by decide) (fun K hK => ?_) (fun K hK => ?_)
                                                              · skip
                                                                refine goes_ Try.func50 (by kernel_rfl) rfl #[.int .i64 ((rd_T35 x10_2 ((rd_T32 l0 x11_2).f0)).f0), .int .i64 (wrap64 (((rd_T35 x10_2 ((rd_T32 l0 x11_2).f0)).f1) * (rd x6_1 ((rd_T32 l0 x11_2).f0))))] (by rfl) rfl rfl (by (try simp only [List.map_toArray, List.map_cons, List.map_nil]); first | done | rfl | (simp only [List.length_drop, List.length_take]; rfl)) ?_
                                                                with_reducible refine (part_Of.calls kj54 ((rd_T35 x10_2 ((rd_T32 l0 x11_2).f0)).f0) (wrap64 (((rd_T35 x10_2 ((rd_T32 l0 x11_2).f0)).f1) * (rd x6_1 ((rd_T32 l0 x11_2).f0)))) t179 t180 t181 _ A72.out).mono ?_
                                                                rintro e w101 ⟨rfl, hb⟩
                                                                have HS0_ := (hb.cell (World.block_lt_of_cell? _ _ (hHeld.1))).trans (hHeld.1)
                                                                have HS1_ := (hb.cell (World.block_lt_of_cell? _ _ (hHeld.2.1))).trans (hHeld.2.1)
                                                                have HS2_ := (hb.cell (World.block_lt_of_cell? _ _ (hHeld.2.2.1))).trans (hHeld.2.2.1)
                                                                have HS3_ := (hb.cell (World.block_lt_of_cell? _ _ (hHeld.2.2.2.1))).trans (hHeld.2.2.2.1)
                                                                have HS4_ := (hb.cell (World.block_lt_of_cell? _ _ (hHeld.2.2.2.2))).trans (hHeld.2.2.2.2)
                                                                refine ⟨_, rfl, ?_⟩
                                                                have n0_ := Aside0.mk (Kd.R_below (by (with_reducible repeat (first | apply Kd.R_alloc | apply Kd.R_drewN | apply Kd.R_drew)); exact HO_5.out) hb)
                                                                have n1_ := Aside0.mk (Kd.R_below (by (with_reducible repeat (first | apply Kd.R_alloc | apply Kd.R_drewN | apply Kd.R_drew)); exact HO_6.out) hb)
                                                                have n2_ := Aside0.mk (Kd.R_below (by (with_reducible repeat (first | apply Kd.R_alloc | apply Kd.R_drewN | apply Kd.R_drew)); exact HO_9.out) hb)
                                                                have n3_ := Aside0.mk (Kd.R_below (by (with_reducible repeat (first | apply Kd.R_alloc | apply Kd.R_drewN | apply Kd.R_drew)); exact HO_10.out) hb)
                                                                have n4_ := Aside0.mk (below_step (by repeat (first | (with_reducible first | exact HB.out | apply below_alloc | apply pw_below_drewN | apply below_drew1) | exact HB.out)) hb)
                                                                clear HO_5
                                                                clear HO_6
                                                                clear HO_9
                                                                clear HO_10
                                                                clear HB
                                                                have HO_5 := n0_
                                                                have HO_6 := n1_
                                                                have HO_9 := n2_
                                                                have HO_10 := n3_
                                                                have HB := n4_
                                                                clear n0_ n1_ n2_ n3_ n4_
                                                                (try clear hb)
                                                                (try clear hb2)
                                                                (try clear hk)
                                                                (try clear hi)
                                                                refine hK.out _ _ ⟨HS0_, HS1_, HS2_, HS3_, HS4_⟩ (fun hHeld => ?_)
                                                                clear hK K
                                                                refine norm_ (a' := ?_) ?_ ?_
                                                                rotate_left
                                                                · show Act.put _ (some 110) _ = _
                                                                  simp only [Act.put, List.setIfInBounds_toArray, List.set_cons_zero, List.set_cons_succ, i64_w, i32_w]
                                                                  rfl
                                                                refine pure_ (i := 16) (N := some 94) (v := ?_) (a' := ?_) #[true, true, true, true, true, true, true, true, true, true, true, true, true, true, true, true, true, false, false, false, false, false] rfl rfl (any_of HT_.out (by kernel_rfl)) (fun _ _ _ h => h) (Or.inl ⟨by rfl, ?_⟩) ?_ ?_
                                                                rotate_left
                                                                · intro w'
                                                                  go_simp
                                                                  with_reducible rfl
                                                                rotate_left
                                                                · simp only [Act.put, List.setIfInBounds_toArray, List.set_cons_zero, List.set_cons_succ, i64_w, i32_w]
                                                                  rfl
                                                                refine pure_ (i := 17) (N := some 111) (v := ?_) (a' := ?_) #[true, true, true, true, true, true, true, true, true, true, true, true, true, true, true, true, true, true, false, false, false, false] rfl rfl (any_of HT_.out (by kernel_rfl)) (fun _ _ _ h => h) (Or.inl ⟨by rfl, ?_⟩) ?_ ?_
                                                                rotate_left
                                                                · intro w'
                                                                  go_simp
                                                                  with_reducible rfl
                                                                rotate_left
                                                                · simp only [Act.put, List.setIfInBounds_toArray, List.set_cons_zero, List.set_cons_succ, i64_w, i32_w]
                                                                  rfl
                                                                refine pure_ (i := 18) (N := some 112) (v := ?_) (a' := ?_) #[true, true, true, true, true, true, true, true, true, true, true, true, true, true, true, true, true, true, true, false, false, false] rfl rfl (any_of HT_.out (by kernel_rfl)) (fun _ _ _ h => h) (Or.inl ⟨by rfl, ?_⟩) ?_ ?_
                                                                rotate_left
                                                                · intro w'
                                                                  go_simp
                                                                  with_reducible rfl
                                                                rotate_left
                                                                · simp only [Act.put, List.setIfInBounds_toArray, List.set_cons_zero, List.set_cons_succ, i64_w, i32_w]
                                                                  rfl
                                                                refine one_ (i := 19) (N := some 13) #[true, true, true, true, true, true, true, true, true, true, true, true, true, true, true, true, true, true, true, true, false, false] rfl rfl (one_of HT_.out (by kernel_rfl)) (by decide) (fun K hK => ?_)
                                                                refine box_step ?hg (N := 13) ?hd (cs := #[.int .i64 0, .int .i64 0]) (t := 35) ?hr ?_; (case hd => rfl); (case hg => rfl); (case hr => first | (go_simp; done) | (go_simp; rfl))
                                                                intro gb182 hg w102 hbox hb
                                                                have HS0_ := (hb.cell (World.block_lt_of_cell? _ _ (hHeld.1))).trans (hHeld.1)
                                                                have HS1_ := (hb.cell (World.block_lt_of_cell? _ _ (hHeld.2.1))).trans (hHeld.2.1)
                                                                have HS2_ := (hb.cell (World.block_lt_of_cell? _ _ (hHeld.2.2.1))).trans (hHeld.2.2.1)
                                                                have HS3_ := (hb.cell (World.block_lt_of_cell? _ _ (hHeld.2.2.2.1))).trans (hHeld.2.2.2.1)
                                                                have HS4_ := (hb.cell (World.block_lt_of_cell? _ _ (hHeld.2.2.2.2))).trans (hHeld.2.2.2.2)
                                                                have n0_ := Aside0.mk (Kd.R_below (by (with_reducible repeat (first | apply Kd.R_alloc | apply Kd.R_drewN | apply Kd.R_drew)); exact HO_5.out) hb)
                                                                have n1_ := Aside0.mk (Kd.R_below (by (with_reducible repeat (first | apply Kd.R_alloc | apply Kd.R_drewN | apply Kd.R_drew)); exact HO_6.out) hb)
                                                                have n2_ := Aside0.mk (Kd.R_below (Kd.R_elderB (by (with_reducible repeat (first | apply Kd.R_alloc | apply Kd.R_drewN | apply Kd.R_drew)); exact HO_9.out) gb182 (Nat.le_of_eq hg.symm)) hb)
                                                                have n3_ := Aside0.mk (Kd.R_below (Kd.R_elderB (by (with_reducible repeat (first | apply Kd.R_alloc | apply Kd.R_drewN | apply Kd.R_drew)); exact HO_10.out) gb182 (Nat.le_of_eq hg.symm)) hb)
                                                                have n4_ := Aside0.mk (below_step (by repeat (first | (with_reducible first | exact HB.out | apply below_alloc | apply pw_below_drewN | apply below_drew1) | exact HB.out)) hb)
                                                                have n5_ := Aside0.mk (hbox)
                                                                have n6_ := Aside0.mk ((by rw [hg]; exact (below_size (by repeat (first | (with_reducible first | exact HB.out | apply below_alloc | apply pw_below_drewN | apply below_drew1) | exact HB.out))) : w.heap.size ≤ gb182))
                                                                have n7_ := Aside0.mk ((by rw [hg]; exact (below_size (by repeat (first | (with_reducible first | exact HB.out | apply below_alloc | apply pw_below_drewN | apply below_drew1) | exact HB.out))) : w.heap.size ≤ gb182))
                                                                clear HO_5
                                                                clear HO_6
                                                                clear HO_9
                                                                clear HO_10
                                                                clear HB
                                                                have HO_5 := n0_
                                                                have HO_6 := n1_
                                                                have HO_9 := n2_
                                                                have HO_10 := n3_
                                                                have HB := n4_
                                                                have BK182 := n5_
                                                                have GW182 := n6_
                                                                have GE182 := n7_
                                                                clear n0_ n1_ n2_ n3_ n4_ n5_ n6_ n7_
                                                                clear hb hbox hg
                                                                refine hK.out _ _ ⟨HS0_, HS1_, HS2_, HS3_, HS4_⟩ (fun hHeld => ?_)
                                                                clear hK K
                                                                refine norm_ (a' := ?_) ?_ ?_
                                                                rotate_left
                                                                · show Act.put _ (some 13) _ = _
                                                                  simp only [Act.put, List.setIfInBounds_toArray, List.set_cons_zero, List.set_cons_succ, i64_w, i32_w]
                                                                  rfl
                                                                exact norm_ (by simp only [putAll, Act.put, List.setIfInBounds_toArray, List.set_cons_zero, List.set_cons_succ]) (hCont (gb182) _ ⟨hHeld, (by (with_reducible repeat (first | apply Kd.R_alloc | apply Kd.R_drewN | apply Kd.R_drew)); exact HO_10.out), (by (with_reducible repeat (first | apply Kd.R_alloc | apply Kd.R_drewN | apply Kd.R_drew)); exact HO_5.out), (by (with_reducible repeat (first | apply Kd.R_alloc | apply Kd.R_drewN | apply Kd.R_drew)); exact HO_6.out), (by (with_reducible repeat (first | apply Kd.R_alloc | apply Kd.R_drewN | apply Kd.R_drew)); exact HO_9.out), (by (with_reducible repeat (first | refine blk_drewN ?_ _ | refine blk_drew ?_ | refine blk_alloc ?_ _)); exact BK182.out), GW182.out, GE182.out, (by repeat (first | (with_reducible first | exact HB.out | apply below_alloc | apply pw_below_drewN | apply below_drew1 | refine below_set ?_ GE182.out) | exact HB.out))⟩)
                                                              · skip
                                                                refine box_step ?hg (N := 13) ?hd (cs := #[.int .i64 0, .int .i64 0]) (t := 35) ?hr ?_; (case hd => rfl); (case hg => rfl); (case hr => first | (go_simp; done) | (go_simp; rfl))
                                                                intro gb182 hg w101 hbox hb
                                                                have HS0_ := (hb.cell (World.block_lt_of_cell? _ _ (hHeld.1))).trans (hHeld.1)
                                                                have HS1_ := (hb.cell (World.block_lt_of_cell? _ _ (hHeld.2.1))).trans (hHeld.2.1)
                                                                have HS2_ := (hb.cell (World.block_lt_of_cell? _ _ (hHeld.2.2.1))).trans (hHeld.2.2.1)
                                                                have HS3_ := (hb.cell (World.block_lt_of_cell? _ _ (hHeld.2.2.2.1))).trans (hHeld.2.2.2.1)
                                                                have HS4_ := (hb.cell (World.block_lt_of_cell? _ _ (hHeld.2.2.2.2))).trans (hHeld.2.2.2.2)
                                                                have n0_ := Aside0.mk (Kd.R_below (by (with_reducible repeat (first | apply Kd.R_alloc | apply Kd.R_drewN | apply Kd.R_drew)); exact HO_5.out) hb)
                                                                have n1_ := Aside0.mk (Kd.R_below (by (with_reducible repeat (first | apply Kd.R_alloc | apply Kd.R_drewN | apply Kd.R_drew)); exact HO_6.out) hb)
                                                                have n2_ := Aside0.mk (Kd.R_below (Kd.R_elderB (by (with_reducible repeat (first | apply Kd.R_alloc | apply Kd.R_drewN | apply Kd.R_drew)); exact HO_9.out) gb182 (Nat.le_of_eq hg.symm)) hb)
                                                                have n3_ := Aside0.mk (Kd.R_below (Kd.R_elderB (by (with_reducible repeat (first | apply Kd.R_alloc | apply Kd.R_drewN | apply Kd.R_drew)); exact HO_10.out) gb182 (Nat.le_of_eq hg.symm)) hb)
                                                                have n4_ := Aside0.mk (below_step (by repeat (first | (with_reducible first | exact HB.out | apply below_alloc | apply pw_below_drewN | apply below_drew1) | exact HB.out)) hb)
                                                                have n5_ := Aside0.mk (hbox)
                                                                have n6_ := Aside0.mk ((by rw [hg]; exact (below_size (by repeat (first | (with_reducible first | exact HB.out | apply below_alloc | apply pw_below_drewN | apply below_drew1) | exact HB.out))) : w.heap.size ≤ gb182))
                                                                have n7_ := Aside0.mk ((by rw [hg]; exact (below_size (by repeat (first | (with_reducible first | exact HB.out | apply below_alloc | apply pw_below_drewN | apply below_drew1) | exact HB.out))) : w.heap.size ≤ gb182))
                                                                clear HO_5
                                                                clear HO_6
                                                                clear HO_9
                                                                clear HO_10
                                                                clear HB
                                                                have HO_5 := n0_
                                                                have HO_6 := n1_
                                                                have HO_9 := n2_
                                                                have HO_10 := n3_
                                                                have HB := n4_
                                                                have BK182 := n5_
                                                                have GW182 := n6_
                                                                have GE182 := n7_
                                                                clear n0_ n1_ n2_ n3_ n4_ n5_ n6_ n7_
                                                                clear hb hbox hg
                                                                refine hK.out _ _ ⟨HS0_, HS1_, HS2_, HS3_, HS4_⟩ (fun hHeld => ?_)
                                                                clear hK K
                                                                refine norm_ (a' := ?_) ?_ ?_
                                                                rotate_left
                                                                · show Act.put _ (some 13) _ = _
                                                                  simp only [Act.put, List.setIfInBounds_toArray, List.set_cons_zero, List.set_cons_succ, i64_w, i32_w]
                                                                  rfl
                                                                refine one_ (i := 15) (N := some 110) #[true, true, true, true, true, true, true, true, true, true, true, true, true, true, true, true, false, false, false, true, false, false] rfl rfl (one_of HT_.out (by kernel_rfl)) (by decide) (fun K hK => ?_)
                                                                refine goes_ Try.func50 (by kernel_rfl) rfl #[.int .i64 ((rd_T35 x10_2 ((rd_T32 l0 x11_2).f0)).f0), .int .i64 (wrap64 (((rd_T35 x10_2 ((rd_T32 l0 x11_2).f0)).f1) * (rd x6_1 ((rd_T32 l0 x11_2).f0))))] (by rfl) rfl rfl (by (try simp only [List.map_toArray, List.map_cons, List.map_nil]); first | done | rfl | (simp only [List.length_drop, List.length_take]; rfl)) ?_
                                                                with_reducible refine (part_Of.calls kj54 ((rd_T35 x10_2 ((rd_T32 l0 x11_2).f0)).f0) (wrap64 (((rd_T35 x10_2 ((rd_T32 l0 x11_2).f0)).f1) * (rd x6_1 ((rd_T32 l0 x11_2).f0)))) t179 t180 t181 _ A72.out).mono ?_
                                                                rintro e w102 ⟨rfl, hb⟩
                                                                have HS0_ := (hb.cell (World.block_lt_of_cell? _ _ (hHeld.1))).trans (hHeld.1)
                                                                have HS1_ := (hb.cell (World.block_lt_of_cell? _ _ (hHeld.2.1))).trans (hHeld.2.1)
                                                                have HS2_ := (hb.cell (World.block_lt_of_cell? _ _ (hHeld.2.2.1))).trans (hHeld.2.2.1)
                                                                have HS3_ := (hb.cell (World.block_lt_of_cell? _ _ (hHeld.2.2.2.1))).trans (hHeld.2.2.2.1)
                                                                have HS4_ := (hb.cell (World.block_lt_of_cell? _ _ (hHeld.2.2.2.2))).trans (hHeld.2.2.2.2)
                                                                refine ⟨_, rfl, ?_⟩
                                                                have n0_ := Aside0.mk (Kd.R_below (by (with_reducible repeat (first | apply Kd.R_alloc | apply Kd.R_drewN | apply Kd.R_drew)); exact HO_5.out) hb)
                                                                have n1_ := Aside0.mk (Kd.R_below (by (with_reducible repeat (first | apply Kd.R_alloc | apply Kd.R_drewN | apply Kd.R_drew)); exact HO_6.out) hb)
                                                                have n2_ := Aside0.mk (Kd.R_below (by (with_reducible repeat (first | apply Kd.R_alloc | apply Kd.R_drewN | apply Kd.R_drew)); exact HO_9.out) hb)
                                                                have n3_ := Aside0.mk (Kd.R_below (by (with_reducible repeat (first | apply Kd.R_alloc | apply Kd.R_drewN | apply Kd.R_drew)); exact HO_10.out) hb)
                                                                have n4_ := Aside0.mk (blk_below (g := gb182) (o := .cells #[.int .i64 0, .int .i64 0] 35 (0, 0)) (by (with_reducible repeat (first | refine blk_drewN ?_ _ | refine blk_drew ?_ | refine blk_alloc ?_ _)); exact BK182.out) hb)
                                                                have n5_ := Aside0.mk (below_step (by repeat (first | (with_reducible first | exact HB.out | apply below_alloc | apply pw_below_drewN | apply below_drew1 | refine below_set ?_ GE182.out) | exact HB.out)) hb)
                                                                clear HO_5
                                                                clear HO_6
                                                                clear HO_9
                                                                clear HO_10
                                                                clear BK182
                                                                clear HB
                                                                have HO_5 := n0_
                                                                have HO_6 := n1_
                                                                have HO_9 := n2_
                                                                have HO_10 := n3_
                                                                have BK182 := n4_
                                                                have HB := n5_
                                                                clear n0_ n1_ n2_ n3_ n4_ n5_
                                                                (try clear hb)
                                                                (try clear hb2)
                                                                (try clear hk)
                                                                (try clear hi)
                                                                refine hK.out _ _ ⟨HS0_, HS1_, HS2_, HS3_, HS4_⟩ (fun hHeld => ?_)
                                                                clear hK K
                                                                refine norm_ (a' := ?_) ?_ ?_
                                                                rotate_left
                                                                · show Act.put _ (some 110) _ = _
                                                                  simp only [Act.put, List.setIfInBounds_toArray, List.set_cons_zero, List.set_cons_succ, i64_w, i32_w]
                                                                  rfl
                                                                refine pure_ (i := 16) (N := some 94) (v := ?_) (a' := ?_) #[true, true, true, true, true, true, true, true, true, true, true, true, true, true, true, true, true, false, false, true, false, false] rfl rfl (any_of HT_.out (by kernel_rfl)) (fun _ _ _ h => h) (Or.inl ⟨by rfl, ?_⟩) ?_ ?_
                                                                rotate_left
                                                                · intro w'
                                                                  go_simp
                                                                  with_reducible rfl
                                                                rotate_left
                                                                · simp only [Act.put, List.setIfInBounds_toArray, List.set_cons_zero, List.set_cons_succ, i64_w, i32_w]
                                                                  rfl
                                                                refine pure_ (i := 17) (N := some 111) (v := ?_) (a' := ?_) #[true, true, true, true, true, true, true, true, true, true, true, true, true, true, true, true, true, true, false, true, false, false] rfl rfl (any_of HT_.out (by kernel_rfl)) (fun _ _ _ h => h) (Or.inl ⟨by rfl, ?_⟩) ?_ ?_
                                                                rotate_left
                                                                · intro w'
                                                                  go_simp
                                                                  with_reducible rfl
                                                                rotate_left
                                                                · simp only [Act.put, List.setIfInBounds_toArray, List.set_cons_zero, List.set_cons_succ, i64_w, i32_w]
                                                                  rfl
                                                                refine pure_ (i := 18) (N := some 112) (v := ?_) (a' := ?_) #[true, true, true, true, true, true, true, true, true, true, true, true, true, true, true, true, true, true, true, true, false, false] rfl rfl (any_of HT_.out (by kernel_rfl)) (fun _ _ _ h => h) (Or.inl ⟨by rfl, ?_⟩) ?_ ?_
                                                                rotate_left
                                                                · intro w'
                                                                  go_simp
                                                                  with_reducible rfl
                                                                rotate_left
                                                                · simp only [Act.put, List.setIfInBounds_toArray, List.set_cons_zero, List.set_cons_succ, i64_w, i32_w]
                                                                  rfl
                                                                exact norm_ (by simp only [putAll, Act.put, List.setIfInBounds_toArray, List.set_cons_zero, List.set_cons_succ]) (hCont (gb182) _ ⟨hHeld, (by (with_reducible repeat (first | apply Kd.R_alloc | apply Kd.R_drewN | apply Kd.R_drew)); exact HO_10.out), (by (with_reducible repeat (first | apply Kd.R_alloc | apply Kd.R_drewN | apply Kd.R_drew)); exact HO_5.out), (by (with_reducible repeat (first | apply Kd.R_alloc | apply Kd.R_drewN | apply Kd.R_drew)); exact HO_6.out), (by (with_reducible repeat (first | apply Kd.R_alloc | apply Kd.R_drewN | apply Kd.R_drew)); exact HO_9.out), (by (with_reducible repeat (first | refine blk_drewN ?_ _ | refine blk_drew ?_ | refine blk_alloc ?_ _)); exact BK182.out), GW182.out, GE182.out, (by repeat (first | (with_reducible first | exact HB.out | apply below_alloc | apply pw_below_drewN | apply below_drew1 | refine below_set ?_ GE182.out) | exact HB.out))⟩)
                                                            rintro gb182 w103 ⟨hS_, h0_, h1_, h2_, h3_, h4_, h5_, h6_, h7_⟩
                                                            have n0_ : Aside0 (Kd.R k35 35 w103 w.heap.size (fun k_ => some k_ ≠ (.slice (some ⟨go40, 0, none⟩) y172.length co40 : Value).ownBlock ∧ k_ ≠ gb182) (.slice (some ⟨go42, 0, none⟩) x10_2.length co42) x10_2) := ⟨h0_⟩
                                                            have n1_ : Aside0 (Kd.R Kd.bool 4 w103 w.heap.size (fun _ => True) (.slice (some ad150) t147.length co13) t147) := ⟨h1_⟩
                                                            have n2_ : Aside0 (Kd.R (Kd.int .i64) 3 w103 w.heap.size (fun _ => True) (.slice (some ad178) x6_1.length co100) x6_1) := ⟨h2_⟩
                                                            have n3_ : Aside0 (Kd.R k35 35 w103 w.heap.size (fun k_ => some k_ ≠ (.slice (some ⟨go42, 0, none⟩) x10_2.length co42 : Value).ownBlock ∧ k_ ≠ gb182) (.slice (some ⟨go40, 0, none⟩) y172.length co40) y172) := ⟨h3_⟩
                                                            have n4_ : Aside0 (w103.heap[gb182]? = some (.cells #[.int .i64 0, .int .i64 0] 35 (0, 0))) := ⟨h4_⟩
                                                            have n5_ : Aside0 (w.heap.size ≤ gb182) := ⟨h5_⟩
                                                            have n6_ : Aside0 (w.heap.size ≤ gb182) := ⟨h6_⟩
                                                            have n7_ : Aside0 (Below w.heap.size w w103) := ⟨h7_⟩
                                                            clear HO_5
                                                            clear HO_6
                                                            clear HO_9
                                                            clear HO_10
                                                            clear HB
                                                            clear h0_ h1_ h2_ h3_ h4_ h5_ h6_ h7_
                                                            have HO_10 := n0_
                                                            have HO_5 := n1_
                                                            have HO_6 := n2_
                                                            have HO_9 := n3_
                                                            have BK182 := n4_
                                                            have GW182 := n5_
                                                            have GE182 := n6_
                                                            have HB := n7_
                                                            clear n0_ n1_ n2_ n3_ n4_ n5_ n6_ n7_
                                                            have hHeld : w103.cell? ⟨go42, (((rd_T32 l0 x11_2).f0)).toNat * 2, none⟩ = some (.int .i64 ((rd_T35 x10_2 ((rd_T32 l0 x11_2).f0)).f0)) ∧ w103.cell? ⟨go42, (((rd_T32 l0 x11_2).f0)).toNat * 2 + 1, none⟩ = some (.int .i64 ((rd_T35 x10_2 ((rd_T32 l0 x11_2).f0)).f1)) ∧ w103.cell? ⟨go42, (((rd_T32 l0 x11_2).f0)).toNat * 2, none⟩ = some (.int .i64 ((rd_T35 x10_2 ((rd_T32 l0 x11_2).f0)).f0)) ∧ w103.cell? ⟨go42, (((rd_T32 l0 x11_2).f0)).toNat * 2 + 1, none⟩ = some (.int .i64 ((rd_T35 x10_2 ((rd_T32 l0 x11_2).f0)).f1)) ∧ w103.cell? (ad178.add (((rd_T32 l0 x11_2).f0)).toNat) = some (.int .i64 (rd x6_1 ((rd_T32 l0 x11_2).f0))) := hS_
                                                            refine norm_ (a' := ?_) ?_ ?_
                                                            rotate_left
                                                            · simp only [putAll, Act.put, List.setIfInBounds_toArray, List.set_cons_zero, List.set_cons_succ]
                                                              rfl
                                                            refine one_ (i := 20) (N := none) #[true, true, true, true, true, true, true, true, true, true, true, true, true, true, true, true, true, true, true, true, true, false] rfl rfl (one_of HT_.out (by kernel_rfl)) (by decide) (fun K hK => ?_)
                                                            have hs104 : w103.cell? ⟨gb182, 0, none⟩ = some (.int .i64 0) := (blk_cell BK182.out 0).trans rfl
                                                            have hfs104 := blk_frozen BK182.out 0
                                                            have hs105 : w103.cell? ⟨gb182, 1, none⟩ = some (.int .i64 0) := (blk_cell BK182.out 1).trans rfl
                                                            have hfs105 := blk_frozen BK182.out 1
                                                            refine skip_ (w1 := ?_) (by rfl) rfl ?_ ?_
                                                            rotate_left
                                                            · go_simp
                                                              rfl
                                                            refine hK.out _ _ ⟨((cell_far (p := ⟨gb182, _, none⟩) (by first | (dsimp only; exact Kd.own_blk (Kd.R_away HO_10.out (fun _ hk => hk.2))) | exact Kd.own_blk (Kd.R_away HO_10.out (fun _ hk => hk.2)) | (rw [add_block]; exact Kd.own_blk (Kd.R_away HO_10.out (fun _ hk => hk.2))) | (show (Addr.add _ _).block ≠ _; rw [add_block]; exact Kd.own_blk (Kd.R_away HO_10.out (fun _ hk => hk.2)))) _).trans (((cell_far (p := ⟨gb182, _, none⟩) (by first | (dsimp only; exact Kd.own_blk (Kd.R_away HO_10.out (fun _ hk => hk.2))) | exact Kd.own_blk (Kd.R_away HO_10.out (fun _ hk => hk.2)) | (rw [add_block]; exact Kd.own_blk (Kd.R_away HO_10.out (fun _ hk => hk.2))) | (show (Addr.add _ _).block ≠ _; rw [add_block]; exact Kd.own_blk (Kd.R_away HO_10.out (fun _ hk => hk.2)))) _).trans (hHeld.1)))), ((cell_far (p := ⟨gb182, _, none⟩) (by first | (dsimp only; exact Kd.own_blk (Kd.R_away HO_10.out (fun _ hk => hk.2))) | exact Kd.own_blk (Kd.R_away HO_10.out (fun _ hk => hk.2)) | (rw [add_block]; exact Kd.own_blk (Kd.R_away HO_10.out (fun _ hk => hk.2))) | (show (Addr.add _ _).block ≠ _; rw [add_block]; exact Kd.own_blk (Kd.R_away HO_10.out (fun _ hk => hk.2)))) _).trans (((cell_far (p := ⟨gb182, _, none⟩) (by first | (dsimp only; exact Kd.own_blk (Kd.R_away HO_10.out (fun _ hk => hk.2))) | exact Kd.own_blk (Kd.R_away HO_10.out (fun _ hk => hk.2)) | (rw [add_block]; exact Kd.own_blk (Kd.R_away HO_10.out (fun _ hk => hk.2))) | (show (Addr.add _ _).block ≠ _; rw [add_block]; exact Kd.own_blk (Kd.R_away HO_10.out (fun _ hk => hk.2)))) _).trans (hHeld.2.1)))), ((cell_far (p := ⟨gb182, _, none⟩) (by first | (dsimp only; exact Kd.own_blk (Kd.R_away HO_10.out (fun _ hk => hk.2))) | exact Kd.own_blk (Kd.R_away HO_10.out (fun _ hk => hk.2)) | (rw [add_block]; exact Kd.own_blk (Kd.R_away HO_10.out (fun _ hk => hk.2))) | (show (Addr.add _ _).block ≠ _; rw [add_block]; exact Kd.own_blk (Kd.R_away HO_10.out (fun _ hk => hk.2)))) _).trans (((cell_far (p := ⟨gb182, _, none⟩) (by first | (dsimp only; exact Kd.own_blk (Kd.R_away HO_10.out (fun _ hk => hk.2))) | exact Kd.own_blk (Kd.R_away HO_10.out (fun _ hk => hk.2)) | (rw [add_block]; exact Kd.own_blk (Kd.R_away HO_10.out (fun _ hk => hk.2))) | (show (Addr.add _ _).block ≠ _; rw [add_block]; exact Kd.own_blk (Kd.R_away HO_10.out (fun _ hk => hk.2)))) _).trans (hHeld.2.2.1)))), ((cell_far (p := ⟨gb182, _, none⟩) (by first | (dsimp only; exact Kd.own_blk (Kd.R_away HO_10.out (fun _ hk => hk.2))) | exact Kd.own_blk (Kd.R_away HO_10.out (fun _ hk => hk.2)) | (rw [add_block]; exact Kd.own_blk (Kd.R_away HO_10.out (fun _ hk => hk.2))) | (show (Addr.add _ _).block ≠ _; rw [add_block]; exact Kd.own_blk (Kd.R_away HO_10.out (fun _ hk => hk.2)))) _).trans (((cell_far (p := ⟨gb182, _, none⟩) (by first | (dsimp only; exact Kd.own_blk (Kd.R_away HO_10.out (fun _ hk => hk.2))) | exact Kd.own_blk (Kd.R_away HO_10.out (fun _ hk => hk.2)) | (rw [add_block]; exact Kd.own_blk (Kd.R_away HO_10.out (fun _ hk => hk.2))) | (show (Addr.add _ _).block ≠ _; rw [add_block]; exact Kd.own_blk (Kd.R_away HO_10.out (fun _ hk => hk.2)))) _).trans (hHeld.2.2.2.1)))), ((cell_far (p := ⟨gb182, _, none⟩) (by first | (dsimp only; exact Kd.own_blk (Kd.R_ne HO_6.out BK182.out (by decide))) | exact Kd.own_blk (Kd.R_ne HO_6.out BK182.out (by decide)) | (rw [add_block]; exact Kd.own_blk (Kd.R_ne HO_6.out BK182.out (by decide))) | (show (Addr.add _ _).block ≠ _; rw [add_block]; exact Kd.own_blk (Kd.R_ne HO_6.out BK182.out (by decide)))) _).trans (((cell_far (p := ⟨gb182, _, none⟩) (by first | (dsimp only; exact Kd.own_blk (Kd.R_ne HO_6.out BK182.out (by decide))) | exact Kd.own_blk (Kd.R_ne HO_6.out BK182.out (by decide)) | (rw [add_block]; exact Kd.own_blk (Kd.R_ne HO_6.out BK182.out (by decide))) | (show (Addr.add _ _).block ≠ _; rw [add_block]; exact Kd.own_blk (Kd.R_ne HO_6.out BK182.out (by decide)))) _).trans (hHeld.2.2.2.2))))⟩ (fun hHeld => ?_)
                                                            clear hK K
                                                            refine pure_ (i := 21) (N := some 14) (v := ?_) (a' := ?_) #[true, true, true, true, true, true, true, true, true, true, true, true, true, true, true, true, true, true, true, true, true, true] rfl rfl (any_of HT_.out (by kernel_rfl)) (fun _ _ _ h => h) (Or.inl ⟨by rfl, ?_⟩) ?_ ?_
                                                            rotate_left
                                                            · intro w'
                                                              go_simp
                                                              with_reducible rfl
                                                            rotate_left
                                                            · simp only [Act.put, List.setIfInBounds_toArray, List.set_cons_zero, List.set_cons_succ, i64_w, i32_w]
                                                              rfl
                                                            refine done_ (done_of HT_.out (by kernel_rfl)) ?_
                                                            have n0_ : Aside0 (Kd.R Kd.bool 4 ((w103.setCell ⟨gb182, 0, none⟩ (.int .i64 t179)).setCell ⟨gb182, 1, none⟩ (.int .i64 t180)) w.heap.size (fun _ => True) (.slice (some ad150) t147.length co13) t147) := ⟨by (with_reducible repeat (first | apply Kd.R_alloc | apply Kd.R_drewN | apply Kd.R_drew)); exact Kd.R_mono (Kd.R_far (p := ⟨gb182, 1, none⟩) (Kd.R_far (p := ⟨gb182, 0, none⟩) (Kd.R_types HO_5.out BK182.out (by decide)) (fun _ hk => hk.2) (.int .i64 t179)) (fun _ hk => hk.2) (.int .i64 t180)) (fun _ hk => trivial)⟩
                                                            have n1_ : Aside0 (Kd.R (Kd.int .i64) 3 ((w103.setCell ⟨gb182, 0, none⟩ (.int .i64 t179)).setCell ⟨gb182, 1, none⟩ (.int .i64 t180)) w.heap.size (fun _ => True) (.slice (some ad178) x6_1.length co100) x6_1) := ⟨by (with_reducible repeat (first | apply Kd.R_alloc | apply Kd.R_drewN | apply Kd.R_drew)); exact Kd.R_mono (Kd.R_far (p := ⟨gb182, 1, none⟩) (Kd.R_far (p := ⟨gb182, 0, none⟩) (Kd.R_types HO_6.out BK182.out (by decide)) (fun _ hk => hk.2) (.int .i64 t179)) (fun _ hk => hk.2) (.int .i64 t180)) (fun _ hk => trivial)⟩
                                                            have n2_ : Aside0 (Kd.R k35 35 ((w103.setCell ⟨gb182, 0, none⟩ (.int .i64 t179)).setCell ⟨gb182, 1, none⟩ (.int .i64 t180)) w.heap.size (fun k_ => some k_ ≠ (.slice (some ⟨go42, 0, none⟩) x10_2.length co42 : Value).ownBlock ∧ k_ ≠ gb182) (.slice (some ⟨go40, 0, none⟩) y172.length co40) y172) := ⟨by (with_reducible repeat (first | apply Kd.R_alloc | apply Kd.R_drewN | apply Kd.R_drew)); exact Kd.R_mono (Kd.R_far (p := ⟨gb182, 1, none⟩) (Kd.R_far (p := ⟨gb182, 0, none⟩) (Kd.R_mono HO_9.out (fun k_ hk => (⟨hk, hk.2⟩ : _ ∧ k_ ≠ gb182))) (fun _ hk => hk.2) (.int .i64 t179)) (fun _ hk => hk.2) (.int .i64 t180)) (fun _ hk => ⟨hk.1.1, hk.1.2⟩)⟩
                                                            have n3_ : Aside0 (Kd.R k35 35 ((w103.setCell ⟨gb182, 0, none⟩ (.int .i64 t179)).setCell ⟨gb182, 1, none⟩ (.int .i64 t180)) w.heap.size (fun k_ => some k_ ≠ (.slice (some ⟨go40, 0, none⟩) y172.length co40 : Value).ownBlock ∧ k_ ≠ gb182) (.slice (some ⟨go42, 0, none⟩) x10_2.length co42) x10_2) := ⟨by (with_reducible repeat (first | apply Kd.R_alloc | apply Kd.R_drewN | apply Kd.R_drew)); exact Kd.R_mono (Kd.R_far (p := ⟨gb182, 1, none⟩) (Kd.R_far (p := ⟨gb182, 0, none⟩) (Kd.R_mono HO_10.out (fun k_ hk => (⟨hk, hk.2⟩ : _ ∧ k_ ≠ gb182))) (fun _ hk => hk.2) (.int .i64 t179)) (fun _ hk => hk.2) (.int .i64 t180)) (fun _ hk => ⟨hk.1.1, hk.1.2⟩)⟩
                                                            have n4_ : Aside0 (((w103.setCell ⟨gb182, 0, none⟩ (.int .i64 t179)).setCell ⟨gb182, 1, none⟩ (.int .i64 t180)).heap[gb182]? = some (.cells #[.int .i64 t179, .int .i64 t180] 35 (0, 0))) := ⟨by (with_reducible repeat (first | refine blk_drewN ?_ _ | refine blk_drew ?_ | refine blk_alloc ?_ _)); refine blk_put (cs := #[.int .i64 t179, .int .i64 0]) ?_ 1 _ rfl; (with_reducible repeat (first | refine blk_drewN ?_ _ | refine blk_drew ?_ | refine blk_alloc ?_ _)); refine blk_put (cs := #[.int .i64 0, .int .i64 0]) ?_ 0 _ rfl; (with_reducible repeat (first | refine blk_drewN ?_ _ | refine blk_drew ?_ | refine blk_alloc ?_ _)); exact BK182.out⟩
                                                            have n5_ : Aside0 (Below w.heap.size w ((w103.setCell ⟨gb182, 0, none⟩ (.int .i64 t179)).setCell ⟨gb182, 1, none⟩ (.int .i64 t180))) := ⟨by repeat (first | (with_reducible first | exact HB.out | apply below_alloc | apply pw_below_drewN | apply below_drew1 | refine below_set ?_ GE182.out) | exact HB.out)⟩
                                                            (try clear HO_5)
                                                            (try clear HO_6)
                                                            (try clear HO_9)
                                                            (try clear HO_10)
                                                            (try clear BK182)
                                                            (try clear HB)
                                                            generalize ((w103.setCell ⟨gb182, 0, none⟩ (.int .i64 t179)).setCell ⟨gb182, 1, none⟩ (.int .i64 t180)) = w106 at n0_ n1_ n2_ n3_ n4_ n5_ ⊢
                                                            have HO_5 := n0_
                                                            have HO_6 := n1_
                                                            have HO_9 := n2_
                                                            have HO_10 := n3_
                                                            have BK182 := n4_
                                                            have HB := n5_
                                                            clear n0_ n1_ n2_ n3_ n4_ n5_
                                                            have hcz107_0 : w106.cell? ⟨gb182, 0, none⟩ = some (.int .i64 t179) := (blk_cell BK182.out 0).trans rfl
                                                            have hcz107_1 : w106.cell? ⟨gb182, 1, none⟩ = some (.int .i64 t180) := (blk_cell BK182.out 1).trans rfl
                                                            have hfz107_0 := blk_frozen BK182.out 0
                                                            have hfz107_1 := blk_frozen BK182.out 1
                                                            have p76 : 0 ≤ (x11_2 : Int) := of_decide_eq_true (by first | (with_reducible assumption) | assumption)
                                                            have q76 : (x11_2 : Int) < ((x10_2.length : Int) : Int) := of_decide_eq_true (by first | (with_reducible assumption) | assumption)
                                                            obtain ⟨ce76, hcl76, hM76, hcc76, hfr76⟩ := Kd.R_elem HO_10.out z35 (x11_2 : Int) p76 q76
                                                            obtain rfl := k35_openM hM76
                                                            have hx76_0 : w106.cell? ⟨go42, (x11_2 : Int).toNat * 2, none⟩ = some (.int .i64 ((rd_T35 x10_2 x11_2).f0)) := hcc76 0 _ rfl
                                                            have hx76_1 : w106.cell? ⟨go42, (x11_2 : Int).toNat * 2 + 1, none⟩ = some (.int .i64 ((rd_T35 x10_2 x11_2).f1)) := hcc76 1 _ rfl
                                                            have hf76_0 : w106.frozen? ⟨go42, (x11_2 : Int).toNat * 2, none⟩ = false := hfr76 0
                                                            have hf76_1 : w106.frozen? ⟨go42, (x11_2 : Int).toNat * 2 + 1, none⟩ = false := hfr76 1
                                                            clear hcl76 hcc76 hfr76 hM76
                                                            replace p76 := eq_true p76
                                                            replace q76 := eq_true q76
                                                            have HX108 := Aside0.mk (show Kd.R k35 35 w106 w.heap.size (fun k_ => some k_ ≠ (.slice (some ⟨go40, 0, none⟩) y172.length co40 : Value).ownBlock ∧ k_ ≠ gb182) (.slice (some ⟨go42, 0, none⟩) x10_2.length co42) x10_2 from (by (with_reducible repeat (first | apply Kd.R_alloc | apply Kd.R_drewN | apply Kd.R_drew)); exact HO_10.out))
                                                            obtain ⟨ce108, hcl108, hM108, hcc108, hfr108⟩ := Kd.R_elem HX108.out z35 (x11_2 : Int) (of_decide_eq_true (by first | (with_reducible assumption) | assumption)) (by have h_ : (x11_2 : Int) < ((x10_2.length : Int) : Int) := of_decide_eq_true (by first | (with_reducible assumption) | assumption); first | exact h_ | (have e_ := (Kd.R_reads' HO_10.out).1; omega) | simpa using h_)
                                                            obtain rfl := k35_openM hM108
                                                            have HP108 := Kd.R_seg HX108.out (x11_2 : Int) (of_decide_eq_true (by first | (with_reducible assumption) | assumption)) (by have h_ : (x11_2 : Int) < ((x10_2.length : Int) : Int) := of_decide_eq_true (by first | (with_reducible assumption) | assumption); first | exact h_ | (have e_ := (Kd.R_reads' HO_10.out).1; omega) | simpa using h_) (seg := [.int .i64 t179, .int .i64 t180]) (j := 0) hcl108 hcc108 (show 2 ≤ 2 from by decide) (x' := (⟨t179, t180⟩ : S35)) (k35_mkM _ _ _ (⟨t179, t180⟩ : S35) ) (fun _ hk => hk)
                                                            have hx108_0 := hcc108 0 _ rfl
                                                            (try simp only [show (k35).sz = 2 from rfl, Nat.mul_one, Nat.add_zero] at hx108_0)
                                                            have hf108_0 := hfr108 0
                                                            (try simp only [show (k35).sz = 2 from rfl, Nat.mul_one, Nat.add_zero] at hf108_0)
                                                            have hx108_1 := hcc108 1 _ rfl
                                                            (try simp only [show (k35).sz = 2 from rfl, Nat.mul_one, Nat.add_zero] at hx108_1)
                                                            have hf108_1 := hfr108 1
                                                            (try simp only [show (k35).sz = 2 from rfl, Nat.mul_one, Nat.add_zero] at hf108_1)
                                                            clear hcl108 hcc108 hfr108 hM108
                                                            try go_wp2_with (first | ((with_reducible refine gate_store (t := 35) (p := 119) rfl ?_); refine store_event (t := 35) (p := 119) (v := ?vo_w109) (w1 := ((w106.setCell ⟨go42, (x11_2 : Int).toNat * 2, none⟩ (.int .i64 t179)).setCell ⟨go42, (x11_2 : Int).toNat * 2 + 1, none⟩ (.int .i64 t180))) ?hg ?ho ?hn ?hr ?_; (case ho => rfl); (case hg => rfl); (case hn => rfl); (case hr => first | (go_simp; done) | (go_simp; rfl)); intro w109 hw; have hg : w106.grownBy w109 (some go42) := (by rw [hw]; exact HP108.2); have hp_ : Kd.R k35 35 w109 w.heap.size (fun k_ => some k_ ≠ (.slice (some ⟨go40, 0, none⟩) y172.length co40 : Value).ownBlock ∧ k_ ≠ gb182) (.slice (some ⟨go42, 0, none⟩) x10_2.length co42) y183 := (by rw [hw, Ny183.out]; exact HP108.1); clear HP108; have n0_ := Aside0.mk (Kd.R_over' (v := (.slice (some ⟨go42, 0, none⟩) x10_2.length co42)) (by (with_reducible repeat (first | apply Kd.R_alloc | apply Kd.R_drewN | apply Kd.R_drew)); exact HO_5.out) (Kd.R_typed HO_10.out) (by decide) hg); have n1_ := Aside0.mk (Kd.R_over' (v := (.slice (some ⟨go42, 0, none⟩) x10_2.length co42)) (by (with_reducible repeat (first | apply Kd.R_alloc | apply Kd.R_drewN | apply Kd.R_drew)); exact HO_6.out) (Kd.R_typed HO_10.out) (by decide) hg); have n2_ := Aside0.mk (Kd.R_after (v := (.slice (some ⟨go42, 0, none⟩) x10_2.length co42)) (v1 := (.slice (some ⟨go42, 0, none⟩) x10_2.length co42)) (ok := (fun k_ => k_ ≠ gb182)) (by (with_reducible repeat (first | apply Kd.R_alloc | apply Kd.R_drewN | apply Kd.R_drew)); exact Kd.R_mono HO_9.out (fun _ hk => ⟨hk.2, hk.1⟩)) hg (.inl rfl)); have n3_ := Aside0.mk (hp_); have n4_ := Aside0.mk (blk_grown (g := gb182) (o := .cells #[.int .i64 t179, .int .i64 t180] 35 (0, 0)) (by (with_reducible repeat (first | refine blk_drewN ?_ _ | refine blk_drew ?_ | refine blk_alloc ?_ _)); exact BK182.out) hg (Kd.R_away HO_10.out (fun _ hk => hk.2))); have n5_ := Aside0.mk ((by rw [hw]; exact below_set (below_set (HB.out) GB42.out) GB42.out : Below w.heap.size w w109)); clear HO_5; clear HO_6; clear HO_9; clear HO_10; clear BK182; clear HB; have HO_5 := n0_; have HO_6 := n1_; have HO_9 := n2_; have HO_10 := n3_; have BK182 := n4_; have HB := n5_; clear n0_ n1_ n2_ n3_ n4_ n5_; clear hg hw hp_; have p184 : 0 ≤ (x11_2 : Int) := of_decide_eq_true (by first | (with_reducible assumption) | assumption); have q184 : x11_2 < (l0.length : Int) := of_decide_eq_true (by first | (with_reducible assumption) | assumption); obtain ⟨ad184, e184, hx184_0, hx184_1⟩ := at_T32 HR0.out x11_2 p184 q184; (try rw [← Nbq6.out] at hx184_1); (try rw [← Nbq78.out] at hx184_1); obtain rfl : ad171 = ad184 := (by injection e184); replace hx184_0 := (HB.out.cell (World.block_lt_of_cell? w _ hx184_0)).trans hx184_0; replace hx184_1 := (HB.out.cell (World.block_lt_of_cell? w _ hx184_1)).trans hx184_1; replace p184 := eq_true p184; replace q184 := eq_true q184))
                                                            (try simp only [← hl9_2, ← hl10_2, ← hl9_54])
                                                            go_roundg kj54
                                                            case measure => have := HK1.out; have := HK2.out; have := HJ54.out; omega
                                                            case rel => exact ⟨(y172), (y183), (wrap64 (x11_2 + 1)), (by first | rfl | (simp; done) | (simp [*]; done)), H', ⟨by have := HK1.out; have := HK2.out; have := HJ54.out; omega⟩, ⟨by (try simp only [hl9_2]); (try simp only [hl10_2]); (try simp only [hl9_54]); (with_reducible repeat (first | apply Kd.R_alloc | apply Kd.R_drewN | apply Kd.R_drew)); exact HO_5.out⟩, ⟨by (try simp only [hl9_2]); (try simp only [hl10_2]); (try simp only [hl9_54]); (with_reducible repeat (first | apply Kd.R_alloc | apply Kd.R_drewN | apply Kd.R_drew)); exact HO_6.out⟩, ⟨by (try simp only [hl9_2]); (try simp only [hl10_2]); (try simp only [hl9_54]); (with_reducible repeat (first | apply Kd.R_alloc | apply Kd.R_drewN | apply Kd.R_drew)); exact Kd.R_mono HO_9.out (fun _ hk => hk.2)⟩, ⟨by (try simp only [hl9_2]); (try simp only [hl10_2]); (try simp only [hl9_54]); (with_reducible repeat (first | apply Kd.R_alloc | apply Kd.R_drewN | apply Kd.R_drew)); exact Kd.R_mono HO_10.out (fun _ hk => hk.1)⟩, ⟨by repeat (first | (with_reducible first | exact HB.out | apply below_alloc | apply pw_below_drewN | apply below_drew1 | refine below_set ?_ GE182.out) | exact HB.out)⟩⟩
                                                        · rw [if_neg c77] at H
                                                          exact absurd H (by simp)
                                                      · rw [if_neg c75] at H
                                                        exact absurd H (by simp)
                                                    · rw [if_neg c74] at H
                                                      exact absurd H (by simp)
                                                  · rw [if_neg c73] at H
                                                    exact absurd H (by simp)
                                                · rw [if_neg c71] at H
                                                  exact absurd H (by simp)
                                              · rw [if_neg c70] at H
                                                exact absurd H (by simp)
                                            · rw [if_neg c69] at H
                                              exact absurd H (by simp)
                                    · rw [if_neg c53] at H
                                      exact absurd H (by simp)
                                  · rw [if_neg c52] at H
                                    exact absurd H (by simp)
                                · rw [if_neg c51] at H
                                  have c51b0 : decide (x11_2 < (l0.length : Int)) = false := decide_eq_false c51
                                  clear c51
                                  simp only [Option.some.injEq, Prod.mk.injEq] at H
                                  obtain ⟨rfl, rfl⟩ := H
                                  go_wp2
                                  go_ret2
                                  exact ⟨_, by first | rfl | (simp [errW_none, errW_some] <;> rfl) | (simp [*, errW_none, errW_some] <;> rfl), by (with_reducible repeat (first | apply Kd.R_alloc | apply Kd.R_drewN | apply Kd.R_drew)); exact Kd.R_mono HO_9.out (fun _ hk => trivial), by repeat (first | (with_reducible first | exact HB.out | apply below_alloc | apply pw_below_drewN | apply below_drew1) | exact HB.out)⟩
                          · rw [if_neg c41] at H
                            exact absurd H (by simp)
                        · rw [if_neg c39] at H
                          exact absurd H (by simp)
                      · rw [if_neg c38] at H
                        exact absurd H (by simp)
                    · rw [if_neg c37] at H
                      exact absurd H (by simp)
            · rw [if_neg c10] at H
              exact absurd H (by simp)
          · rw [if_neg c9] at H
            exact absurd H (by simp)
        · rw [if_neg c8] at H
          exact absurd H (by simp)
      · replace c7 := Bool.eq_false_iff.mpr c7
        subst c7
        have H1 : (some (([] : List (S35)), 4)) = some (r1, r2) := by rw [if_neg (show ¬ (false = true) by decide)] at H; exact H
        clear H
        have H := H1
        clear H1
        simp only [Option.some.injEq, Prod.mk.injEq] at H
        obtain ⟨rfl, rfl⟩ := H
        go_enter Try.func13, Try.ntmps13
        go_wp2_with (first | ((with_reducible refine gate_callee (f := 48) rfl ?_); refine goesL_ (some 16) rfl rfl Try.func48 (by kernel_rfl) rfl #[.slice A0 l0.length c0] rfl (by (try simp only [List.map_toArray, List.map_cons, List.map_nil]); first | done | rfl | (simp only [List.length_drop, List.length_take]; rfl)) ?_; (with_reducible refine (part_family.calls k _ _ l0 t146 _ ?side1 ?side2 A2.out).mono ?_); (case side1 => repeat (first | exact HR0.out | (with_reducible refine Kd.C_alloc ?_ _) | (with_reducible refine Kd.C_drewN ?_ _) | (with_reducible refine Kd.C_drew ?_))); (case side2 => exact HC0.out); rintro e w110 ⟨rfl, hb⟩; refine ⟨_, rfl, ?_⟩; have n0_ := Aside0.mk (below_step (by repeat (first | (with_reducible first | exact HB.out | apply below_alloc | apply pw_below_drewN | apply below_drew1) | exact HB.out)) hb); clear HB; have HB := n0_; clear n0_; (try clear hb); (try clear hb2); (try clear hk); (try clear hi)) | ((with_reducible refine gate_callee (f := 49) rfl ?_); refine goesL_ (some 21) rfl rfl Try.func49 (by kernel_rfl) rfl #[.slice A0 l0.length c0] rfl (by (try simp only [List.map_toArray, List.map_cons, List.map_nil]); first | done | rfl | (simp only [List.length_drop, List.length_take]; rfl)) ?_; (with_reducible refine (part_heir.calls k _ _ l0 t147 _ ?side1 ?side2 A4.out).mono ?_); (case side1 => repeat (first | exact (Kd.C_below HR0.out HB.out) | (with_reducible refine Kd.C_alloc ?_ _) | (with_reducible refine Kd.C_drewN ?_ _) | (with_reducible refine Kd.C_drew ?_))); (case side2 => exact HC0.out); rintro e w111 ⟨v148, rfl, ho0, hb⟩; refine ⟨_, rfl, ?_⟩; have n0_ := Aside0.mk (Kd.R_lower ho0 (below_size (by repeat (first | (with_reducible first | exact HB.out | apply below_alloc | apply pw_below_drewN | apply below_drew1) | exact HB.out)))); have n1_ := Aside0.mk (below_step (by repeat (first | (with_reducible first | exact HB.out | apply below_alloc | apply pw_below_drewN | apply below_drew1) | exact HB.out)) hb); clear HB; have HO149 := n0_; have HB := n1_; clear n0_ n1_; (try clear hb); (try clear hb2); (try clear hk); (try clear hi); (try clear ho0); obtain ⟨Ao112, co112, eo112⟩ := Kd.R_slice HO149.out; subst eo112; have p150 : 0 ≤ (0 : Int) := (by omega); have q150 : 0 < (t147.length : Int) := of_decide_eq_true (by first | (with_reducible assumption) | assumption); obtain ⟨ad150, e150, hx150_0⟩ := Kd.at_bool (Kd.R_reads' HO149.out).2.2 0 p150 q150; (try rw [← Nbq6.out] at hx150_0); cases e150; have qi150 : (0 < t147.length) = True := eq_true (by omega); (try rw [show ((0 : Int)).toNat = 0 from rfl] at hx150_0); (try rw [Addr.add_zero'] at hx150_0); replace p150 := eq_true p150; replace q150 := eq_true q150))
        go_ret2
        exact ⟨_, by first | rfl | (simp [errW_none, errW_some] <;> rfl) | (simp [*, errW_none, errW_some] <;> rfl), by first | exact Kd.R_nil _ _ _ _ _ | exact Kd.N_nil _ _ _ _ _ | exact Kd.V_nil _ _ _ _ _ | exact Kd.Q_nil _ _ _ _ _ | exact Kd.S_nil _ _ _ _ _, by repeat (first | (with_reducible first | exact HB.out | apply below_alloc | apply pw_below_drewN | apply below_drew1) | exact HB.out)⟩
    · rw [if_neg c5] at H
      exact absurd H (by simp)
  · rw [if_neg c3] at H
    exact absurd H (by simp)

end Go.Proofs.Ytkcmjdbeiclbkaa.PPartEstate
