/- The machine side of a law, written by a program of this session (wip/mp). -/
import Derived.Test.YtkjneemcledfjaaGreatDoorPBookReplaysx0
import Derived.Test.YtkjneemcledfjaaGreatDoorPBookReplaysx3
import Derived.Test.YtkjneemcledfjaaGreatDoorPBookReplaysx4
namespace Go.Proofs.YtkjneemcledfjaaGreatDoor.PBookReplays
open Go.RowKit Go.Proofs.YtkjneemcledfjaaGreatDoorW.PrintWords Go.Proofs.YtkjneemcledfjaaGreatDoorW.PrintLast Go.Proofs.YtkjneemcledfjaaGreatDoorW.PrintMore
attribute [local go_sem] max2_int min2_int max_two min_two max_three min_three max_four min_four   -- for this text's walks alone
set_option linter.unusedVariables false
set_option linter.unusedSimpArgs false

/-! ### book_Read: function 30 -/
def book_Read.l0 : Nat → ByteArray → List ByteArray → List Int → List ByteArray → Int → Int → Option (Int × ByteArray × Int × Int × Int × Int × Int × Int)
  | 0, _, _, _, _, _, _ => none
  | k + 1, x0, x4, x5, x33, x34, x35 => if x35 < x34 then (if 0 ≤ x35 then (if x35 < (x33.length : Int) then ((strconv_Atoi.f (rdOf ByteArray.empty x33 x35)).bind fun bt170 => (if bt170.2.isNone = true then (if x35 < (x5.length : Int) then (book_Read.l0 k x0 x4 (x5.set (x35 : Int).toNat bt170.1) x33 x34 (wrap64 (x35 + 1))) else (none)) else (none))) else (none)) else (none)) else (if 5 < (x4.length : Int) then ((unit_Read.f k (rdOf ByteArray.empty x4 5)).bind fun bt175 => (if 0 < (x5.length : Int) then (if 1 < (x5.length : Int) then (if 2 < (x4.length : Int) then (if 2 < (x5.length : Int) then (if 3 < (x5.length : Int) then (if bt175.2.2 = 0 then ((book_Text.f k (rd x5 1) (rdOf ByteArray.empty x4 2) bt175.1 bt175.2.1 (rd x5 2) (rd x5 3) (rd x5 0)).bind fun bt185 => (if bt185.2 = 0 then (if bt185.1.toList = x0.toList then (some (rd x5 1, rdOf ByteArray.empty x4 2, bt175.1, bt175.2.1, rd x5 2, rd x5 3, rd x5 0, 0)) else (none)) else (none))) else (none)) else (none)) else (none)) else (none)) else (none)) else (none))) else (none))
def book_Read.f (k : Nat) (a0 : ByteArray) : Option (Int × ByteArray × Int × Int × Int × Int × Int × Int) := (strings_SplitN.f a0 (⟨#[32]⟩ : ByteArray) 6).bind fun t156 => (if (t156.length : Int) < 6 then (none) else (if 4 ≤ 35184372088832 then (if 0 < (t156.length : Int) then (if 1 < (t156.length : Int) then (if 3 < (t156.length : Int) then (if 4 < (t156.length : Int) then ((some (([rdOf ByteArray.empty t156 0, rdOf ByteArray.empty t156 1, rdOf ByteArray.empty t156 3, rdOf ByteArray.empty t156 4] : List ByteArray) : List ByteArray)).bind fun y166 => (book_Read.l0 k a0 t156 (List.replicate 4 0) y166 (y166.length : Int) 0)) else (none)) else (none)) else (none)) else (none)) else (none)))
theorem book_Read.mono_l : ∀ k, (∀ y0 y1 y2 y3 y4 y5, LeO (book_Read.l0 k y0 y1 y2 y3 y4 y5) (book_Read.l0 (k + 1) y0 y1 y2 y3 y4 y5))
  | 0 => fun _ _ _ _ _ _ r h => by simp [book_Read.l0] at h
  | k + 1 => by
    have ih0 := book_Read.mono_l k
    · intro y0 y1 y2 y3 y4 y5
      unfold book_Read.l0
      repeat' first
      | (with_reducible exact ih0 _ _ _ _ _ _)
      | (with_reducible exact book_Text.mono _ _ _ _ _ _ _ _)
      | (with_reducible exact unit_Read.mono _ _)
      | (with_reducible exact LeO.refl _)
      | (with_reducible exact LeO.none _)
      | (with_reducible refine LeO.ite ?_ ?_)
      | (with_reducible refine LeO.bind ?_ (fun _ => ?_))
      | exact ih0 _ _ _ _ _ _
      | exact book_Text.mono _ _ _ _ _ _ _ _
      | exact unit_Read.mono _ _
      | exact LeO.none _
      | refine LeO.ite ?_ ?_
      | refine LeO.bind ?_ (fun _ => ?_)
theorem book_Read.mono : ∀ a0 k, LeO (book_Read.f k a0) (book_Read.f (k + 1) a0) := by
  intro a0 k
  have ih0 := book_Read.mono_l k
  unfold book_Read.f
  repeat' first
      | (with_reducible exact ih0 _ _ _ _ _ _)
      | (with_reducible exact book_Text.mono _ _ _ _ _ _ _ _)
      | (with_reducible exact unit_Read.mono _ _)
      | (with_reducible exact LeO.refl _)
      | (with_reducible exact LeO.none _)
      | (with_reducible refine LeO.ite ?_ ?_)
      | (with_reducible refine LeO.bind ?_ (fun _ => ?_))
      | exact ih0 _ _ _ _ _ _
      | exact book_Text.mono _ _ _ _ _ _ _ _
      | exact unit_Read.mono _ _
      | exact LeO.none _
      | refine LeO.ite ?_ ?_
      | refine LeO.bind ?_ (fun _ => ?_)
def book_Read.T5 : Bool × List (List Nat × List Nat) := (true, [([], []), ([0], [0]), ([1], [1]), ([], []), ([3], [3]), ([4], [4]), ([], []), ([6], [6]), ([7], [7]), ([], []), ([9], [9]), ([10], [10]), ([2, 5, 8, 11], [2, 5, 8, 11]), ([12], [12]), ([], [])])
def book_Read.B5 : List Nat := [0, 1, 3, 0, 8, 24, 0, 64, 192, 0, 512, 1536, 4095, 8191, 0]
theorem book_Read.tab5 : rtab .any (opsOf Tryz.f30 5) = book_Read.T5 := by kernel_rfl
theorem book_Read.bits5 : waitsOk book_Read.T5.2 book_Read.B5 = true := by kernel_rfl
def book_Read.T14 : Bool × List (List Nat × List Nat) := (true, [([], []), ([0], [0]), ([], []), ([2], [2]), ([], []), ([4], [4]), ([5], [5]), ([], []), ([7], [7]), ([], []), ([9], [9]), ([], []), ([1, 3, 6, 8, 10, 11], [1, 3, 6, 8, 10, 11]), ([], []), ([13, 12, 0, 1, 2, 3, 4, 5, 6, 7, 8, 9, 10, 11, 12, 13], [12, 13])])
def book_Read.B14 : List Nat := [0, 1, 0, 4, 0, 16, 48, 0, 128, 0, 512, 0, 4095, 0, 16383]
theorem book_Read.tab14 : rtab .any (opsOf Tryz.f30 14) = book_Read.T14 := by kernel_rfl
theorem book_Read.bits14 : waitsOk book_Read.T14.2 book_Read.B14 = true := by kernel_rfl
theorem book_Read.idx (w : World) (a : Addr) (i : Int) : (Instr.indexAt 120 (.pointer (some a)) (.int .i64 i)).run Tryz.prog w = if 0 ≤ i ∧ i < 4 then .ok (.pointer (some (a.add (i.toNat * 1)))) w else (boundsPanic .i64 i 4 .index).run Tryz.prog w := by
  have h : Tryz.prog.underlying 120 = some (.array 4 3) := Tryz.underlying120
  simp [Instr.indexAt, run_underlying h, Instr.sureAddr, asIntOf, Tryz.sizeOf3]
theorem book_Read.own {g : Nat} {w : World} (h : w.heap[g]? = some (.cells #[.int .i64 0, .int .i64 0, .int .i64 0, .int .i64 0] 120 (0, 0))) : Kd.R (Kd.int .i64) 120 w g (fun _ => True) (.slice (some ⟨g, 0, none⟩) 4 4) (List.replicate 4 0) :=
  Kd.R_of_own (enc := Value.int .i64) (h1 := fun _ => rfl) ⟨rfl, .inr ⟨g, 4, _, rfl, Nat.le_refl _, h, by decide, by unfold maxLen; omega, rfl, rfl⟩⟩ (fun _ _ => trivial)
attribute [local go_sem] book_Read.idx
set_option maxHeartbeats 8000000 in
set_option maxRecDepth 100000 in
theorem book_Read.calls (k : Nat) (a0 : ByteArray) (r1 : Int) (r2 : ByteArray) (r3 : Int) (r4 : Int) (r5 : Int) (r6 : Int) (r7 : Int) (r8 : Int) (w : World) (henv : StrEnv w) (h : book_Read.f k a0 = some (r1, r2, r3, r4, r5, r6, r7, r8)) :
    Calls Tryz.prog 30 #[.string a0] w fun e w' => e = .returned (.tuple #[.agg #[.int .i64 r1, .string r2, .int .i64 r3, .int .i64 r4, .int .i64 r5, .int .i64 r6, .int .i64 r7], .int .i64 r8]) ∧ Below w.heap.size w w' := by
  have HENV := Aside0.mk henv
  clear henv
  have hu48 := Tryz.underlying48
  have hu46 := Tryz.underlying46
  have hu122 := Tryz.underlying122
  have HB := Aside0.mk (Below.refl w.heap.size w)
  have H : ((strings_SplitN.f a0 (⟨#[32]⟩ : ByteArray) 6).bind fun t156 => (if (t156.length : Int) < 6 then (none) else (if 4 ≤ 35184372088832 then (if 0 < (t156.length : Int) then (if 1 < (t156.length : Int) then (if 3 < (t156.length : Int) then (if 4 < (t156.length : Int) then ((some (([rdOf ByteArray.empty t156 0, rdOf ByteArray.empty t156 1, rdOf ByteArray.empty t156 3, rdOf ByteArray.empty t156 4] : List ByteArray) : List ByteArray)).bind fun y166 => (book_Read.l0 k a0 t156 (List.replicate 4 0) y166 (y166.length : Int) 0)) else (none)) else (none)) else (none)) else (none)) else (none)))) = some (r1, r2, r3, r4, r5, r6, r7, r8) := h
  clear h
  replace H := Option.bind_eq_some_iff.mp H
  obtain ⟨t156, A20, H⟩ := H
  replace H : (if (t156.length : Int) < 6 then (none) else (if 4 ≤ 35184372088832 then (if 0 < (t156.length : Int) then (if 1 < (t156.length : Int) then (if 3 < (t156.length : Int) then (if 4 < (t156.length : Int) then ((some (([rdOf ByteArray.empty t156 0, rdOf ByteArray.empty t156 1, rdOf ByteArray.empty t156 3, rdOf ByteArray.empty t156 4] : List ByteArray) : List ByteArray)).bind fun y166 => (book_Read.l0 k a0 t156 (List.replicate 4 0) y166 (y166.length : Int) 0)) else (none)) else (none)) else (none)) else (none)) else (none))) = some (r1, r2, r3, r4, r5, r6, r7, r8) := H
  have A2 := Aside0.mk A20
  clear A20
  by_cases c3 : (t156.length : Int) < 6
  · rw [if_pos c3] at H
    have c3b0 : decide ((t156.length : Int) < 6) = true := decide_eq_true c3
    have c3b1 : decide (t156.length < 6) = true := decide_eq_true (by omega)
    clear c3
    exact absurd H (by simp)
  · rw [if_neg c3] at H
    have c3b0 : decide ((t156.length : Int) < 6) = false := decide_eq_false c3
    have c3b1 : decide (t156.length < 6) = false := decide_eq_false (by omega)
    clear c3
    by_cases c4 : 4 ≤ 35184372088832
    · rw [if_pos c4] at H
      have c4b0 := eq_true c4
      have c4b1 : decide (4 ≤ 35184372088832) = true := decide_eq_true c4
      clear c4
      obtain ⟨y159, hy159⟩ : ∃ y_ : List Int, y_ = (List.replicate 4 0) := ⟨_, rfl⟩
      replace H : (if 0 < (t156.length : Int) then (if 1 < (t156.length : Int) then (if 3 < (t156.length : Int) then (if 4 < (t156.length : Int) then ((some (([rdOf ByteArray.empty t156 0, rdOf ByteArray.empty t156 1, rdOf ByteArray.empty t156 3, rdOf ByteArray.empty t156 4] : List ByteArray) : List ByteArray)).bind fun y166 => (book_Read.l0 k a0 t156 y159 y166 (y166.length : Int) 0)) else (none)) else (none)) else (none)) else (none)) = some (r1, r2, r3, r4, r5, r6, r7, r8) := by first | (rw [hy159]; with_reducible exact H) | (have H2_ := (Option.bind_some _ _).symm.trans H; rw [hy159]; with_reducible exact H2_) | (have H2_ := (Option.bind_some _ _).symm.trans H; with_reducible exact H2_) | with_reducible exact H | (rw [hy159]; exact H) | exact H
      have Ny159 := Aside0.mk hy159
      clear hy159
      by_cases c5 : 0 < (t156.length : Int)
      · rw [if_pos c5] at H
        have c5b0 : decide (0 < (t156.length : Int)) = true := decide_eq_true c5
        have c5b1 : decide (0 < t156.length) = true := decide_eq_true (by omega)
        clear c5
        by_cases c6 : 1 < (t156.length : Int)
        · rw [if_pos c6] at H
          have c6b0 : decide (1 < (t156.length : Int)) = true := decide_eq_true c6
          have c6b1 : decide (1 < t156.length) = true := decide_eq_true (by omega)
          clear c6
          by_cases c7 : 3 < (t156.length : Int)
          · rw [if_pos c7] at H
            have c7b0 : decide (3 < (t156.length : Int)) = true := decide_eq_true c7
            have c7b1 : decide (3 < t156.length) = true := decide_eq_true (by omega)
            clear c7
            by_cases c8 : 4 < (t156.length : Int)
            · rw [if_pos c8] at H
              have c8b0 : decide (4 < (t156.length : Int)) = true := decide_eq_true c8
              have c8b1 : decide (4 < t156.length) = true := decide_eq_true (by omega)
              clear c8
              obtain ⟨y166, hy166⟩ : ∃ y_ : List ByteArray, y_ = (([rdOf ByteArray.empty t156 0, rdOf ByteArray.empty t156 1, rdOf ByteArray.empty t156 3, rdOf ByteArray.empty t156 4] : List ByteArray)) := ⟨_, rfl⟩
              replace H : (book_Read.l0 k a0 t156 y159 y166 (y166.length : Int) 0) = some (r1, r2, r3, r4, r5, r6, r7, r8) := by first | (rw [hy166]; with_reducible exact H) | (have H2_ := (Option.bind_some _ _).symm.trans H; rw [hy166]; with_reducible exact H2_) | (have H2_ := (Option.bind_some _ _).symm.trans H; with_reducible exact H2_) | with_reducible exact H | (rw [hy166]; exact H) | exact H
              have Ny166 := Aside0.mk hy166
              clear hy166
              have H' := Aside0.mk H
              clear H
              go_enter Tryz.func30, Tryz.ntmps30
              try go_wp2_with (first | ((with_reducible refine gate_dst (N := 2) rfl ?_); refine box_event ?hg (N := 2) ?hd (cs := #[.int .i64 0, .string (⟨#[]⟩ : ByteArray), .int .i64 0, .int .i64 0, .int .i64 0, .int .i64 0, .int .i64 0]) (t := 48) ?hr ?_; (case hd => rfl); (case hg => rfl); (case hr => first | (go_simp; done) | (go_simp; rfl)); intro gb155 hg w9 hbox hb; have n0_ := Aside0.mk (below_step (by repeat (first | (with_reducible first | exact HB.out | apply below_alloc | apply pw_below_drewN | apply below_drew1) | exact HB.out)) hb); have n1_ := Aside0.mk (hbox); have n2_ := Aside0.mk ((by rw [hg]; exact (below_size (by repeat (first | (with_reducible first | exact HB.out | apply below_alloc | apply pw_below_drewN | apply below_drew1) | exact HB.out))) : w.heap.size ≤ gb155)); have n3_ := Aside0.mk ((by rw [hg]; exact (below_size (by repeat (first | (with_reducible first | exact HB.out | apply below_alloc | apply pw_below_drewN | apply below_drew1) | exact HB.out))) : w.heap.size ≤ gb155)); clear HB; have HB := n0_; have BK155 := n1_; have GW155 := n2_; have GE155 := n3_; clear n0_ n1_ n2_ n3_; clear hb hbox hg) | ((with_reducible refine gate_callee (f := 52) rfl ?_); refine goesL_ (some 16) rfl rfl Tryz.func52 (by kernel_rfl) rfl #[.string a0, .string (⟨#[32]⟩ : ByteArray), .int .i64 6] rfl (by (try simp only [List.map_toArray, List.map_cons, List.map_nil]); first | done | rfl | (simp only [List.length_drop, List.length_take]; rfl)) ?_; (with_reducible refine (strings_SplitN.calls a0 (⟨#[32]⟩ : ByteArray) 6 t156 _ ?sideE A2.out).mono ?_); (case sideE => exact HENV.out.below (by repeat (first | (with_reducible first | exact HB.out | apply below_alloc | apply pw_below_drewN | apply below_drew1 | refine below_set ?_ GE155.out | refine below_set ?_ GE178.out | refine below_set ?_ GE184.out) | exact HB.out))); rintro e w10 ⟨v157, rfl, ho0, hb⟩; refine ⟨_, rfl, ?_⟩; have n0_ := Aside0.mk (Kd.R_lower ho0 (below_size (by repeat (first | (with_reducible first | exact HB.out | apply below_alloc | apply pw_below_drewN | apply below_drew1 | refine below_set ?_ GE155.out) | exact HB.out)))); have n1_ := Aside0.mk (blk_below (g := gb155) (o := .cells #[.int .i64 0, .string (⟨#[]⟩ : ByteArray), .int .i64 0, .int .i64 0, .int .i64 0, .int .i64 0, .int .i64 0] 48 (0, 0)) (by (with_reducible repeat (first | refine blk_drewN ?_ _ | refine blk_drew ?_ | refine blk_alloc ?_ _)); exact BK155.out) hb); have n2_ := Aside0.mk (below_step (by repeat (first | (with_reducible first | exact HB.out | apply below_alloc | apply pw_below_drewN | apply below_drew1 | refine below_set ?_ GE155.out) | exact HB.out)) hb); clear BK155; clear HB; have HO158 := n0_; have BK155 := n1_; have HB := n2_; clear n0_ n1_ n2_; (try clear hb); (try clear hb2); (try clear hk); (try clear hi); (try clear ho0); obtain ⟨Ao11, co11, eo11⟩ := Kd.R_slice HO158.out; subst eo11) | ((with_reducible refine gate_dst (N := 5) rfl ?_); refine box_event ?hg (N := 5) ?hd (cs := #[.int .i64 0, .int .i64 0, .int .i64 0, .int .i64 0]) (t := 120) ?hr ?_; (case hd => rfl); (case hg => rfl); (case hr => first | (go_simp; done) | (go_simp; rfl)); intro gb160 hg_ w12 hbox_ hb; obtain ⟨v160, hv_⟩ : ∃ v_ : Value, v_ = .slice (some ⟨gb160, 0, none⟩) 4 4 := ⟨_, rfl⟩; have ho13 : Kd.R (Kd.int .i64) 120 w12 gb160 (fun _ => True) v160 (List.replicate 4 0) := (by rw [hv_]; exact book_Read.own hbox_); rw [hg_] at ho13; obtain ⟨ad160, had_⟩ : ∃ a_ : Addr, a_ = ⟨gb160, 0, none⟩ := ⟨_, rfl⟩; rw [← had_] at hv_ ⊢; have HV160 := Aside0.mk hv_; clear hv_ had_ hbox_ hg_; (first | rw [← Ny159.out] at ho13 | (simp only [Int.reduceToNat] at ho13; rw [← Ny159.out] at ho13)); have n0_ := Aside0.mk (Kd.R_below (by (with_reducible repeat (first | apply Kd.R_alloc | apply Kd.R_drewN | apply Kd.R_drew)); exact HO158.out) hb); have n1_ := Aside0.mk (Kd.R_lower ho13 (below_size (by repeat (first | (with_reducible first | exact HB.out | apply below_alloc | apply pw_below_drewN | apply below_drew1 | refine below_set ?_ GE155.out) | exact HB.out)))); have n2_ := Aside0.mk (blk_below (g := gb155) (o := .cells #[.int .i64 0, .string (⟨#[]⟩ : ByteArray), .int .i64 0, .int .i64 0, .int .i64 0, .int .i64 0, .int .i64 0] 48 (0, 0)) (by (with_reducible repeat (first | refine blk_drewN ?_ _ | refine blk_drew ?_ | refine blk_alloc ?_ _)); exact BK155.out) hb); have n3_ := Aside0.mk (below_step (by repeat (first | (with_reducible first | exact HB.out | apply below_alloc | apply pw_below_drewN | apply below_drew1 | refine below_set ?_ GE155.out) | exact HB.out)) hb); clear HO158; clear BK155; clear HB; have HO158 := n0_; have HO161 := n1_; have BK155 := n2_; have HB := n3_; clear n0_ n1_ n2_ n3_; clear hb ho13))
              have n0_ := Aside0.mk (Kd.R_drew HO158.out)
              have n1_ := Aside0.mk (Kd.R_drew HO161.out)
              have n2_ := Aside0.mk (blk_drew BK155.out)
              have n3_ := Aside0.mk (below_drew1 HB.out)
              clear HO158
              clear HO161
              clear BK155
              clear HB
              have HO158 := n0_
              have HO161 := n1_
              have BK155 := n2_
              have HB := n3_
              clear n0_ n1_ n2_ n3_
              have p162 : 0 ≤ (0 : Int) := (by omega)
              have q162 : 0 < (t156.length : Int) := of_decide_eq_true (by first | (with_reducible assumption) | assumption)
              obtain ⟨ad162, e162, hx162_0⟩ := Kd.at_string (Kd.R_reads' HO158.out).2.2 0 p162 q162
              cases e162
              have qi162 : (0 < t156.length) = True := eq_true (by omega)
              (try rw [show ((0 : Int)).toNat = 0 from rfl] at hx162_0)
              (try rw [Addr.add_zero'] at hx162_0)
              replace p162 := eq_true p162
              replace q162 := eq_true q162
              have p163 : 0 ≤ (1 : Int) := (by omega)
              have q163 : 1 < (t156.length : Int) := of_decide_eq_true (by first | (with_reducible assumption) | assumption)
              obtain ⟨ad163, e163, hx163_0⟩ := Kd.at_string (Kd.R_reads' HO158.out).2.2 1 p163 q163
              obtain rfl : ad162 = ad163 := (by injection e163)
              (try simp only [show (1 : Int).toNat = 1 from rfl, Nat.reduceMul, Nat.reduceEqDiff, Go.Addr.add, ↓reduceIte] at hx163_0)
              have qi163 : (1 < t156.length) = True := eq_true (by omega)
              (try rw [show ((1 : Int)).toNat = 1 from rfl] at hx163_0)
              replace p163 := eq_true p163
              replace q163 := eq_true q163
              have p164 : 0 ≤ (3 : Int) := (by omega)
              have q164 : 3 < (t156.length : Int) := of_decide_eq_true (by first | (with_reducible assumption) | assumption)
              obtain ⟨ad164, e164, hx164_0⟩ := Kd.at_string (Kd.R_reads' HO158.out).2.2 3 p164 q164
              obtain rfl : ad162 = ad164 := (by injection e164)
              (try simp only [show (3 : Int).toNat = 3 from rfl, Nat.reduceMul, Nat.reduceEqDiff, Go.Addr.add, ↓reduceIte] at hx164_0)
              have qi164 : (3 < t156.length) = True := eq_true (by omega)
              (try rw [show ((3 : Int)).toNat = 3 from rfl] at hx164_0)
              replace p164 := eq_true p164
              replace q164 := eq_true q164
              have p165 : 0 ≤ (4 : Int) := (by omega)
              have q165 : 4 < (t156.length : Int) := of_decide_eq_true (by first | (with_reducible assumption) | assumption)
              obtain ⟨ad165, e165, hx165_0⟩ := Kd.at_string (Kd.R_reads' HO158.out).2.2 4 p165 q165
              obtain rfl : ad162 = ad165 := (by injection e165)
              (try simp only [show (4 : Int).toNat = 4 from rfl, Nat.reduceMul, Nat.reduceEqDiff, Go.Addr.add, ↓reduceIte] at hx165_0)
              have qi165 : (4 < t156.length) = True := eq_true (by omega)
              (try rw [show ((4 : Int)).toNat = 4 from rfl] at hx165_0)
              replace p165 := eq_true p165
              replace q165 := eq_true q165
              refine start_ (n := 15) (S := fun w' => w'.cell? ad162 = some (.string (rdOf ByteArray.empty t156 0)) ∧ w'.cell? ⟨ad162.block, ad162.off + 1, none⟩ = some (.string (rdOf ByteArray.empty t156 1)) ∧ w'.cell? ⟨ad162.block, ad162.off + 3, none⟩ = some (.string (rdOf ByteArray.empty t156 3)) ∧ w'.cell? ⟨ad162.block, ad162.off + 4, none⟩ = some (.string (rdOf ByteArray.empty t156 4))) (ds := []) #[false, false, false, false, false, false, false, false, false, false, false, false, false, false, false] (by kernel_rfl) rfl rfl ⟨hx162_0, hx163_0, hx164_0, hx165_0⟩ (fun hHeld => ?_); refine with_tabW book_Read.tab5 book_Read.bits5 (fun HT_ HW_ => ?_)
              generalize w12.drew = w14 at HO158 HO161 BK155 HB hx162_0 hx163_0 hx164_0 hx165_0 hHeld ⊢
              refine pure_ (i := 0) (N := some 21) (v := ?_) (a' := ?_) #[true, false, false, false, false, false, false, false, false, false, false, false, false, false, false] rfl rfl (any_of HT_.out (by kernel_rfl)) (fun _ _ _ h => h) (Or.inl ⟨by rfl, ?_⟩) ?_ ?_
              rotate_left
              · intro w'
                go_simp
                with_reducible rfl
              rotate_left
              · simp only [Act.put, List.setIfInBounds_toArray, List.set_cons_zero, List.set_cons_succ, i64_w, i32_w]
                rfl
              refine pure_ (i := 1) (N := some 22) (v := ?_) (a' := ?_) #[true, true, false, false, false, false, false, false, false, false, false, false, false, false, false] rfl rfl (any_of HT_.out (by kernel_rfl)) (fun _ _ _ h => h) (Or.inl ⟨by rfl, ?_⟩) ?_ ?_
              rotate_left
              · intro w'
                go_simp
                with_reducible rfl
              rotate_left
              · simp only [Act.put, List.setIfInBounds_toArray, List.set_cons_zero, List.set_cons_succ, i64_w, i32_w]
                rfl
              refine pure_ (i := 3) (N := some 24) (v := ?_) (a' := ?_) #[true, true, false, true, false, false, false, false, false, false, false, false, false, false, false] rfl rfl (any_of HT_.out (by kernel_rfl)) (fun _ _ _ h => h) (Or.inl ⟨by rfl, ?_⟩) ?_ ?_
              rotate_left
              · intro w'
                go_simp
                with_reducible rfl
              rotate_left
              · simp only [Act.put, List.setIfInBounds_toArray, List.set_cons_zero, List.set_cons_succ, i64_w, i32_w]
                rfl
              refine pure_ (i := 4) (N := some 25) (v := ?_) (a' := ?_) #[true, true, false, true, true, false, false, false, false, false, false, false, false, false, false] rfl rfl (any_of HT_.out (by kernel_rfl)) (fun _ _ _ h => h) (Or.inl ⟨by rfl, ?_⟩) ?_ ?_
              rotate_left
              · intro w'
                go_simp
                with_reducible rfl
              rotate_left
              · simp only [Act.put, List.setIfInBounds_toArray, List.set_cons_zero, List.set_cons_succ, i64_w, i32_w]
                rfl
              refine pure_ (i := 6) (N := some 27) (v := ?_) (a' := ?_) #[true, true, false, true, true, false, true, false, false, false, false, false, false, false, false] rfl rfl (any_of HT_.out (by kernel_rfl)) (fun _ _ _ h => h) (Or.inl ⟨by rfl, ?_⟩) ?_ ?_
              rotate_left
              · intro w'
                go_simp
                with_reducible rfl
              rotate_left
              · simp only [Act.put, List.setIfInBounds_toArray, List.set_cons_zero, List.set_cons_succ, i64_w, i32_w]
                rfl
              refine pure_ (i := 7) (N := some 28) (v := ?_) (a' := ?_) #[true, true, false, true, true, false, true, true, false, false, false, false, false, false, false] rfl rfl (any_of HT_.out (by kernel_rfl)) (fun _ _ _ h => h) (Or.inl ⟨by rfl, ?_⟩) ?_ ?_
              rotate_left
              · intro w'
                go_simp
                with_reducible rfl
              rotate_left
              · simp only [Act.put, List.setIfInBounds_toArray, List.set_cons_zero, List.set_cons_succ, i64_w, i32_w]
                rfl
              refine pure_ (i := 9) (N := some 30) (v := ?_) (a' := ?_) #[true, true, false, true, true, false, true, true, false, true, false, false, false, false, false] rfl rfl (any_of HT_.out (by kernel_rfl)) (fun _ _ _ h => h) (Or.inl ⟨by rfl, ?_⟩) ?_ ?_
              rotate_left
              · intro w'
                go_simp
                with_reducible rfl
              rotate_left
              · simp only [Act.put, List.setIfInBounds_toArray, List.set_cons_zero, List.set_cons_succ, i64_w, i32_w]
                rfl
              refine pure_ (i := 10) (N := some 31) (v := ?_) (a' := ?_) #[true, true, false, true, true, false, true, true, false, true, true, false, false, false, false] rfl rfl (any_of HT_.out (by kernel_rfl)) (fun _ _ _ h => h) (Or.inl ⟨by rfl, ?_⟩) ?_ ?_
              rotate_left
              · intro w'
                go_simp
                with_reducible rfl
              rotate_left
              · simp only [Act.put, List.setIfInBounds_toArray, List.set_cons_zero, List.set_cons_succ, i64_w, i32_w]
                rfl
              refine pure_ (i := 14) (N := some 35) (v := ?_) (a' := ?_) #[true, true, false, true, true, false, true, true, false, true, true, false, false, false, true] rfl rfl (any_of HT_.out (by kernel_rfl)) (fun _ _ _ h => h) (Or.inl ⟨by rfl, ?_⟩) ?_ ?_
              rotate_left
              · intro w'
                go_simp
                with_reducible rfl
              rotate_left
              · simp only [Act.put, List.setIfInBounds_toArray, List.set_cons_zero, List.set_cons_succ, i64_w, i32_w]
                rfl
              refine take_ (i := 2) (N := some 23) (v := ?_) (a' := ?_) #[true, true, true, true, true, false, true, true, false, true, true, false, false, false, true] rfl rfl (take_ofW HT_.out HW_.out (by kernel_rfl)) (fun _ _ _ h => h) (Or.inl ⟨by rfl, ?_⟩) hHeld ?_ ?_
              rotate_left
              · rintro w' ⟨s0, s1, s2, s3⟩
                go_simp
                with_reducible rfl
              rotate_left
              · simp only [Act.put, List.setIfInBounds_toArray, List.set_cons_zero, List.set_cons_succ, i64_w, i32_w]
                rfl
              refine take_ (i := 5) (N := some 26) (v := ?_) (a' := ?_) #[true, true, true, true, true, true, true, true, false, true, true, false, false, false, true] rfl rfl (take_ofW HT_.out HW_.out (by kernel_rfl)) (fun _ _ _ h => h) (Or.inl ⟨by rfl, ?_⟩) hHeld ?_ ?_
              rotate_left
              · rintro w' ⟨s0, s1, s2, s3⟩
                go_simp
                with_reducible rfl
              rotate_left
              · simp only [Act.put, List.setIfInBounds_toArray, List.set_cons_zero, List.set_cons_succ, i64_w, i32_w]
                rfl
              refine take_ (i := 8) (N := some 29) (v := ?_) (a' := ?_) #[true, true, true, true, true, true, true, true, true, true, true, false, false, false, true] rfl rfl (take_ofW HT_.out HW_.out (by kernel_rfl)) (fun _ _ _ h => h) (Or.inl ⟨by rfl, ?_⟩) hHeld ?_ ?_
              rotate_left
              · rintro w' ⟨s0, s1, s2, s3⟩
                go_simp
                with_reducible rfl
              rotate_left
              · simp only [Act.put, List.setIfInBounds_toArray, List.set_cons_zero, List.set_cons_succ, i64_w, i32_w]
                rfl
              refine take_ (i := 11) (N := some 32) (v := ?_) (a' := ?_) #[true, true, true, true, true, true, true, true, true, true, true, true, false, false, true] rfl rfl (take_ofW HT_.out HW_.out (by kernel_rfl)) (fun _ _ _ h => h) (Or.inl ⟨by rfl, ?_⟩) hHeld ?_ ?_
              rotate_left
              · rintro w' ⟨s0, s1, s2, s3⟩
                go_simp
                with_reducible rfl
              rotate_left
              · simp only [Act.put, List.setIfInBounds_toArray, List.set_cons_zero, List.set_cons_succ, i64_w, i32_w]
                rfl
              refine one_ (i := 12) (N := some 33) #[true, true, true, true, true, true, true, true, true, true, true, true, true, false, true] rfl rfl (one_of HT_.out (by kernel_rfl)) (by decide) (fun K hK => ?_)
              refine Kd.R_lit_step Kd.string _ 9 ?hg (N := 33) ?hd (xs := ([rdOf ByteArray.empty t156 0, rdOf ByteArray.empty t156 1, rdOf ByteArray.empty t156 3, rdOf ByteArray.empty t156 4] : List ByteArray)) (inner := [.string (rdOf ByteArray.empty t156 0), .string (rdOf ByteArray.empty t156 1), .string (rdOf ByteArray.empty t156 3), .string (rdOf ByteArray.empty t156 4)]) (ok := fun _ => True) (okp := fun _ => True) ?hr ?hp (fun _ hk => hk) trivial (Below.refl _ _) (Nat.le_refl _) (by simp) ?_; (case hd => rfl); (case hg => rfl); (case hr => first | (go_simp; done) | (go_simp; rfl)); (case hp => exact (Reps.one (show Kd.M Kd.string _ _ _ (rdOf ByteArray.empty t156 0) [.string (rdOf ByteArray.empty t156 0)] from rfl) (Reps.one (show Kd.M Kd.string _ _ _ (rdOf ByteArray.empty t156 1) [.string (rdOf ByteArray.empty t156 1)] from rfl) (Reps.one (show Kd.M Kd.string _ _ _ (rdOf ByteArray.empty t156 3) [.string (rdOf ByteArray.empty t156 3)] from rfl) (Reps.one (show Kd.M Kd.string _ _ _ (rdOf ByteArray.empty t156 4) [.string (rdOf ByteArray.empty t156 4)] from rfl) (Reps.none _ _))))))
              intro v167 w15 ho16 hb hg_ hnew_
              have HS0_ := (hb.cell (World.block_lt_of_cell? _ _ (hHeld.1))).trans (hHeld.1)
              have HS1_ := (hb.cell (World.block_lt_of_cell? _ _ (hHeld.2.1))).trans (hHeld.2.1)
              have HS2_ := (hb.cell (World.block_lt_of_cell? _ _ (hHeld.2.2.1))).trans (hHeld.2.2.1)
              have HS3_ := (hb.cell (World.block_lt_of_cell? _ _ (hHeld.2.2.2))).trans (hHeld.2.2.2)
              clear hg_ hnew_
              (first | rw [← Ny166.out] at ho16 | (simp only [Int.reduceToNat] at ho16; rw [← Ny166.out] at ho16))
              have n0_ := Aside0.mk (Kd.R_elder' (by (with_reducible repeat (first | apply Kd.R_alloc | apply Kd.R_drewN | apply Kd.R_drew)); exact HO158.out) (Kd.R_base ho16) hb)
              have n1_ := Aside0.mk (Kd.R_below (by (with_reducible repeat (first | apply Kd.R_alloc | apply Kd.R_drewN | apply Kd.R_drew)); exact HO161.out) hb)
              have n2_ := Aside0.mk (Kd.R_lower (Kd.R_new' ho16 (Kd.R_lt (by (with_reducible repeat (first | apply Kd.R_alloc | apply Kd.R_drewN | apply Kd.R_drew)); exact HO158.out))) (below_size (by repeat (first | (with_reducible first | exact HB.out | apply below_alloc | apply pw_below_drewN | apply below_drew1 | refine below_set ?_ GE155.out) | exact HB.out))))
              have n3_ := Aside0.mk (blk_below (g := gb155) (o := .cells #[.int .i64 0, .string (⟨#[]⟩ : ByteArray), .int .i64 0, .int .i64 0, .int .i64 0, .int .i64 0, .int .i64 0] 48 (0, 0)) (by (with_reducible repeat (first | refine blk_drewN ?_ _ | refine blk_drew ?_ | refine blk_alloc ?_ _)); exact BK155.out) hb)
              have n4_ := Aside0.mk (below_step (by repeat (first | (with_reducible first | exact HB.out | apply below_alloc | apply pw_below_drewN | apply below_drew1 | refine below_set ?_ GE155.out) | exact HB.out)) hb)
              clear HO158
              clear HO161
              clear BK155
              clear HB
              have HO158 := n0_
              have HO161 := n1_
              have HO168 := n2_
              have BK155 := n3_
              have HB := n4_
              clear n0_ n1_ n2_ n3_ n4_
              clear hb ho16
              obtain ⟨Ao17, co17, eo17⟩ := Kd.R_slice HO168.out
              (first | subst eo17 | (injection eo17 with f1_ f2_ f3_; have f4_ := f1_.symm; have f5_ := f3_.symm; clear f1_ f2_ f3_; subst f4_; subst f5_))
              refine hK.out _ _ ⟨HS0_, HS1_, HS2_, HS3_⟩ (fun hHeld => ?_)
              clear hK K
              refine norm_ (a' := ?_) ?_ ?_
              rotate_left
              · show Act.put _ (some 33) _ = _
                simp only [Act.put, List.setIfInBounds_toArray, List.set_cons_zero, List.set_cons_succ, i64_w, i32_w]
                rfl
              refine pure_ (i := 13) (N := some 34) (v := ?_) (a' := ?_) #[true, true, true, true, true, true, true, true, true, true, true, true, true, true, true] rfl rfl (any_of HT_.out (by kernel_rfl)) (fun _ _ _ h => h) (Or.inl ⟨by rfl, ?_⟩) ?_ ?_
              rotate_left
              · intro w'
                go_simp
                with_reducible rfl
              rotate_left
              · simp only [Act.put, List.setIfInBounds_toArray, List.set_cons_zero, List.set_cons_succ, i64_w, i32_w]
                rfl
              refine done_ (done_of HT_.out (by kernel_rfl)) ?_
              try go_wp2
              go_loopg [35] k (fun kq v35 w' => ∃ (x5_1 : List Int) (x35_1 : Int) (x156000_1 : Int) (x156001_1 : ByteArray) (x156002_1 : Int) (x156003_1 : Int) (x156004_1 : Int) (x156005_1 : Int) (x156006_1 : Int), v35 = .int .i64 x35_1 ∧ Aside0 (book_Read.l0 kq a0 t156 x5_1 y166 (y166.length : Int) x35_1 = some (r1, r2, r3, r4, r5, r6, r7, r8)) ∧ Aside0 (kq ≤ k) ∧ Aside0 (Kd.R Kd.string 9 w' w.heap.size (fun k_ => some k_ ≠ ((.slice Ao17 y166.length co17) : Value).ownBlock) (.slice (some ad162) t156.length co11) t156) ∧ Aside0 (Kd.R (Kd.int .i64) 120 w' w.heap.size (fun _ => True) v160 x5_1) ∧ Aside0 (Kd.R Kd.string 9 w' w.heap.size (fun k_ => some k_ ≠ ((.slice (some ad162) t156.length co11) : Value).ownBlock) (.slice Ao17 y166.length co17) y166) ∧ Aside0 (w'.heap[gb155]? = some (.cells #[.int .i64 x156000_1, .string x156001_1, .int .i64 x156002_1, .int .i64 x156003_1, .int .i64 x156004_1, .int .i64 x156005_1, .int .i64 x156006_1] 48 (0, 0))) ∧ Aside0 (Below w.heap.size w w'))
              case atStart => exact ⟨(y159), (0), (0), ((⟨#[]⟩ : ByteArray)), (0), (0), (0), (0), (0), (by first | rfl | (simp; done) | (simp [*]; done)), H', ⟨Nat.le_refl _⟩, ⟨by (with_reducible repeat (first | apply Kd.R_alloc | apply Kd.R_drewN | apply Kd.R_drew)); exact Kd.R_mono HO158.out (fun _ hk => hk.2)⟩, ⟨by (with_reducible repeat (first | apply Kd.R_alloc | apply Kd.R_drewN | apply Kd.R_drew)); exact HO161.out⟩, ⟨by (with_reducible repeat (first | apply Kd.R_alloc | apply Kd.R_drewN | apply Kd.R_drew)); exact Kd.R_mono HO168.out (fun _ hk => hk.2)⟩, ⟨by (with_reducible repeat (first | refine blk_drewN ?_ _ | refine blk_drew ?_ | refine blk_alloc ?_ _)); exact BK155.out⟩, ⟨by repeat (first | (with_reducible first | exact HB.out | apply below_alloc | apply pw_below_drewN | apply below_drew1 | refine below_set ?_ GE155.out) | exact HB.out)⟩⟩
              case round =>
                clear H'
                try clear p1
                try clear q1
                try clear hx1
                try clear qi1
                try clear p2
                try clear c3
                try clear c3b0
                try clear c3b1
                try clear c4
                try clear c4b0
                try clear c4b1
                try clear c5
                try clear c5b0
                try clear c5b1
                try clear c6
                try clear c6b0
                try clear c6b1
                try clear c7
                try clear c7b0
                try clear c7b1
                try clear c8
                try clear c8b0
                try clear c8b1
                try clear p16
                try clear q16
                try clear hx16
                try clear qi16
                try clear hx162_0
                try clear hx163_0
                try clear hx164_0
                try clear hx165_0
                try clear p162
                try clear p163
                try clear p164
                try clear p165
                try clear q162
                try clear q163
                try clear q164
                try clear q165
                obtain ⟨x5_1, x35_1, x156000_1, x156001_1, x156002_1, x156003_1, x156004_1, x156005_1, x156006_1, rfl, HA, HK1, HO_4, HO_5, HO_33, BK155, HB⟩ := hrel
                cases gk with
                | zero => exact absurd HA.out (by simp [book_Read.l0])
                | succ k1 =>
                  have H := HA.out
                  clear HA
                  simp only [book_Read.l0] at H
                  by_cases c18 : x35_1 < (y166.length : Int)
                  · rw [if_pos c18] at H
                    have c18b0 : decide (x35_1 < (y166.length : Int)) = true := decide_eq_true c18
                    clear c18
                    by_cases c19 : 0 ≤ x35_1
                    · rw [if_pos c19] at H
                      have c19b0 : decide (0 ≤ x35_1) = true := decide_eq_true c19
                      clear c19
                      by_cases c20 : x35_1 < (y166.length : Int)
                      · rw [if_pos c20] at H
                        have c20b0 : decide (x35_1 < (y166.length : Int)) = true := decide_eq_true c20
                        clear c20
                        replace H := Option.bind_eq_some_iff.mp H
                        obtain ⟨⟨t170, t171⟩, A210, H⟩ := H
                        replace H : (if t171.isNone = true then (if x35_1 < (x5_1.length : Int) then (book_Read.l0 k1 a0 t156 (x5_1.set (x35_1 : Int).toNat t170) y166 (y166.length : Int) (wrap64 (x35_1 + 1))) else (none)) else (none)) = some (r1, r2, r3, r4, r5, r6, r7, r8) := H
                        have A21 := Aside0.mk A210
                        clear A210
                        rcases t171 with _ | q172
                        · have H1 : (if x35_1 < (x5_1.length : Int) then (book_Read.l0 k1 a0 t156 (x5_1.set (x35_1 : Int).toNat t170) y166 (y166.length : Int) (wrap64 (x35_1 + 1))) else (none)) = some (r1, r2, r3, r4, r5, r6, r7, r8) := by rw [if_pos (show (none : Option Int).isNone = true by rfl)] at H; exact H
                          clear H
                          have H := H1
                          clear H1
                          try simp only [errW_none, errW_some]
                          by_cases c22 : x35_1 < (x5_1.length : Int)
                          · rw [if_pos c22] at H
                            have c22b0 : decide (x35_1 < (x5_1.length : Int)) = true := decide_eq_true c22
                            clear c22
                            obtain ⟨y173, hy173⟩ : ∃ y_ : List Int, y_ = (x5_1.set (x35_1 : Int).toNat t170) := ⟨_, rfl⟩
                            replace H : (book_Read.l0 k1 a0 t156 y173 y166 (y166.length : Int) (wrap64 (x35_1 + 1))) = some (r1, r2, r3, r4, r5, r6, r7, r8) := by first | (rw [hy173]; with_reducible exact H) | (have H2_ := (Option.bind_some _ _).symm.trans H; rw [hy173]; with_reducible exact H2_) | (have H2_ := (Option.bind_some _ _).symm.trans H; with_reducible exact H2_) | with_reducible exact H | (rw [hy173]; exact H) | exact H
                            have Ny173 := Aside0.mk hy173
                            clear hy173
                            have H' := Aside0.mk H
                            clear H
                            have p169 : 0 ≤ (x35_1 : Int) := of_decide_eq_true (by first | (with_reducible assumption) | assumption)
                            have q169 : x35_1 < (y166.length : Int) := of_decide_eq_true (by first | (with_reducible assumption) | assumption)
                            obtain ⟨ad169, e169, hx169_0⟩ := Kd.at_string (Kd.R_reads' HO_33.out).2.2 x35_1 p169 q169
                            cases e169
                            replace p169 := eq_true p169
                            replace q169 := eq_true q169
                            go_wp2_with (first | ((with_reducible refine gate_callee (f := 53) rfl ?_); refine goesL_ (some 42) rfl rfl Tryz.func53 (by kernel_rfl) rfl #[.string (rdOf ByteArray.empty y166 x35_1)] rfl (by (try simp only [List.map_toArray, List.map_cons, List.map_nil]); first | done | rfl | (simp only [List.length_drop, List.length_take]; rfl)) ?_; (with_reducible refine (strconv_Atoi.calls (rdOf ByteArray.empty y166 x35_1) t170 none _ A21.out).mono ?_); rintro e w24 ⟨rfl, hb⟩; refine ⟨_, rfl, ?_⟩; have n0_ := Aside0.mk (Kd.R_below (by (with_reducible repeat (first | apply Kd.R_alloc | apply Kd.R_drewN | apply Kd.R_drew)); exact HO_4.out) hb); have n1_ := Aside0.mk (Kd.R_below (by (with_reducible repeat (first | apply Kd.R_alloc | apply Kd.R_drewN | apply Kd.R_drew)); exact HO_5.out) hb); have n2_ := Aside0.mk (Kd.R_below (by (with_reducible repeat (first | apply Kd.R_alloc | apply Kd.R_drewN | apply Kd.R_drew)); exact HO_33.out) hb); have n3_ := Aside0.mk (blk_below (g := gb155) (o := .cells #[.int .i64 x156000_1, .string x156001_1, .int .i64 x156002_1, .int .i64 x156003_1, .int .i64 x156004_1, .int .i64 x156005_1, .int .i64 x156006_1] 48 (0, 0)) (by (with_reducible repeat (first | refine blk_drewN ?_ _ | refine blk_drew ?_ | refine blk_alloc ?_ _)); exact BK155.out) hb); have n4_ := Aside0.mk (below_step (by repeat (first | (with_reducible first | exact HB.out | apply below_alloc | apply pw_below_drewN | apply below_drew1 | refine below_set ?_ GE155.out) | exact HB.out)) hb); clear HO_4; clear HO_5; clear HO_33; clear BK155; clear HB; have HO_4 := n0_; have HO_5 := n1_; have HO_33 := n2_; have BK155 := n3_; have HB := n4_; clear n0_ n1_ n2_ n3_ n4_; (try clear hb); (try clear hb2); (try clear hk); (try clear hi); (try simp only [errW_none, errW_some]); have p23 : 0 ≤ (x35_1 : Int) := of_decide_eq_true (by first | (with_reducible assumption) | assumption); have q23 : (x35_1 : Int) < ((x5_1.length : Int) : Int) := of_decide_eq_true (by first | (with_reducible assumption) | assumption); obtain ⟨go23, co23, eo23, gb23, gl23, cl23, HG23⟩ := Kd.R_form HO_5.out (by omega); (first | cases eo23 | (injection eo23 with ea_ en_ ec_; (first | subst ea_ | (injection ea_ with ea_; subst ea_)); subst ec_; clear en_)); have hv_ := HV160.out; injection hv_ with hva_ hvb_ hvc_; injection hva_ with hva_; subst hva_; have qa_ : (x35_1 < 4) = True := eq_true (by have qb_ : x35_1 < (x5_1.length : Int) := of_decide_eq_true (by first | (with_reducible assumption) | assumption); omega); clear hvb_ hvc_; have GB23 := Aside0.mk gb23; have GG23 := Aside0.mk HG23; clear gb23 gl23 HG23; obtain ⟨hx23_0, hf23_0⟩ := Kd.R_celln 0 HO_5.out (x35_1 : Int) p23 q23; replace p23 := eq_true p23; replace q23 := eq_true q23; obtain ⟨hy25_, hz25_⟩ := Kd.R_celln 0 HO_5.out (x35_1 : Int) (of_decide_eq_true (by first | (with_reducible assumption) | assumption)) (of_decide_eq_true (by first | (with_reducible assumption) | assumption)); have HP25 := Kd.R_putg HO_5.out (x35_1 : Int) t170) | ((with_reducible refine gate_store (t := 3) (p := 50) rfl ?_); refine store_event (t := 3) (p := 50) (v := ?vo_w26) (w1 := (w24.setCell ⟨go23, (x35_1 : Int).toNat, none⟩ (.int .i64 t170))) ?hg ?ho ?hn ?hr ?_; (case ho => rfl); (case hg => rfl); (case hn => rfl); (case hr => first | (go_simp; done) | (go_simp; rfl)); intro w26 hw; have hg : w24.grownBy w26 (some go23) := (by rw [hw]; exact HP25.2); have hp_ : Kd.R (Kd.int .i64) 120 w26 w.heap.size (fun _ => True) (.slice (some ⟨go23, 0, none⟩) x5_1.length co23) y173 := (by rw [hw, Ny173.out]; exact HP25.1); clear HP25; have n0_ := Aside0.mk (Kd.R_over' (v := (.slice (some ⟨go23, 0, none⟩) x5_1.length co23)) (by (with_reducible repeat (first | apply Kd.R_alloc | apply Kd.R_drewN | apply Kd.R_drew)); exact HO_4.out) (Kd.R_typed HO_5.out) (by decide) hg); have n1_ := Aside0.mk (hp_); have n2_ := Aside0.mk (Kd.R_over' (v := (.slice (some ⟨go23, 0, none⟩) x5_1.length co23)) (by (with_reducible repeat (first | apply Kd.R_alloc | apply Kd.R_drewN | apply Kd.R_drew)); exact HO_33.out) (Kd.R_typed HO_5.out) (by decide) hg); have n3_ := Aside0.mk (blk_grown (g := gb155) (o := .cells #[.int .i64 x156000_1, .string x156001_1, .int .i64 x156002_1, .int .i64 x156003_1, .int .i64 x156004_1, .int .i64 x156005_1, .int .i64 x156006_1] 48 (0, 0)) (by (with_reducible repeat (first | refine blk_drewN ?_ _ | refine blk_drew ?_ | refine blk_alloc ?_ _)); exact BK155.out) hg (Kd.R_ne HO_5.out BK155.out (by decide))); have n4_ := Aside0.mk ((by rw [hw]; exact below_set (HB.out) GB23.out : Below w.heap.size w w26)); clear HO_4; clear HO_5; clear HO_33; clear BK155; clear HB; have HO_4 := n0_; have HO_5 := n1_; have HO_33 := n2_; have BK155 := n3_; have HB := n4_; clear n0_ n1_ n2_ n3_ n4_; clear hg hw hp_))
                            go_roundg k1
                            case measure => have := HK1.out; omega
                            case rel => exact ⟨(y173), (wrap64 (x35_1 + 1)), (x156000_1), (x156001_1), (x156002_1), (x156003_1), (x156004_1), (x156005_1), (x156006_1), (by first | rfl | (simp; done) | (simp [*]; done)), H', ⟨by have := HK1.out; omega⟩, ⟨by (with_reducible repeat (first | apply Kd.R_alloc | apply Kd.R_drewN | apply Kd.R_drew)); exact HO_4.out⟩, ⟨by (with_reducible repeat (first | apply Kd.R_alloc | apply Kd.R_drewN | apply Kd.R_drew)); exact HO_5.out⟩, ⟨by (with_reducible repeat (first | apply Kd.R_alloc | apply Kd.R_drewN | apply Kd.R_drew)); exact HO_33.out⟩, ⟨by (with_reducible repeat (first | refine blk_drewN ?_ _ | refine blk_drew ?_ | refine blk_alloc ?_ _)); exact BK155.out⟩, ⟨by repeat (first | (with_reducible first | exact HB.out | apply below_alloc | apply pw_below_drewN | apply below_drew1 | refine below_set ?_ GE155.out) | exact HB.out)⟩⟩
                          · rw [if_neg c22] at H
                            exact absurd H (by simp)
                        · have H1 : (none) = some (r1, r2, r3, r4, r5, r6, r7, r8) := by rw [if_neg (show ¬ (some q172).isNone = true by simp)] at H; exact H
                          clear H
                          have H := H1
                          clear H1
                          try simp only [errW_none, errW_some]
                          exact absurd H (by simp)
                      · rw [if_neg c20] at H
                        exact absurd H (by simp)
                    · rw [if_neg c19] at H
                      exact absurd H (by simp)
                  · rw [if_neg c18] at H
                    have c18b0 : decide (x35_1 < (y166.length : Int)) = false := decide_eq_false c18
                    clear c18
                    by_cases c27 : 5 < (t156.length : Int)
                    · rw [if_pos c27] at H
                      have c27b0 : decide (5 < (t156.length : Int)) = true := decide_eq_true c27
                      have c27b1 : decide (5 < t156.length) = true := decide_eq_true (by omega)
                      clear c27
                      replace H := Option.bind_eq_some_iff.mp H
                      obtain ⟨⟨t175, t176, t177⟩, A280, H⟩ := H
                      replace H : (if 0 < (x5_1.length : Int) then (if 1 < (x5_1.length : Int) then (if 2 < (t156.length : Int) then (if 2 < (x5_1.length : Int) then (if 3 < (x5_1.length : Int) then (if t177 = 0 then ((book_Text.f k1 (rd x5_1 1) (rdOf ByteArray.empty t156 2) t175 t176 (rd x5_1 2) (rd x5_1 3) (rd x5_1 0)).bind fun bt185 => (if bt185.2 = 0 then (if bt185.1.toList = a0.toList then (some (rd x5_1 1, rdOf ByteArray.empty t156 2, t175, t176, rd x5_1 2, rd x5_1 3, rd x5_1 0, 0)) else (none)) else (none))) else (none)) else (none)) else (none)) else (none)) else (none)) else (none)) = some (r1, r2, r3, r4, r5, r6, r7, r8) := H
                      have A28 := Aside0.mk A280
                      clear A280
                      by_cases c29 : 0 < (x5_1.length : Int)
                      · rw [if_pos c29] at H
                        have c29b0 : decide (0 < (x5_1.length : Int)) = true := decide_eq_true c29
                        have c29b1 : decide (0 < x5_1.length) = true := decide_eq_true (by omega)
                        clear c29
                        by_cases c30 : 1 < (x5_1.length : Int)
                        · rw [if_pos c30] at H
                          have c30b0 : decide (1 < (x5_1.length : Int)) = true := decide_eq_true c30
                          have c30b1 : decide (1 < x5_1.length) = true := decide_eq_true (by omega)
                          clear c30
                          by_cases c31 : 2 < (t156.length : Int)
                          · rw [if_pos c31] at H
                            have c31b0 : decide (2 < (t156.length : Int)) = true := decide_eq_true c31
                            have c31b1 : decide (2 < t156.length) = true := decide_eq_true (by omega)
                            clear c31
                            by_cases c32 : 2 < (x5_1.length : Int)
                            · rw [if_pos c32] at H
                              have c32b0 : decide (2 < (x5_1.length : Int)) = true := decide_eq_true c32
                              have c32b1 : decide (2 < x5_1.length) = true := decide_eq_true (by omega)
                              clear c32
                              by_cases c33 : 3 < (x5_1.length : Int)
                              · rw [if_pos c33] at H
                                have c33b0 : decide (3 < (x5_1.length : Int)) = true := decide_eq_true c33
                                have c33b1 : decide (3 < x5_1.length) = true := decide_eq_true (by omega)
                                clear c33
                                by_cases c34 : t177 = 0
                                · rw [if_pos c34] at H
                                  have c34b0 : (t177 == 0) = true := beq_iff_eq.mpr c34
                                  have c34b1 : (t177 != 0) = false := bne_eq_false_iff_eq.mpr c34
                                  clear c34
                                  replace H := Option.bind_eq_some_iff.mp H
                                  obtain ⟨⟨t185, t186⟩, A350, H⟩ := H
                                  replace H : (if t186 = 0 then (if t185.toList = a0.toList then (some (rd x5_1 1, rdOf ByteArray.empty t156 2, t175, t176, rd x5_1 2, rd x5_1 3, rd x5_1 0, 0)) else (none)) else (none)) = some (r1, r2, r3, r4, r5, r6, r7, r8) := H
                                  have A35 := Aside0.mk A350
                                  clear A350
                                  by_cases c36 : t186 = 0
                                  · rw [if_pos c36] at H
                                    have c36b0 : (t186 == 0) = true := beq_iff_eq.mpr c36
                                    have c36b1 : (t186 != 0) = false := bne_eq_false_iff_eq.mpr c36
                                    clear c36
                                    by_cases c37 : t185.toList = a0.toList
                                    · rw [if_pos c37] at H
                                      have c37b0 : (t185.toList == a0.toList) = true := beq_iff_eq.mpr c37
                                      have c37b1 : (t185.toList != a0.toList) = false := bne_eq_false_iff_eq.mpr c37
                                      clear c37
                                      simp only [Option.some.injEq, Prod.mk.injEq] at H
                                      obtain ⟨rfl, rfl, rfl, rfl, rfl, rfl, rfl, rfl⟩ := H
                                      have p174 : 0 ≤ (5 : Int) := (by omega)
                                      have q174 : 5 < (t156.length : Int) := of_decide_eq_true (by first | (with_reducible assumption) | assumption)
                                      obtain ⟨ad174, e174, hx174_0⟩ := Kd.at_string (Kd.R_reads' HO_4.out).2.2 5 p174 q174
                                      obtain rfl : ad162 = ad174 := (by injection e174)
                                      (try simp only [show (5 : Int).toNat = 5 from rfl, Nat.reduceMul, Nat.reduceEqDiff, Go.Addr.add, ↓reduceIte] at hx174_0)
                                      have qi174 : (5 < t156.length) = True := eq_true (by omega)
                                      (try rw [show ((5 : Int)).toNat = 5 from rfl] at hx174_0)
                                      replace p174 := eq_true p174
                                      replace q174 := eq_true q174
                                      try go_wp2_with (first | ((with_reducible refine gate_callee (f := 54) rfl ?_); refine goesL_ (some 56) rfl rfl Tryz.func54 (by kernel_rfl) rfl #[.string (rdOf ByteArray.empty t156 5)] rfl (by (try simp only [List.map_toArray, List.map_cons, List.map_nil]); first | done | rfl | (simp only [List.length_drop, List.length_take]; rfl)) ?_; (with_reducible refine (unit_Read.calls k1 (rdOf ByteArray.empty t156 5) t175 t176 t177 _ ?sideE A28.out).mono ?_); (case sideE => exact HENV.out.below (by repeat (first | (with_reducible first | exact HB.out | apply below_alloc | apply pw_below_drewN | apply below_drew1 | refine below_set ?_ GE155.out | refine below_set ?_ GE178.out | refine below_set ?_ GE184.out) | exact HB.out))); rintro e w38 ⟨rfl, hb⟩; refine ⟨_, rfl, ?_⟩; have n0_ := Aside0.mk (Kd.R_below (by (with_reducible repeat (first | apply Kd.R_alloc | apply Kd.R_drewN | apply Kd.R_drew)); exact HO_4.out) hb); have n1_ := Aside0.mk (Kd.R_below (by (with_reducible repeat (first | apply Kd.R_alloc | apply Kd.R_drewN | apply Kd.R_drew)); exact HO_5.out) hb); have n2_ := Aside0.mk (Kd.R_below (by (with_reducible repeat (first | apply Kd.R_alloc | apply Kd.R_drewN | apply Kd.R_drew)); exact HO_33.out) hb); have n3_ := Aside0.mk (blk_below (g := gb155) (o := .cells #[.int .i64 x156000_1, .string x156001_1, .int .i64 x156002_1, .int .i64 x156003_1, .int .i64 x156004_1, .int .i64 x156005_1, .int .i64 x156006_1] 48 (0, 0)) (by (with_reducible repeat (first | refine blk_drewN ?_ _ | refine blk_drew ?_ | refine blk_alloc ?_ _)); exact BK155.out) hb); have n4_ := Aside0.mk (below_step (by repeat (first | (with_reducible first | exact HB.out | apply below_alloc | apply pw_below_drewN | apply below_drew1 | refine below_set ?_ GE155.out) | exact HB.out)) hb); clear HO_4; clear HO_5; clear HO_33; clear BK155; clear HB; have HO_4 := n0_; have HO_5 := n1_; have HO_33 := n2_; have BK155 := n3_; have HB := n4_; clear n0_ n1_ n2_ n3_ n4_; (try clear hb); (try clear hb2); (try clear hk); (try clear hi)) | ((with_reducible refine gate_dst (N := 10) rfl ?_); refine box_event ?hg (N := 10) ?hd (cs := #[.int .i64 0, .int .i64 0]) (t := 46) ?hr ?_; (case hd => rfl); (case hg => rfl); (case hr => first | (go_simp; done) | (go_simp; rfl)); intro gb178 hg w39 hbox hb; have n0_ := Aside0.mk (Kd.R_below (by (with_reducible repeat (first | apply Kd.R_alloc | apply Kd.R_drewN | apply Kd.R_drew)); exact HO_4.out) hb); have n1_ := Aside0.mk (Kd.R_below (by (with_reducible repeat (first | apply Kd.R_alloc | apply Kd.R_drewN | apply Kd.R_drew)); exact HO_5.out) hb); have n2_ := Aside0.mk (Kd.R_below (by (with_reducible repeat (first | apply Kd.R_alloc | apply Kd.R_drewN | apply Kd.R_drew)); exact HO_33.out) hb); have n3_ := Aside0.mk (blk_below (g := gb155) (o := .cells #[.int .i64 x156000_1, .string x156001_1, .int .i64 x156002_1, .int .i64 x156003_1, .int .i64 x156004_1, .int .i64 x156005_1, .int .i64 x156006_1] 48 (0, 0)) (by (with_reducible repeat (first | refine blk_drewN ?_ _ | refine blk_drew ?_ | refine blk_alloc ?_ _)); exact BK155.out) hb); have n4_ := Aside0.mk (below_step (by repeat (first | (with_reducible first | exact HB.out | apply below_alloc | apply pw_below_drewN | apply below_drew1 | refine below_set ?_ GE155.out) | exact HB.out)) hb); have n5_ := Aside0.mk (hbox); have n6_ := Aside0.mk ((by rw [hg]; exact (below_size (by repeat (first | (with_reducible first | exact HB.out | apply below_alloc | apply pw_below_drewN | apply below_drew1 | refine below_set ?_ GE155.out) | exact HB.out))) : w.heap.size ≤ gb178)); have n7_ := Aside0.mk ((by rw [hg]; exact (below_size (by repeat (first | (with_reducible first | exact HB.out | apply below_alloc | apply pw_below_drewN | apply below_drew1 | refine below_set ?_ GE155.out) | exact HB.out))) : w.heap.size ≤ gb178)); have n8_ := Aside0.mk ((by rw [hg]; exact Nat.ne_of_lt (blk_lt (g := gb155) (o := .cells #[.int .i64 x156000_1, .string x156001_1, .int .i64 x156002_1, .int .i64 x156003_1, .int .i64 x156004_1, .int .i64 x156005_1, .int .i64 x156006_1] 48 (0, 0)) (by (with_reducible repeat (first | refine blk_drewN ?_ _ | refine blk_drew ?_ | refine blk_alloc ?_ _)); exact BK155.out)) : gb155 ≠ gb178)); have n9_ := Aside0.mk ((by rw [hg]; exact Nat.ne_of_gt (blk_lt (g := gb155) (o := .cells #[.int .i64 x156000_1, .string x156001_1, .int .i64 x156002_1, .int .i64 x156003_1, .int .i64 x156004_1, .int .i64 x156005_1, .int .i64 x156006_1] 48 (0, 0)) (by (with_reducible repeat (first | refine blk_drewN ?_ _ | refine blk_drew ?_ | refine blk_alloc ?_ _)); exact BK155.out)) : gb178 ≠ gb155)); clear HO_4; clear HO_5; clear HO_33; clear BK155; clear HB; have HO_4 := n0_; have HO_5 := n1_; have HO_33 := n2_; have BK155 := n3_; have HB := n4_; have BK178 := n5_; have GW178 := n6_; have GE178 := n7_; have NB155_178 := n8_; have NB178_155 := n9_; clear n0_ n1_ n2_ n3_ n4_ n5_ n6_ n7_ n8_ n9_; clear hb hbox hg; have hnb40 := NB178_155.out; have hnc40 := NB155_178.out; have hcz41_0 : w39.cell? ⟨gb178, 0, none⟩ = some (.int .i64 0) := (blk_cell BK178.out 0).trans rfl; have hcz41_1 : w39.cell? ⟨gb178, 1, none⟩ = some (.int .i64 0) := (blk_cell BK178.out 1).trans rfl; have hfz41_0 := blk_frozen BK178.out 0; have hfz41_1 := blk_frozen BK178.out 1))
                                      have n0_ : Aside0 (Kd.R Kd.string 9 ((w39.setCell ⟨gb178, 0, none⟩ (.int .i64 t175)).setCell ⟨gb178, 1, none⟩ (.int .i64 t176)) w.heap.size (fun k_ => some k_ ≠ (.slice Ao17 y166.length co17 : Value).ownBlock) (.slice (some ad162) t156.length co11) t156) := ⟨by (with_reducible repeat (first | apply Kd.R_alloc | apply Kd.R_drewN | apply Kd.R_drew)); exact Kd.R_mono (Kd.R_far (p := ⟨gb178, 1, none⟩) (Kd.R_far (p := ⟨gb178, 0, none⟩) (Kd.R_types HO_4.out BK178.out (by decide)) (fun _ hk => hk.2) (.int .i64 t175)) (fun _ hk => hk.2) (.int .i64 t176)) (fun _ hk => hk.1)⟩
                                      have n1_ : Aside0 (Kd.R (Kd.int .i64) 120 ((w39.setCell ⟨gb178, 0, none⟩ (.int .i64 t175)).setCell ⟨gb178, 1, none⟩ (.int .i64 t176)) w.heap.size (fun _ => True) v160 x5_1) := ⟨by (with_reducible repeat (first | apply Kd.R_alloc | apply Kd.R_drewN | apply Kd.R_drew)); exact Kd.R_mono (Kd.R_far (p := ⟨gb178, 1, none⟩) (Kd.R_far (p := ⟨gb178, 0, none⟩) (Kd.R_types HO_5.out BK178.out (by decide)) (fun _ hk => hk.2) (.int .i64 t175)) (fun _ hk => hk.2) (.int .i64 t176)) (fun _ hk => trivial)⟩
                                      have n2_ : Aside0 (Kd.R Kd.string 9 ((w39.setCell ⟨gb178, 0, none⟩ (.int .i64 t175)).setCell ⟨gb178, 1, none⟩ (.int .i64 t176)) w.heap.size (fun k_ => some k_ ≠ (.slice (some ad162) t156.length co11 : Value).ownBlock) (.slice Ao17 y166.length co17) y166) := ⟨by (with_reducible repeat (first | apply Kd.R_alloc | apply Kd.R_drewN | apply Kd.R_drew)); exact Kd.R_mono (Kd.R_far (p := ⟨gb178, 1, none⟩) (Kd.R_far (p := ⟨gb178, 0, none⟩) (Kd.R_types HO_33.out BK178.out (by decide)) (fun _ hk => hk.2) (.int .i64 t175)) (fun _ hk => hk.2) (.int .i64 t176)) (fun _ hk => hk.1)⟩
                                      have n3_ : Aside0 (((w39.setCell ⟨gb178, 0, none⟩ (.int .i64 t175)).setCell ⟨gb178, 1, none⟩ (.int .i64 t176)).heap[gb155]? = some (.cells #[.int .i64 x156000_1, .string x156001_1, .int .i64 x156002_1, .int .i64 x156003_1, .int .i64 x156004_1, .int .i64 x156005_1, .int .i64 x156006_1] 48 (0, 0))) := ⟨by (with_reducible repeat (first | refine blk_drewN ?_ _ | refine blk_drew ?_ | refine blk_alloc ?_ _)); refine blk_far ?_ NB155_178.out _; (with_reducible repeat (first | refine blk_drewN ?_ _ | refine blk_drew ?_ | refine blk_alloc ?_ _)); refine blk_far ?_ NB155_178.out _; (with_reducible repeat (first | refine blk_drewN ?_ _ | refine blk_drew ?_ | refine blk_alloc ?_ _)); exact BK155.out⟩
                                      have n4_ : Aside0 (((w39.setCell ⟨gb178, 0, none⟩ (.int .i64 t175)).setCell ⟨gb178, 1, none⟩ (.int .i64 t176)).heap[gb178]? = some (.cells #[.int .i64 t175, .int .i64 t176] 46 (0, 0))) := ⟨by (with_reducible repeat (first | refine blk_drewN ?_ _ | refine blk_drew ?_ | refine blk_alloc ?_ _)); refine blk_put (cs := #[.int .i64 t175, .int .i64 0]) ?_ 1 _ rfl; (with_reducible repeat (first | refine blk_drewN ?_ _ | refine blk_drew ?_ | refine blk_alloc ?_ _)); refine blk_put (cs := #[.int .i64 0, .int .i64 0]) ?_ 0 _ rfl; (with_reducible repeat (first | refine blk_drewN ?_ _ | refine blk_drew ?_ | refine blk_alloc ?_ _)); exact BK178.out⟩
                                      have n5_ : Aside0 (Below w.heap.size w ((w39.setCell ⟨gb178, 0, none⟩ (.int .i64 t175)).setCell ⟨gb178, 1, none⟩ (.int .i64 t176))) := ⟨by repeat (first | (with_reducible first | exact HB.out | apply below_alloc | apply pw_below_drewN | apply below_drew1 | refine below_set ?_ GE155.out | refine below_set ?_ GE178.out) | exact HB.out)⟩
                                      (try clear HO_4)
                                      (try clear HO_5)
                                      (try clear HO_33)
                                      (try clear BK155)
                                      (try clear BK178)
                                      (try clear HB)
                                      generalize ((w39.setCell ⟨gb178, 0, none⟩ (.int .i64 t175)).setCell ⟨gb178, 1, none⟩ (.int .i64 t176)) = w42 at n0_ n1_ n2_ n3_ n4_ n5_ ⊢
                                      have HO_4 := n0_
                                      have HO_5 := n1_
                                      have HO_33 := n2_
                                      have BK155 := n3_
                                      have BK178 := n4_
                                      have HB := n5_
                                      clear n0_ n1_ n2_ n3_ n4_ n5_
                                      have n0_ := Aside0.mk (Kd.R_drew HO_4.out)
                                      have n1_ := Aside0.mk (Kd.R_drew HO_5.out)
                                      have n2_ := Aside0.mk (Kd.R_drew HO_33.out)
                                      have n3_ := Aside0.mk (blk_drew BK155.out)
                                      have n4_ := Aside0.mk (blk_drew BK178.out)
                                      have n5_ := Aside0.mk (below_drew1 HB.out)
                                      clear HO_4
                                      clear HO_5
                                      clear HO_33
                                      clear BK155
                                      clear BK178
                                      clear HB
                                      have HO_4 := n0_
                                      have HO_5 := n1_
                                      have HO_33 := n2_
                                      have BK155 := n3_
                                      have BK178 := n4_
                                      have HB := n5_
                                      clear n0_ n1_ n2_ n3_ n4_ n5_
                                      obtain ⟨Ao44, co44, eo44⟩ := Kd.R_slice HO_5.out
                                      (first | subst eo44 | (injection eo44 with f1_ f2_ f3_; have f4_ := f1_.symm; have f5_ := f3_.symm; clear f1_ f2_ f3_; subst f4_; subst f5_))
                                      have p179 : 0 ≤ (0 : Int) := (by omega)
                                      have q179 : 0 < (x5_1.length : Int) := of_decide_eq_true (by first | (with_reducible assumption) | assumption)
                                      obtain ⟨ad179, e179, hx179_0⟩ := Kd.at_int (Kd.R_reads' HO_5.out).2.2 0 p179 q179
                                      cases e179
                                      have hv_ := HV160.out; injection hv_ with hva_ hvb_ hvc_; injection hva_ with hva_; subst hva_
                                      clear hvb_ hvc_
                                      have qi179 : (0 < x5_1.length) = True := eq_true (by omega)
                                      (try rw [show ((0 : Int)).toNat = 0 from rfl] at hx179_0)
                                      (try rw [Addr.add_zero'] at hx179_0)
                                      replace p179 := eq_true p179
                                      replace q179 := eq_true q179
                                      have p180 : 0 ≤ (1 : Int) := (by omega)
                                      have q180 : 1 < (x5_1.length : Int) := of_decide_eq_true (by first | (with_reducible assumption) | assumption)
                                      obtain ⟨ad180, e180, hx180_0⟩ := Kd.at_int (Kd.R_reads' HO_5.out).2.2 1 p180 q180
                                      obtain rfl : ad179 = ad180 := (by injection e180)
                                      (try simp only [show (1 : Int).toNat = 1 from rfl, Nat.reduceMul, Nat.reduceEqDiff, Go.Addr.add, ↓reduceIte] at hx180_0)
                                      have qi180 : (1 < x5_1.length) = True := eq_true (by omega)
                                      (try rw [show ((1 : Int)).toNat = 1 from rfl] at hx180_0)
                                      replace p180 := eq_true p180
                                      replace q180 := eq_true q180
                                      have p181 : 0 ≤ (2 : Int) := (by omega)
                                      have q181 : 2 < (t156.length : Int) := of_decide_eq_true (by first | (with_reducible assumption) | assumption)
                                      obtain ⟨ad181, e181, hx181_0⟩ := Kd.at_string (Kd.R_reads' HO_4.out).2.2 2 p181 q181
                                      obtain rfl : ad162 = ad181 := (by injection e181)
                                      (try simp only [show (2 : Int).toNat = 2 from rfl, Nat.reduceMul, Nat.reduceEqDiff, Go.Addr.add, ↓reduceIte] at hx181_0)
                                      have qi181 : (2 < t156.length) = True := eq_true (by omega)
                                      (try rw [show ((2 : Int)).toNat = 2 from rfl] at hx181_0)
                                      replace p181 := eq_true p181
                                      replace q181 := eq_true q181
                                      have p182 : 0 ≤ (2 : Int) := (by omega)
                                      have q182 : 2 < (x5_1.length : Int) := of_decide_eq_true (by first | (with_reducible assumption) | assumption)
                                      obtain ⟨ad182, e182, hx182_0⟩ := Kd.at_int (Kd.R_reads' HO_5.out).2.2 2 p182 q182
                                      obtain rfl : ad179 = ad182 := (by injection e182)
                                      (try simp only [show (2 : Int).toNat = 2 from rfl, Nat.reduceMul, Nat.reduceEqDiff, Go.Addr.add, ↓reduceIte] at hx182_0)
                                      have qi182 : (2 < x5_1.length) = True := eq_true (by omega)
                                      (try rw [show ((2 : Int)).toNat = 2 from rfl] at hx182_0)
                                      replace p182 := eq_true p182
                                      replace q182 := eq_true q182
                                      have p183 : 0 ≤ (3 : Int) := (by omega)
                                      have q183 : 3 < (x5_1.length : Int) := of_decide_eq_true (by first | (with_reducible assumption) | assumption)
                                      obtain ⟨ad183, e183, hx183_0⟩ := Kd.at_int (Kd.R_reads' HO_5.out).2.2 3 p183 q183
                                      obtain rfl : ad179 = ad183 := (by injection e183)
                                      (try simp only [show (3 : Int).toNat = 3 from rfl, Nat.reduceMul, Nat.reduceEqDiff, Go.Addr.add, ↓reduceIte] at hx183_0)
                                      have qi183 : (3 < x5_1.length) = True := eq_true (by omega)
                                      (try rw [show ((3 : Int)).toNat = 3 from rfl] at hx183_0)
                                      replace p183 := eq_true p183
                                      replace q183 := eq_true q183
                                      refine start_ (n := 15) (S := fun w' => w'.cell? ⟨gb178, 0, none⟩ = some (.int .i64 t175) ∧ w'.cell? ⟨gb178, 1, none⟩ = some (.int .i64 t176) ∧ w'.cell? ad179 = some (.int .i64 (rd x5_1 0)) ∧ w'.cell? ⟨ad179.block, ad179.off + 1, none⟩ = some (.int .i64 (rd x5_1 1)) ∧ w'.cell? ⟨ad162.block, ad162.off + 2, none⟩ = some (.string (rdOf ByteArray.empty t156 2)) ∧ w'.cell? ⟨ad179.block, ad179.off + 2, none⟩ = some (.int .i64 (rd x5_1 2)) ∧ w'.cell? ⟨ad179.block, ad179.off + 3, none⟩ = some (.int .i64 (rd x5_1 3))) (ds := []) #[false, false, false, false, false, false, false, false, false, false, false, false, false, false, false] (by kernel_rfl) rfl rfl ⟨(blk_cell BK178.out 0).trans rfl, (blk_cell BK178.out 1).trans rfl, hx179_0, hx180_0, hx181_0, hx182_0, hx183_0⟩ (fun hHeld => ?_); refine with_tabW book_Read.tab14 book_Read.bits14 (fun HT_ HW_ => ?_)
                                      generalize w42.drew = w43 at HO_4 HO_5 HO_33 BK155 BK178 HB hx179_0 hx180_0 hx181_0 hx182_0 hx183_0 hHeld ⊢
                                      refine pure_ (i := 0) (N := some 59) (v := ?_) (a' := ?_) #[true, false, false, false, false, false, false, false, false, false, false, false, false, false, false] rfl rfl (any_of HT_.out (by kernel_rfl)) (fun _ _ _ h => h) (Or.inl ⟨by rfl, ?_⟩) ?_ ?_
                                      rotate_left
                                      · intro w'
                                        go_simp
                                        with_reducible rfl
                                      rotate_left
                                      · simp only [Act.put, List.setIfInBounds_toArray, List.set_cons_zero, List.set_cons_succ, i64_w, i32_w]
                                        rfl
                                      refine pure_ (i := 2) (N := some 61) (v := ?_) (a' := ?_) #[true, false, true, false, false, false, false, false, false, false, false, false, false, false, false] rfl rfl (any_of HT_.out (by kernel_rfl)) (fun _ _ _ h => h) (Or.inl ⟨by rfl, ?_⟩) ?_ ?_
                                      rotate_left
                                      · intro w'
                                        go_simp
                                        with_reducible rfl
                                      rotate_left
                                      · simp only [Act.put, List.setIfInBounds_toArray, List.set_cons_zero, List.set_cons_succ, i64_w, i32_w]
                                        rfl
                                      refine pure_ (i := 4) (N := some 63) (v := ?_) (a' := ?_) #[true, false, true, false, true, false, false, false, false, false, false, false, false, false, false] rfl rfl (any_of HT_.out (by kernel_rfl)) (fun _ _ _ h => h) (Or.inl ⟨by rfl, ?_⟩) ?_ ?_
                                      rotate_left
                                      · intro w'
                                        go_simp
                                        with_reducible rfl
                                      rotate_left
                                      · simp only [Act.put, List.setIfInBounds_toArray, List.set_cons_zero, List.set_cons_succ, i64_w, i32_w]
                                        rfl
                                      refine pure_ (i := 5) (N := some 64) (v := ?_) (a' := ?_) #[true, false, true, false, true, true, false, false, false, false, false, false, false, false, false] rfl rfl (any_of HT_.out (by kernel_rfl)) (fun _ _ _ h => h) (Or.inl ⟨by rfl, ?_⟩) ?_ ?_
                                      rotate_left
                                      · intro w'
                                        go_simp
                                        with_reducible rfl
                                      rotate_left
                                      · simp only [Act.put, List.setIfInBounds_toArray, List.set_cons_zero, List.set_cons_succ, i64_w, i32_w]
                                        rfl
                                      refine pure_ (i := 7) (N := some 66) (v := ?_) (a' := ?_) #[true, false, true, false, true, true, false, true, false, false, false, false, false, false, false] rfl rfl (any_of HT_.out (by kernel_rfl)) (fun _ _ _ h => h) (Or.inl ⟨by rfl, ?_⟩) ?_ ?_
                                      rotate_left
                                      · intro w'
                                        go_simp
                                        with_reducible rfl
                                      rotate_left
                                      · simp only [Act.put, List.setIfInBounds_toArray, List.set_cons_zero, List.set_cons_succ, i64_w, i32_w]
                                        rfl
                                      refine pure_ (i := 9) (N := some 68) (v := ?_) (a' := ?_) #[true, false, true, false, true, true, false, true, false, true, false, false, false, false, false] rfl rfl (any_of HT_.out (by kernel_rfl)) (fun _ _ _ h => h) (Or.inl ⟨by rfl, ?_⟩) ?_ ?_
                                      rotate_left
                                      · intro w'
                                        go_simp
                                        with_reducible rfl
                                      rotate_left
                                      · simp only [Act.put, List.setIfInBounds_toArray, List.set_cons_zero, List.set_cons_succ, i64_w, i32_w]
                                        rfl
                                      refine take_ (i := 1) (N := some 60) (v := ?_) (a' := ?_) #[true, true, true, false, true, true, false, true, false, true, false, false, false, false, false] rfl rfl (take_ofW HT_.out HW_.out (by kernel_rfl)) (fun _ _ _ h => h) (Or.inl ⟨by rfl, ?_⟩) hHeld ?_ ?_
                                      rotate_left
                                      · rintro w' ⟨s0, s1, s2, s3, s4, s5, s6⟩
                                        go_simp
                                        with_reducible rfl
                                      rotate_left
                                      · simp only [Act.put, List.setIfInBounds_toArray, List.set_cons_zero, List.set_cons_succ, i64_w, i32_w]
                                        rfl
                                      refine take_ (i := 3) (N := some 62) (v := ?_) (a' := ?_) #[true, true, true, true, true, true, false, true, false, true, false, false, false, false, false] rfl rfl (take_ofW HT_.out HW_.out (by kernel_rfl)) (fun _ _ _ h => h) (Or.inl ⟨by rfl, ?_⟩) hHeld ?_ ?_
                                      rotate_left
                                      · rintro w' ⟨s0, s1, s2, s3, s4, s5, s6⟩
                                        go_simp
                                        with_reducible rfl
                                      rotate_left
                                      · simp only [Act.put, List.setIfInBounds_toArray, List.set_cons_zero, List.set_cons_succ, i64_w, i32_w]
                                        rfl
                                      refine take_ (i := 6) (N := some 65) (v := ?_) (a' := ?_) #[true, true, true, true, true, true, true, true, false, true, false, false, false, false, false] rfl rfl (take_ofW HT_.out HW_.out (by kernel_rfl)) (fun _ _ _ h => h) (Or.inl ⟨by rfl, ?_⟩) hHeld ?_ ?_
                                      rotate_left
                                      · rintro w' ⟨s0, s1, s2, s3, s4, s5, s6⟩
                                        go_simp
                                        with_reducible rfl
                                      rotate_left
                                      · simp only [Act.put, List.setIfInBounds_toArray, List.set_cons_zero, List.set_cons_succ, i64_w, i32_w]
                                        rfl
                                      refine take_ (i := 8) (N := some 67) (v := ?_) (a' := ?_) #[true, true, true, true, true, true, true, true, true, true, false, false, false, false, false] rfl rfl (take_ofW HT_.out HW_.out (by kernel_rfl)) (fun _ _ _ h => h) (Or.inl ⟨by rfl, ?_⟩) hHeld ?_ ?_
                                      rotate_left
                                      · rintro w' ⟨s0, s1, s2, s3, s4, s5, s6⟩
                                        go_simp
                                        with_reducible rfl
                                      rotate_left
                                      · simp only [Act.put, List.setIfInBounds_toArray, List.set_cons_zero, List.set_cons_succ, i64_w, i32_w]
                                        rfl
                                      refine take_ (i := 10) (N := some 69) (v := ?_) (a' := ?_) #[true, true, true, true, true, true, true, true, true, true, true, false, false, false, false] rfl rfl (take_ofW HT_.out HW_.out (by kernel_rfl)) (fun _ _ _ h => h) (Or.inl ⟨by rfl, ?_⟩) hHeld ?_ ?_
                                      rotate_left
                                      · rintro w' ⟨s0, s1, s2, s3, s4, s5, s6⟩
                                        go_simp
                                        with_reducible rfl
                                      rotate_left
                                      · simp only [Act.put, List.setIfInBounds_toArray, List.set_cons_zero, List.set_cons_succ, i64_w, i32_w]
                                        rfl
                                      refine take_ (i := 11) (N := some 70) (v := ?_) (a' := ?_) #[true, true, true, true, true, true, true, true, true, true, true, true, false, false, false] rfl rfl (take_ofW HT_.out HW_.out (by kernel_rfl)) (fun _ _ _ h => h) (Or.inl ⟨by rfl, ?_⟩) hHeld ?_ ?_
                                      rotate_left
                                      · rintro w' ⟨s0, s1, s2, s3, s4, s5, s6⟩
                                        go_simp
                                        with_reducible rfl
                                      rotate_left
                                      · simp only [Act.put, List.setIfInBounds_toArray, List.set_cons_zero, List.set_cons_succ, i64_w, i32_w]
                                        rfl
                                      refine pure_ (i := 12) (N := some 71) (v := ?_) (a' := ?_) #[true, true, true, true, true, true, true, true, true, true, true, true, true, false, false] rfl rfl (any_of HT_.out (by kernel_rfl)) (fun _ _ _ h => h) (Or.inl ⟨by rfl, ?_⟩) ?_ ?_
                                      rotate_left
                                      · intro w'
                                        go_simp
                                        with_reducible rfl
                                      rotate_left
                                      · simp only [Act.put, List.setIfInBounds_toArray, List.set_cons_zero, List.set_cons_succ, i64_w, i32_w]
                                        rfl
                                      refine one_ (i := 13) (N := some 12) #[true, true, true, true, true, true, true, true, true, true, true, true, true, true, false] rfl rfl (one_of HT_.out (by kernel_rfl)) (by decide) (fun K hK => ?_)
                                      refine box_step ?hg (N := 12) ?hd (cs := #[.int .i64 0, .string (⟨#[]⟩ : ByteArray), .int .i64 0, .int .i64 0, .int .i64 0, .int .i64 0, .int .i64 0]) (t := 48) ?hr ?_; (case hd => rfl); (case hg => rfl); (case hr => first | (go_simp; done) | (go_simp; rfl))
                                      intro gb184 hg w45 hbox hb
                                      have HS2_ := (hb.cell (World.block_lt_of_cell? _ _ (hHeld.2.2.1))).trans (hHeld.2.2.1)
                                      have HS3_ := (hb.cell (World.block_lt_of_cell? _ _ (hHeld.2.2.2.1))).trans (hHeld.2.2.2.1)
                                      have HS4_ := (hb.cell (World.block_lt_of_cell? _ _ (hHeld.2.2.2.2.1))).trans (hHeld.2.2.2.2.1)
                                      have HS5_ := (hb.cell (World.block_lt_of_cell? _ _ (hHeld.2.2.2.2.2.1))).trans (hHeld.2.2.2.2.2.1)
                                      have HS6_ := (hb.cell (World.block_lt_of_cell? _ _ (hHeld.2.2.2.2.2.2))).trans (hHeld.2.2.2.2.2.2)
                                      have n0_ := Aside0.mk (Kd.R_below (by (with_reducible repeat (first | apply Kd.R_alloc | apply Kd.R_drewN | apply Kd.R_drew)); exact HO_4.out) hb)
                                      have n1_ := Aside0.mk (Kd.R_below (by (with_reducible repeat (first | apply Kd.R_alloc | apply Kd.R_drewN | apply Kd.R_drew)); exact HO_5.out) hb)
                                      have n2_ := Aside0.mk (Kd.R_below (by (with_reducible repeat (first | apply Kd.R_alloc | apply Kd.R_drewN | apply Kd.R_drew)); exact HO_33.out) hb)
                                      have n3_ := Aside0.mk (blk_below (g := gb155) (o := .cells #[.int .i64 x156000_1, .string x156001_1, .int .i64 x156002_1, .int .i64 x156003_1, .int .i64 x156004_1, .int .i64 x156005_1, .int .i64 x156006_1] 48 (0, 0)) (by (with_reducible repeat (first | refine blk_drewN ?_ _ | refine blk_drew ?_ | refine blk_alloc ?_ _)); exact BK155.out) hb)
                                      have n4_ := Aside0.mk (blk_below (g := gb178) (o := .cells #[.int .i64 t175, .int .i64 t176] 46 (0, 0)) (by (with_reducible repeat (first | refine blk_drewN ?_ _ | refine blk_drew ?_ | refine blk_alloc ?_ _)); exact BK178.out) hb)
                                      have n5_ := Aside0.mk (below_step (by repeat (first | (with_reducible first | exact HB.out | apply below_alloc | apply pw_below_drewN | apply below_drew1 | refine below_set ?_ GE155.out | refine below_set ?_ GE178.out) | exact HB.out)) hb)
                                      have n6_ := Aside0.mk (hbox)
                                      have n7_ := Aside0.mk ((by rw [hg]; exact (below_size (by repeat (first | (with_reducible first | exact HB.out | apply below_alloc | apply pw_below_drewN | apply below_drew1 | refine below_set ?_ GE155.out | refine below_set ?_ GE178.out) | exact HB.out))) : w.heap.size ≤ gb184))
                                      have n8_ := Aside0.mk ((by rw [hg]; exact (below_size (by repeat (first | (with_reducible first | exact HB.out | apply below_alloc | apply pw_below_drewN | apply below_drew1 | refine below_set ?_ GE155.out | refine below_set ?_ GE178.out) | exact HB.out))) : w.heap.size ≤ gb184))
                                      have n9_ := Aside0.mk ((by rw [hg]; exact Nat.ne_of_lt (blk_lt (g := gb155) (o := .cells #[.int .i64 x156000_1, .string x156001_1, .int .i64 x156002_1, .int .i64 x156003_1, .int .i64 x156004_1, .int .i64 x156005_1, .int .i64 x156006_1] 48 (0, 0)) (by (with_reducible repeat (first | refine blk_drewN ?_ _ | refine blk_drew ?_ | refine blk_alloc ?_ _)); exact BK155.out)) : gb155 ≠ gb184))
                                      have n10_ := Aside0.mk ((by rw [hg]; exact Nat.ne_of_gt (blk_lt (g := gb155) (o := .cells #[.int .i64 x156000_1, .string x156001_1, .int .i64 x156002_1, .int .i64 x156003_1, .int .i64 x156004_1, .int .i64 x156005_1, .int .i64 x156006_1] 48 (0, 0)) (by (with_reducible repeat (first | refine blk_drewN ?_ _ | refine blk_drew ?_ | refine blk_alloc ?_ _)); exact BK155.out)) : gb184 ≠ gb155))
                                      have n11_ := Aside0.mk ((by rw [hg]; exact Nat.ne_of_lt (blk_lt (g := gb178) (o := .cells #[.int .i64 t175, .int .i64 t176] 46 (0, 0)) (by (with_reducible repeat (first | refine blk_drewN ?_ _ | refine blk_drew ?_ | refine blk_alloc ?_ _)); exact BK178.out)) : gb178 ≠ gb184))
                                      have n12_ := Aside0.mk ((by rw [hg]; exact Nat.ne_of_gt (blk_lt (g := gb178) (o := .cells #[.int .i64 t175, .int .i64 t176] 46 (0, 0)) (by (with_reducible repeat (first | refine blk_drewN ?_ _ | refine blk_drew ?_ | refine blk_alloc ?_ _)); exact BK178.out)) : gb184 ≠ gb178))
                                      clear HO_4
                                      clear HO_5
                                      clear HO_33
                                      clear BK155
                                      clear BK178
                                      clear HB
                                      have HO_4 := n0_
                                      have HO_5 := n1_
                                      have HO_33 := n2_
                                      have BK155 := n3_
                                      have BK178 := n4_
                                      have HB := n5_
                                      have BK184 := n6_
                                      have GW184 := n7_
                                      have GE184 := n8_
                                      have NB155_184 := n9_
                                      have NB184_155 := n10_
                                      have NB178_184 := n11_
                                      have NB184_178 := n12_
                                      clear n0_ n1_ n2_ n3_ n4_ n5_ n6_ n7_ n8_ n9_ n10_ n11_ n12_
                                      clear hb hbox hg
                                      refine hK.out _ _ ⟨(blk_cell BK178.out 0).trans rfl, (blk_cell BK178.out 1).trans rfl, HS2_, HS3_, HS4_, HS5_, HS6_⟩ (fun hHeld => ?_)
                                      clear hK K
                                      refine norm_ (a' := ?_) ?_ ?_
                                      rotate_left
                                      · show Act.put _ (some 12) _ = _
                                        simp only [Act.put, List.setIfInBounds_toArray, List.set_cons_zero, List.set_cons_succ, i64_w, i32_w]
                                        rfl
                                      refine one_ (i := 14) (N := none) #[true, true, true, true, true, true, true, true, true, true, true, true, true, true, true] rfl rfl (one_of HT_.out (by kernel_rfl)) (by decide) (fun K hK => ?_)
                                      have hs46 : w45.cell? ⟨gb184, 0, none⟩ = some (.int .i64 0) := (blk_cell BK184.out 0).trans rfl
                                      have hfs46 := blk_frozen BK184.out 0
                                      have hns46_0 := NB155_184.out
                                      have hns46_1 := NB178_184.out
                                      have hms46_0 := NB184_155.out
                                      have hms46_1 := NB184_178.out
                                      have hs47 : w45.cell? ⟨gb184, 1, none⟩ = some (.string (⟨#[]⟩ : ByteArray)) := (blk_cell BK184.out 1).trans rfl
                                      have hfs47 := blk_frozen BK184.out 1
                                      have hns47_0 := NB155_184.out
                                      have hns47_1 := NB178_184.out
                                      have hms47_0 := NB184_155.out
                                      have hms47_1 := NB184_178.out
                                      have hs48 : w45.cell? ⟨gb184, 2, none⟩ = some (.int .i64 0) := (blk_cell BK184.out 2).trans rfl
                                      have hfs48 := blk_frozen BK184.out 2
                                      have hns48_0 := NB155_184.out
                                      have hns48_1 := NB178_184.out
                                      have hms48_0 := NB184_155.out
                                      have hms48_1 := NB184_178.out
                                      have hs49 : w45.cell? ⟨gb184, 3, none⟩ = some (.int .i64 0) := (blk_cell BK184.out 3).trans rfl
                                      have hfs49 := blk_frozen BK184.out 3
                                      have hns49_0 := NB155_184.out
                                      have hns49_1 := NB178_184.out
                                      have hms49_0 := NB184_155.out
                                      have hms49_1 := NB184_178.out
                                      have hs50 : w45.cell? ⟨gb184, 4, none⟩ = some (.int .i64 0) := (blk_cell BK184.out 4).trans rfl
                                      have hfs50 := blk_frozen BK184.out 4
                                      have hns50_0 := NB155_184.out
                                      have hns50_1 := NB178_184.out
                                      have hms50_0 := NB184_155.out
                                      have hms50_1 := NB184_178.out
                                      have hs51 : w45.cell? ⟨gb184, 5, none⟩ = some (.int .i64 0) := (blk_cell BK184.out 5).trans rfl
                                      have hfs51 := blk_frozen BK184.out 5
                                      have hns51_0 := NB155_184.out
                                      have hns51_1 := NB178_184.out
                                      have hms51_0 := NB184_155.out
                                      have hms51_1 := NB184_178.out
                                      have hs52 : w45.cell? ⟨gb184, 6, none⟩ = some (.int .i64 0) := (blk_cell BK184.out 6).trans rfl
                                      have hfs52 := blk_frozen BK184.out 6
                                      have hns52_0 := NB155_184.out
                                      have hns52_1 := NB178_184.out
                                      have hms52_0 := NB184_155.out
                                      have hms52_1 := NB184_178.out
                                      refine skip_ (w1 := ?_) (by rfl) rfl ?_ ?_
                                      rotate_left
                                      · go_simp
                                        rfl
                                      have hob0_ := Kd.own_blk (Kd.R_ne HO_5.out BK184.out (by decide))
                                      have hob1_ := Kd.own_blk (Kd.R_ne HO_4.out BK184.out (by decide))
                                      refine hK.out _ _ ⟨((cell_far (p := ⟨gb184, _, none⟩) NB178_184.out _).trans (((cell_far (p := ⟨gb184, _, none⟩) NB178_184.out _).trans (((cell_far (p := ⟨gb184, _, none⟩) NB178_184.out _).trans (((cell_far (p := ⟨gb184, _, none⟩) NB178_184.out _).trans (((cell_far (p := ⟨gb184, _, none⟩) NB178_184.out _).trans (((cell_far (p := ⟨gb184, _, none⟩) NB178_184.out _).trans (((cell_far (p := ⟨gb184, _, none⟩) NB178_184.out _).trans (hHeld.1)))))))))))))), ((cell_far (p := ⟨gb184, _, none⟩) NB178_184.out _).trans (((cell_far (p := ⟨gb184, _, none⟩) NB178_184.out _).trans (((cell_far (p := ⟨gb184, _, none⟩) NB178_184.out _).trans (((cell_far (p := ⟨gb184, _, none⟩) NB178_184.out _).trans (((cell_far (p := ⟨gb184, _, none⟩) NB178_184.out _).trans (((cell_far (p := ⟨gb184, _, none⟩) NB178_184.out _).trans (((cell_far (p := ⟨gb184, _, none⟩) NB178_184.out _).trans (hHeld.2.1)))))))))))))), ((cell_far (p := ⟨gb184, _, none⟩) (by first | exact hob0_ | (dsimp only; exact hob0_) | (rw [add_block]; exact hob0_)) _).trans (((cell_far (p := ⟨gb184, _, none⟩) (by first | exact hob0_ | (dsimp only; exact hob0_) | (rw [add_block]; exact hob0_)) _).trans (((cell_far (p := ⟨gb184, _, none⟩) (by first | exact hob0_ | (dsimp only; exact hob0_) | (rw [add_block]; exact hob0_)) _).trans (((cell_far (p := ⟨gb184, _, none⟩) (by first | exact hob0_ | (dsimp only; exact hob0_) | (rw [add_block]; exact hob0_)) _).trans (((cell_far (p := ⟨gb184, _, none⟩) (by first | exact hob0_ | (dsimp only; exact hob0_) | (rw [add_block]; exact hob0_)) _).trans (((cell_far (p := ⟨gb184, _, none⟩) (by first | exact hob0_ | (dsimp only; exact hob0_) | (rw [add_block]; exact hob0_)) _).trans (((cell_far (p := ⟨gb184, _, none⟩) (by first | exact hob0_ | (dsimp only; exact hob0_) | (rw [add_block]; exact hob0_)) _).trans (hHeld.2.2.1)))))))))))))), ((cell_far (p := ⟨gb184, _, none⟩) (by first | exact hob0_ | (dsimp only; exact hob0_) | (rw [add_block]; exact hob0_)) _).trans (((cell_far (p := ⟨gb184, _, none⟩) (by first | exact hob0_ | (dsimp only; exact hob0_) | (rw [add_block]; exact hob0_)) _).trans (((cell_far (p := ⟨gb184, _, none⟩) (by first | exact hob0_ | (dsimp only; exact hob0_) | (rw [add_block]; exact hob0_)) _).trans (((cell_far (p := ⟨gb184, _, none⟩) (by first | exact hob0_ | (dsimp only; exact hob0_) | (rw [add_block]; exact hob0_)) _).trans (((cell_far (p := ⟨gb184, _, none⟩) (by first | exact hob0_ | (dsimp only; exact hob0_) | (rw [add_block]; exact hob0_)) _).trans (((cell_far (p := ⟨gb184, _, none⟩) (by first | exact hob0_ | (dsimp only; exact hob0_) | (rw [add_block]; exact hob0_)) _).trans (((cell_far (p := ⟨gb184, _, none⟩) (by first | exact hob0_ | (dsimp only; exact hob0_) | (rw [add_block]; exact hob0_)) _).trans (hHeld.2.2.2.1)))))))))))))), ((cell_far (p := ⟨gb184, _, none⟩) (by first | exact hob1_ | (dsimp only; exact hob1_) | (rw [add_block]; exact hob1_)) _).trans (((cell_far (p := ⟨gb184, _, none⟩) (by first | exact hob1_ | (dsimp only; exact hob1_) | (rw [add_block]; exact hob1_)) _).trans (((cell_far (p := ⟨gb184, _, none⟩) (by first | exact hob1_ | (dsimp only; exact hob1_) | (rw [add_block]; exact hob1_)) _).trans (((cell_far (p := ⟨gb184, _, none⟩) (by first | exact hob1_ | (dsimp only; exact hob1_) | (rw [add_block]; exact hob1_)) _).trans (((cell_far (p := ⟨gb184, _, none⟩) (by first | exact hob1_ | (dsimp only; exact hob1_) | (rw [add_block]; exact hob1_)) _).trans (((cell_far (p := ⟨gb184, _, none⟩) (by first | exact hob1_ | (dsimp only; exact hob1_) | (rw [add_block]; exact hob1_)) _).trans (((cell_far (p := ⟨gb184, _, none⟩) (by first | exact hob1_ | (dsimp only; exact hob1_) | (rw [add_block]; exact hob1_)) _).trans (hHeld.2.2.2.2.1)))))))))))))), ((cell_far (p := ⟨gb184, _, none⟩) (by first | exact hob0_ | (dsimp only; exact hob0_) | (rw [add_block]; exact hob0_)) _).trans (((cell_far (p := ⟨gb184, _, none⟩) (by first | exact hob0_ | (dsimp only; exact hob0_) | (rw [add_block]; exact hob0_)) _).trans (((cell_far (p := ⟨gb184, _, none⟩) (by first | exact hob0_ | (dsimp only; exact hob0_) | (rw [add_block]; exact hob0_)) _).trans (((cell_far (p := ⟨gb184, _, none⟩) (by first | exact hob0_ | (dsimp only; exact hob0_) | (rw [add_block]; exact hob0_)) _).trans (((cell_far (p := ⟨gb184, _, none⟩) (by first | exact hob0_ | (dsimp only; exact hob0_) | (rw [add_block]; exact hob0_)) _).trans (((cell_far (p := ⟨gb184, _, none⟩) (by first | exact hob0_ | (dsimp only; exact hob0_) | (rw [add_block]; exact hob0_)) _).trans (((cell_far (p := ⟨gb184, _, none⟩) (by first | exact hob0_ | (dsimp only; exact hob0_) | (rw [add_block]; exact hob0_)) _).trans (hHeld.2.2.2.2.2.1)))))))))))))), ((cell_far (p := ⟨gb184, _, none⟩) (by first | exact hob0_ | (dsimp only; exact hob0_) | (rw [add_block]; exact hob0_)) _).trans (((cell_far (p := ⟨gb184, _, none⟩) (by first | exact hob0_ | (dsimp only; exact hob0_) | (rw [add_block]; exact hob0_)) _).trans (((cell_far (p := ⟨gb184, _, none⟩) (by first | exact hob0_ | (dsimp only; exact hob0_) | (rw [add_block]; exact hob0_)) _).trans (((cell_far (p := ⟨gb184, _, none⟩) (by first | exact hob0_ | (dsimp only; exact hob0_) | (rw [add_block]; exact hob0_)) _).trans (((cell_far (p := ⟨gb184, _, none⟩) (by first | exact hob0_ | (dsimp only; exact hob0_) | (rw [add_block]; exact hob0_)) _).trans (((cell_far (p := ⟨gb184, _, none⟩) (by first | exact hob0_ | (dsimp only; exact hob0_) | (rw [add_block]; exact hob0_)) _).trans (((cell_far (p := ⟨gb184, _, none⟩) (by first | exact hob0_ | (dsimp only; exact hob0_) | (rw [add_block]; exact hob0_)) _).trans (hHeld.2.2.2.2.2.2))))))))))))))⟩ (fun hHeld => ?_)
                                      clear hK K
                                      refine done_ (done_of HT_.out (by kernel_rfl)) ?_
                                      have hnb53 := NB184_155.out
                                      have hnc53 := NB155_184.out
                                      have hnb54 := NB184_178.out
                                      have hnc54 := NB178_184.out
                                      have hcz55_0 : w45.cell? ⟨gb184, 0, none⟩ = some (.int .i64 0) := (blk_cell BK184.out 0).trans rfl
                                      have hcz55_1 : w45.cell? ⟨gb184, 1, none⟩ = some (.string (⟨#[]⟩ : ByteArray)) := (blk_cell BK184.out 1).trans rfl
                                      have hcz55_2 : w45.cell? ⟨gb184, 2, none⟩ = some (.int .i64 0) := (blk_cell BK184.out 2).trans rfl
                                      have hcz55_3 : w45.cell? ⟨gb184, 3, none⟩ = some (.int .i64 0) := (blk_cell BK184.out 3).trans rfl
                                      have hcz55_4 : w45.cell? ⟨gb184, 4, none⟩ = some (.int .i64 0) := (blk_cell BK184.out 4).trans rfl
                                      have hcz55_5 : w45.cell? ⟨gb184, 5, none⟩ = some (.int .i64 0) := (blk_cell BK184.out 5).trans rfl
                                      have hcz55_6 : w45.cell? ⟨gb184, 6, none⟩ = some (.int .i64 0) := (blk_cell BK184.out 6).trans rfl
                                      have hfz55_0 := blk_frozen BK184.out 0
                                      have hfz55_1 := blk_frozen BK184.out 1
                                      have hfz55_2 := blk_frozen BK184.out 2
                                      have hfz55_3 := blk_frozen BK184.out 3
                                      have hfz55_4 := blk_frozen BK184.out 4
                                      have hfz55_5 := blk_frozen BK184.out 5
                                      have hfz55_6 := blk_frozen BK184.out 6
                                      try go_wp2_with (first | ((with_reducible refine gate_callee (f := 41) rfl ?_); refine goesL_ (some 77) rfl rfl Tryz.func41 (by kernel_rfl) rfl #[.agg #[.int .i64 (rd x5_1 1), .string (rdOf ByteArray.empty t156 2), .int .i64 t175, .int .i64 t176, .int .i64 (rd x5_1 2), .int .i64 (rd x5_1 3), .int .i64 (rd x5_1 0)]] rfl (by (try simp only [List.map_toArray, List.map_cons, List.map_nil]); first | done | rfl | (simp only [List.length_drop, List.length_take]; rfl)) ?_; (with_reducible refine (book_Text.calls k1 (rd x5_1 1) (rdOf ByteArray.empty t156 2) t175 t176 (rd x5_1 2) (rd x5_1 3) (rd x5_1 0) t185 t186 _ ?sideE A35.out).mono ?_); (case sideE => exact HENV.out.below (by repeat (first | (with_reducible first | exact HB.out | apply below_alloc | apply pw_below_drewN | apply below_drew1 | refine below_set ?_ GE155.out | refine below_set ?_ GE178.out | refine below_set ?_ GE184.out) | exact HB.out))); rintro e w56 ⟨rfl, hb⟩; refine ⟨_, rfl, ?_⟩; have n0_ := Aside0.mk (Kd.R_below (by (with_reducible repeat (first | apply Kd.R_alloc | apply Kd.R_drewN | apply Kd.R_drew)); exact (Kd.R_mono (Kd.R_far (p := ⟨gb184, 6, none⟩) (Kd.R_far (p := ⟨gb184, 5, none⟩) (Kd.R_far (p := ⟨gb184, 4, none⟩) (Kd.R_far (p := ⟨gb184, 3, none⟩) (Kd.R_far (p := ⟨gb184, 2, none⟩) (Kd.R_far (p := ⟨gb184, 1, none⟩) (Kd.R_far (p := ⟨gb184, 0, none⟩) (Kd.R_types HO_4.out BK184.out (by decide)) (fun _ hk => hk.2) (.int .i64 (rd x5_1 1))) (fun _ hk => hk.2) (.string (rdOf ByteArray.empty t156 2))) (fun _ hk => hk.2) (.int .i64 t175)) (fun _ hk => hk.2) (.int .i64 t176)) (fun _ hk => hk.2) (.int .i64 (rd x5_1 2))) (fun _ hk => hk.2) (.int .i64 (rd x5_1 3))) (fun _ hk => hk.2) (.int .i64 (rd x5_1 0))) (fun _ h_ => h_.1))) hb); have n1_ := Aside0.mk (Kd.R_below (by (with_reducible repeat (first | apply Kd.R_alloc | apply Kd.R_drewN | apply Kd.R_drew)); exact (Kd.R_mono (Kd.R_far (p := ⟨gb184, 6, none⟩) (Kd.R_far (p := ⟨gb184, 5, none⟩) (Kd.R_far (p := ⟨gb184, 4, none⟩) (Kd.R_far (p := ⟨gb184, 3, none⟩) (Kd.R_far (p := ⟨gb184, 2, none⟩) (Kd.R_far (p := ⟨gb184, 1, none⟩) (Kd.R_far (p := ⟨gb184, 0, none⟩) (Kd.R_types HO_5.out BK184.out (by decide)) (fun _ hk => hk.2) (.int .i64 (rd x5_1 1))) (fun _ hk => hk.2) (.string (rdOf ByteArray.empty t156 2))) (fun _ hk => hk.2) (.int .i64 t175)) (fun _ hk => hk.2) (.int .i64 t176)) (fun _ hk => hk.2) (.int .i64 (rd x5_1 2))) (fun _ hk => hk.2) (.int .i64 (rd x5_1 3))) (fun _ hk => hk.2) (.int .i64 (rd x5_1 0))) (fun _ h_ => h_.1))) hb); have n2_ := Aside0.mk (Kd.R_below (by (with_reducible repeat (first | apply Kd.R_alloc | apply Kd.R_drewN | apply Kd.R_drew)); exact (Kd.R_mono (Kd.R_far (p := ⟨gb184, 6, none⟩) (Kd.R_far (p := ⟨gb184, 5, none⟩) (Kd.R_far (p := ⟨gb184, 4, none⟩) (Kd.R_far (p := ⟨gb184, 3, none⟩) (Kd.R_far (p := ⟨gb184, 2, none⟩) (Kd.R_far (p := ⟨gb184, 1, none⟩) (Kd.R_far (p := ⟨gb184, 0, none⟩) (Kd.R_types HO_33.out BK184.out (by decide)) (fun _ hk => hk.2) (.int .i64 (rd x5_1 1))) (fun _ hk => hk.2) (.string (rdOf ByteArray.empty t156 2))) (fun _ hk => hk.2) (.int .i64 t175)) (fun _ hk => hk.2) (.int .i64 t176)) (fun _ hk => hk.2) (.int .i64 (rd x5_1 2))) (fun _ hk => hk.2) (.int .i64 (rd x5_1 3))) (fun _ hk => hk.2) (.int .i64 (rd x5_1 0))) (fun _ h_ => h_.1))) hb); have n3_ := Aside0.mk (blk_below (g := gb155) (o := .cells #[.int .i64 x156000_1, .string x156001_1, .int .i64 x156002_1, .int .i64 x156003_1, .int .i64 x156004_1, .int .i64 x156005_1, .int .i64 x156006_1] 48 (0, 0)) (by (with_reducible repeat (first | refine blk_drewN ?_ _ | refine blk_drew ?_ | refine blk_alloc ?_ _)); refine blk_far ?_ NB155_184.out _; (with_reducible repeat (first | refine blk_drewN ?_ _ | refine blk_drew ?_ | refine blk_alloc ?_ _)); refine blk_far ?_ NB155_184.out _; (with_reducible repeat (first | refine blk_drewN ?_ _ | refine blk_drew ?_ | refine blk_alloc ?_ _)); refine blk_far ?_ NB155_184.out _; (with_reducible repeat (first | refine blk_drewN ?_ _ | refine blk_drew ?_ | refine blk_alloc ?_ _)); refine blk_far ?_ NB155_184.out _; (with_reducible repeat (first | refine blk_drewN ?_ _ | refine blk_drew ?_ | refine blk_alloc ?_ _)); refine blk_far ?_ NB155_184.out _; (with_reducible repeat (first | refine blk_drewN ?_ _ | refine blk_drew ?_ | refine blk_alloc ?_ _)); refine blk_far ?_ NB155_184.out _; (with_reducible repeat (first | refine blk_drewN ?_ _ | refine blk_drew ?_ | refine blk_alloc ?_ _)); refine blk_far ?_ NB155_184.out _; (with_reducible repeat (first | refine blk_drewN ?_ _ | refine blk_drew ?_ | refine blk_alloc ?_ _)); exact BK155.out) hb); have n4_ := Aside0.mk (blk_below (g := gb178) (o := .cells #[.int .i64 t175, .int .i64 t176] 46 (0, 0)) (by (with_reducible repeat (first | refine blk_drewN ?_ _ | refine blk_drew ?_ | refine blk_alloc ?_ _)); refine blk_far ?_ NB178_184.out _; (with_reducible repeat (first | refine blk_drewN ?_ _ | refine blk_drew ?_ | refine blk_alloc ?_ _)); refine blk_far ?_ NB178_184.out _; (with_reducible repeat (first | refine blk_drewN ?_ _ | refine blk_drew ?_ | refine blk_alloc ?_ _)); refine blk_far ?_ NB178_184.out _; (with_reducible repeat (first | refine blk_drewN ?_ _ | refine blk_drew ?_ | refine blk_alloc ?_ _)); refine blk_far ?_ NB178_184.out _; (with_reducible repeat (first | refine blk_drewN ?_ _ | refine blk_drew ?_ | refine blk_alloc ?_ _)); refine blk_far ?_ NB178_184.out _; (with_reducible repeat (first | refine blk_drewN ?_ _ | refine blk_drew ?_ | refine blk_alloc ?_ _)); refine blk_far ?_ NB178_184.out _; (with_reducible repeat (first | refine blk_drewN ?_ _ | refine blk_drew ?_ | refine blk_alloc ?_ _)); refine blk_far ?_ NB178_184.out _; (with_reducible repeat (first | refine blk_drewN ?_ _ | refine blk_drew ?_ | refine blk_alloc ?_ _)); exact BK178.out) hb); have n5_ := Aside0.mk (blk_below (g := gb184) (o := .cells #[.int .i64 (rd x5_1 1), .string (rdOf ByteArray.empty t156 2), .int .i64 t175, .int .i64 t176, .int .i64 (rd x5_1 2), .int .i64 (rd x5_1 3), .int .i64 (rd x5_1 0)] 48 (0, 0)) (by (with_reducible repeat (first | refine blk_drewN ?_ _ | refine blk_drew ?_ | refine blk_alloc ?_ _)); refine blk_put (cs := #[.int .i64 (rd x5_1 1), .string (rdOf ByteArray.empty t156 2), .int .i64 t175, .int .i64 t176, .int .i64 (rd x5_1 2), .int .i64 (rd x5_1 3), .int .i64 0]) ?_ 6 _ rfl; (with_reducible repeat (first | refine blk_drewN ?_ _ | refine blk_drew ?_ | refine blk_alloc ?_ _)); refine blk_put (cs := #[.int .i64 (rd x5_1 1), .string (rdOf ByteArray.empty t156 2), .int .i64 t175, .int .i64 t176, .int .i64 (rd x5_1 2), .int .i64 0, .int .i64 0]) ?_ 5 _ rfl; (with_reducible repeat (first | refine blk_drewN ?_ _ | refine blk_drew ?_ | refine blk_alloc ?_ _)); refine blk_put (cs := #[.int .i64 (rd x5_1 1), .string (rdOf ByteArray.empty t156 2), .int .i64 t175, .int .i64 t176, .int .i64 0, .int .i64 0, .int .i64 0]) ?_ 4 _ rfl; (with_reducible repeat (first | refine blk_drewN ?_ _ | refine blk_drew ?_ | refine blk_alloc ?_ _)); refine blk_put (cs := #[.int .i64 (rd x5_1 1), .string (rdOf ByteArray.empty t156 2), .int .i64 t175, .int .i64 0, .int .i64 0, .int .i64 0, .int .i64 0]) ?_ 3 _ rfl; (with_reducible repeat (first | refine blk_drewN ?_ _ | refine blk_drew ?_ | refine blk_alloc ?_ _)); refine blk_put (cs := #[.int .i64 (rd x5_1 1), .string (rdOf ByteArray.empty t156 2), .int .i64 0, .int .i64 0, .int .i64 0, .int .i64 0, .int .i64 0]) ?_ 2 _ rfl; (with_reducible repeat (first | refine blk_drewN ?_ _ | refine blk_drew ?_ | refine blk_alloc ?_ _)); refine blk_put (cs := #[.int .i64 (rd x5_1 1), .string (⟨#[]⟩ : ByteArray), .int .i64 0, .int .i64 0, .int .i64 0, .int .i64 0, .int .i64 0]) ?_ 1 _ rfl; (with_reducible repeat (first | refine blk_drewN ?_ _ | refine blk_drew ?_ | refine blk_alloc ?_ _)); refine blk_put (cs := #[.int .i64 0, .string (⟨#[]⟩ : ByteArray), .int .i64 0, .int .i64 0, .int .i64 0, .int .i64 0, .int .i64 0]) ?_ 0 _ rfl; (with_reducible repeat (first | refine blk_drewN ?_ _ | refine blk_drew ?_ | refine blk_alloc ?_ _)); exact BK184.out) hb); have n6_ := Aside0.mk (below_step (by repeat (first | (with_reducible first | exact HB.out | apply below_alloc | apply pw_below_drewN | apply below_drew1 | refine below_set ?_ GE155.out | refine below_set ?_ GE178.out | refine below_set ?_ GE184.out) | exact HB.out)) hb); clear HO_4; clear HO_5; clear HO_33; clear BK155; clear BK178; clear BK184; clear HB; have HO_4 := n0_; have HO_5 := n1_; have HO_33 := n2_; have BK155 := n3_; have BK178 := n4_; have BK184 := n5_; have HB := n6_; clear n0_ n1_ n2_ n3_ n4_ n5_ n6_; (try clear hb); (try clear hb2); (try clear hk); (try clear hi); have hcz57_0 : w56.cell? ⟨gb184, 0, none⟩ = some (.int .i64 (rd x5_1 1)) := (blk_cell BK184.out 0).trans rfl; have hcz57_1 : w56.cell? ⟨gb184, 1, none⟩ = some (.string (rdOf ByteArray.empty t156 2)) := (blk_cell BK184.out 1).trans rfl; have hcz57_2 : w56.cell? ⟨gb184, 2, none⟩ = some (.int .i64 t175) := (blk_cell BK184.out 2).trans rfl; have hcz57_3 : w56.cell? ⟨gb184, 3, none⟩ = some (.int .i64 t176) := (blk_cell BK184.out 3).trans rfl; have hcz57_4 : w56.cell? ⟨gb184, 4, none⟩ = some (.int .i64 (rd x5_1 2)) := (blk_cell BK184.out 4).trans rfl; have hcz57_5 : w56.cell? ⟨gb184, 5, none⟩ = some (.int .i64 (rd x5_1 3)) := (blk_cell BK184.out 5).trans rfl; have hcz57_6 : w56.cell? ⟨gb184, 6, none⟩ = some (.int .i64 (rd x5_1 0)) := (blk_cell BK184.out 6).trans rfl; have hfz57_0 := blk_frozen BK184.out 0; have hfz57_1 := blk_frozen BK184.out 1; have hfz57_2 := blk_frozen BK184.out 2; have hfz57_3 := blk_frozen BK184.out 3; have hfz57_4 := blk_frozen BK184.out 4; have hfz57_5 := blk_frozen BK184.out 5; have hfz57_6 := blk_frozen BK184.out 6; have hcz58_0 : w56.cell? ⟨gb155, 0, none⟩ = some (.int .i64 x156000_1) := (blk_cell BK155.out 0).trans rfl; have hcz58_1 : w56.cell? ⟨gb155, 1, none⟩ = some (.string x156001_1) := (blk_cell BK155.out 1).trans rfl; have hcz58_2 : w56.cell? ⟨gb155, 2, none⟩ = some (.int .i64 x156002_1) := (blk_cell BK155.out 2).trans rfl; have hcz58_3 : w56.cell? ⟨gb155, 3, none⟩ = some (.int .i64 x156003_1) := (blk_cell BK155.out 3).trans rfl; have hcz58_4 : w56.cell? ⟨gb155, 4, none⟩ = some (.int .i64 x156004_1) := (blk_cell BK155.out 4).trans rfl; have hcz58_5 : w56.cell? ⟨gb155, 5, none⟩ = some (.int .i64 x156005_1) := (blk_cell BK155.out 5).trans rfl; have hcz58_6 : w56.cell? ⟨gb155, 6, none⟩ = some (.int .i64 x156006_1) := (blk_cell BK155.out 6).trans rfl; have hfz58_0 := blk_frozen BK155.out 0; have hfz58_1 := blk_frozen BK155.out 1; have hfz58_2 := blk_frozen BK155.out 2; have hfz58_3 := blk_frozen BK155.out 3; have hfz58_4 := blk_frozen BK155.out 4; have hfz58_5 := blk_frozen BK155.out 5; have hfz58_6 := blk_frozen BK155.out 6))
                                      refine bodyPost_ret (results_ct rfl _ _ gb155 48 #[.int .i64 (rd x5_1 1), .string (rdOf ByteArray.empty t156 2), .int .i64 t175, .int .i64 t176, .int .i64 (rd x5_1 2), .int .i64 (rd x5_1 3), .int .i64 (rd x5_1 0)] (0, 0) _ rfl (by (with_reducible repeat (first | refine blk_drewN ?_ _ | refine blk_drew ?_ | refine blk_alloc ?_ _)); refine blk_put (cs := #[.int .i64 (rd x5_1 1), .string (rdOf ByteArray.empty t156 2), .int .i64 t175, .int .i64 t176, .int .i64 (rd x5_1 2), .int .i64 (rd x5_1 3), .int .i64 x156006_1]) ?_ 6 _ rfl; (with_reducible repeat (first | refine blk_drewN ?_ _ | refine blk_drew ?_ | refine blk_alloc ?_ _)); refine blk_put (cs := #[.int .i64 (rd x5_1 1), .string (rdOf ByteArray.empty t156 2), .int .i64 t175, .int .i64 t176, .int .i64 (rd x5_1 2), .int .i64 x156005_1, .int .i64 x156006_1]) ?_ 5 _ rfl; (with_reducible repeat (first | refine blk_drewN ?_ _ | refine blk_drew ?_ | refine blk_alloc ?_ _)); refine blk_put (cs := #[.int .i64 (rd x5_1 1), .string (rdOf ByteArray.empty t156 2), .int .i64 t175, .int .i64 t176, .int .i64 x156004_1, .int .i64 x156005_1, .int .i64 x156006_1]) ?_ 4 _ rfl; (with_reducible repeat (first | refine blk_drewN ?_ _ | refine blk_drew ?_ | refine blk_alloc ?_ _)); refine blk_put (cs := #[.int .i64 (rd x5_1 1), .string (rdOf ByteArray.empty t156 2), .int .i64 t175, .int .i64 x156003_1, .int .i64 x156004_1, .int .i64 x156005_1, .int .i64 x156006_1]) ?_ 3 _ rfl; (with_reducible repeat (first | refine blk_drewN ?_ _ | refine blk_drew ?_ | refine blk_alloc ?_ _)); refine blk_put (cs := #[.int .i64 (rd x5_1 1), .string (rdOf ByteArray.empty t156 2), .int .i64 x156002_1, .int .i64 x156003_1, .int .i64 x156004_1, .int .i64 x156005_1, .int .i64 x156006_1]) ?_ 2 _ rfl; (with_reducible repeat (first | refine blk_drewN ?_ _ | refine blk_drew ?_ | refine blk_alloc ?_ _)); refine blk_put (cs := #[.int .i64 (rd x5_1 1), .string x156001_1, .int .i64 x156002_1, .int .i64 x156003_1, .int .i64 x156004_1, .int .i64 x156005_1, .int .i64 x156006_1]) ?_ 1 _ rfl; (with_reducible repeat (first | refine blk_drewN ?_ _ | refine blk_drew ?_ | refine blk_alloc ?_ _)); refine blk_put (cs := #[.int .i64 x156000_1, .string x156001_1, .int .i64 x156002_1, .int .i64 x156003_1, .int .i64 x156004_1, .int .i64 x156005_1, .int .i64 x156006_1]) ?_ 0 _ rfl; (with_reducible repeat (first | refine blk_drewN ?_ _ | refine blk_drew ?_ | refine blk_alloc ?_ _)); exact BK155.out) Tryz.underlying48 rfl (by kernel_rfl)) rfl ?_
                                      exact ⟨by first | rfl | (simp [errW_none, errW_some] <;> rfl) | (simp [*, errW_none, errW_some] <;> rfl), by repeat (first | (with_reducible first | exact HB.out | apply below_alloc | apply pw_below_drewN | apply below_drew1 | refine below_set ?_ GE155.out | refine below_set ?_ GE178.out | refine below_set ?_ GE184.out) | exact HB.out)⟩
                                    · rw [if_neg c37] at H
                                      have c37b0 : (t185.toList == a0.toList) = false := beq_eq_false_iff_ne.mpr c37
                                      have c37b1 : (t185.toList != a0.toList) = true := bne_iff_ne.mpr c37
                                      exact absurd H (by simp)
                                  · rw [if_neg c36] at H
                                    have c36b0 : (t186 == 0) = false := beq_eq_false_iff_ne.mpr c36
                                    have c36b1 : (t186 != 0) = true := bne_iff_ne.mpr c36
                                    exact absurd H (by simp)
                                · rw [if_neg c34] at H
                                  have c34b0 : (t177 == 0) = false := beq_eq_false_iff_ne.mpr c34
                                  have c34b1 : (t177 != 0) = true := bne_iff_ne.mpr c34
                                  exact absurd H (by simp)
                              · rw [if_neg c33] at H
                                exact absurd H (by simp)
                            · rw [if_neg c32] at H
                              exact absurd H (by simp)
                          · rw [if_neg c31] at H
                            exact absurd H (by simp)
                        · rw [if_neg c30] at H
                          exact absurd H (by simp)
                      · rw [if_neg c29] at H
                        exact absurd H (by simp)
                    · rw [if_neg c27] at H
                      exact absurd H (by simp)
            · rw [if_neg c8] at H
              exact absurd H (by simp)
          · rw [if_neg c7] at H
            exact absurd H (by simp)
        · rw [if_neg c6] at H
          exact absurd H (by simp)
      · rw [if_neg c5] at H
        exact absurd H (by simp)
    · rw [if_neg c4] at H
      exact absurd H (by simp)

end Go.Proofs.YtkjneemcledfjaaGreatDoor.PBookReplays
