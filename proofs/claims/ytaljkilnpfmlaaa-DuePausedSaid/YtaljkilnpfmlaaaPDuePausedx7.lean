/- The machine side of a law, written by a program of this session (wip/mp). -/
import Derived.Test.YtaljkilnpfmlaaaPDuePausedx0
import Derived.Test.YtaljkilnpfmlaaaPDuePausedx4
import Derived.Test.YtaljkilnpfmlaaaPDuePausedx6
namespace Go.Proofs.Ytaljkilnpfmlaaa.PDuePaused
open Go.RowKit Go.Proofs.YtaljkilnpfmlaaaW.PrintWords Go.Proofs.YtaljkilnpfmlaaaW.PrintLast Go.Proofs.YtaljkilnpfmlaaaW.PrintMore
attribute [local go_sem] max2_int min2_int max_two min_two max_three min_three max_four min_four   -- for this text's walks alone
set_option linter.unusedVariables false
set_option linter.unusedSimpArgs false

attribute [local go_sem] idx53_2_0 idx53_5_0 idx81_0_0 idx81_1_0 idxA81_0 idxA81_1
/-! ### day_Month: function 22 -/
def day_Month.f (k : Nat) (a0 : Int) : Option (Int) := (day_Parts.f k a0).bind fun bt164 => (some (wrap64 ((wrap64 ((wrap64 (12 * (wrap64 (bt164.1 - 1)))) + bt164.2.1)) - 1)))
theorem day_Month.mono : ∀ a0 k, LeO (day_Month.f k a0) (day_Month.f (k + 1) a0) := by
  intro a0 k
  unfold day_Month.f
  repeat' first
      | (with_reducible exact day_Parts.mono _ _)
      | (with_reducible exact LeO.refl _)
      | (with_reducible exact LeO.none _)
      | (with_reducible refine LeO.ite ?_ ?_)
      | (with_reducible refine LeO.bind ?_ (fun _ => ?_))
      | exact day_Parts.mono _ _
      | exact LeO.none _
      | refine LeO.ite ?_ ?_
      | refine LeO.bind ?_ (fun _ => ?_)
set_option maxHeartbeats 8000000 in
set_option maxRecDepth 100000 in
theorem day_Month.calls (k : Nat) (a0 : Int) (r : Int) (w : World) (h : day_Month.f k a0 = some r) :
    Calls Try.prog 22 #[.int .i64 a0] w fun e w' => e = .returned (.int .i64 r) ∧ Below w.heap.size w w' := by
  have HB := Aside0.mk (Below.refl w.heap.size w)
  have H : ((day_Parts.f k a0).bind fun bt164 => (some (wrap64 ((wrap64 ((wrap64 (12 * (wrap64 (bt164.1 - 1)))) + bt164.2.1)) - 1)))) = some r := h
  clear h; replace H := Option.bind_eq_some_iff.mp H
  obtain ⟨⟨t164, t165, t166⟩, A20, H⟩ := H
  replace H : (some (wrap64 ((wrap64 ((wrap64 (12 * (wrap64 (t164 - 1)))) + t165)) - 1))) = some r := H
  have A2 := Aside0.mk A20
  clear A20; obtain rfl := Option.some.inj H
  go_enter Try.func22, Try.ntmps22
  go_wp2_with (first | ((with_reducible refine gate_callee (f := 61) rfl ?_); refine goesL_ (some 8) rfl rfl Try.func61 (by kernel_rfl) rfl #[.int .i64 a0] rfl (by (try simp only [List.map_toArray, List.map_cons, List.map_nil]); first | done | rfl | (simp only [List.length_drop, List.length_take]; rfl)) ?_; (with_reducible refine (day_Parts.calls k a0 t164 t165 t166 _ A2.out).mono ?_); rintro e w3 ⟨rfl, hb⟩; refine ⟨_, rfl, ?_⟩; have n0_ := Aside0.mk (below_step (by repeat (first | (with_reducible first | exact HB.out | apply below_alloc | apply pw_below_drewN | apply below_drew1) | exact HB.out)) hb); clear HB; have HB := n0_; clear n0_; (try clear hb); (try clear hb2); (try clear hk); (try clear hi)))
  go_ret
  exact ⟨by first | rfl | (simp [errW_none, errW_some] <;> rfl) | (simp [*, errW_none, errW_some] <;> rfl), by repeat (first | (with_reducible first | exact HB.out | apply below_alloc | apply pw_below_drewN | apply below_drew1) | exact HB.out)⟩

/-! ### day_Size: function 24 -/
def day_Size.f (k : Nat) (a0 : Int) : Option (Int) := (day_Month.f k 1048575).bind fun t167 => ((day_ahead.f (wrap64 ((wrap64 (Int.tdiv (mx 0 (mn a0 t167)) 12)) + 1)) ((((mx 0 (mn a0 t167)) % 12) + 1) + 1)).bind fun t168 => ((day_ahead.f (wrap64 ((wrap64 (Int.tdiv (mx 0 (mn a0 t167)) 12)) + 1)) (((mx 0 (mn a0 t167)) % 12) + 1)).bind fun t169 => (some (wrap64 (t168 - t169)))))
theorem day_Size.mono : ∀ a0 k, LeO (day_Size.f k a0) (day_Size.f (k + 1) a0) := by
  intro a0 k
  unfold day_Size.f
  repeat' first
      | (with_reducible exact day_Month.mono _ _)
      | (with_reducible exact LeO.refl _)
      | (with_reducible exact LeO.none _)
      | (with_reducible refine LeO.ite ?_ ?_)
      | (with_reducible refine LeO.bind ?_ (fun _ => ?_))
      | exact day_Month.mono _ _
      | exact LeO.none _
      | refine LeO.ite ?_ ?_
      | refine LeO.bind ?_ (fun _ => ?_)
set_option maxHeartbeats 8000000 in
set_option maxRecDepth 100000 in
theorem day_Size.calls (k : Nat) (a0 : Int) (r : Int) (w : World) (h : day_Size.f k a0 = some r) :
    Calls Try.prog 24 #[.int .i64 a0] w fun e w' => e = .returned (.int .i64 r) ∧ Below w.heap.size w w' := by
  have HB := Aside0.mk (Below.refl w.heap.size w)
  have H : ((day_Month.f k 1048575).bind fun t167 => ((day_ahead.f (wrap64 ((wrap64 (Int.tdiv (mx 0 (mn a0 t167)) 12)) + 1)) ((((mx 0 (mn a0 t167)) % 12) + 1) + 1)).bind fun t168 => ((day_ahead.f (wrap64 ((wrap64 (Int.tdiv (mx 0 (mn a0 t167)) 12)) + 1)) (((mx 0 (mn a0 t167)) % 12) + 1)).bind fun t169 => (some (wrap64 (t168 - t169)))))) = some r := h
  clear h; replace H := Option.bind_eq_some_iff.mp H
  obtain ⟨t167, A20, H⟩ := H
  replace H : ((day_ahead.f (wrap64 ((wrap64 (Int.tdiv (mx 0 (mn a0 t167)) 12)) + 1)) ((((mx 0 (mn a0 t167)) % 12) + 1) + 1)).bind fun t168 => ((day_ahead.f (wrap64 ((wrap64 (Int.tdiv (mx 0 (mn a0 t167)) 12)) + 1)) (((mx 0 (mn a0 t167)) % 12) + 1)).bind fun t169 => (some (wrap64 (t168 - t169))))) = some r := H
  have A2 := Aside0.mk A20
  clear A20
  obtain ⟨ji3, hji3⟩ : ∃ j_ : Int, (mn a0 t167) = j_ := ⟨_, rfl⟩
  replace H : ((day_ahead.f (wrap64 ((wrap64 (Int.tdiv (mx 0 (ji3)) 12)) + 1)) ((((mx 0 (ji3)) % 12) + 1) + 1)).bind fun t168 => ((day_ahead.f (wrap64 ((wrap64 (Int.tdiv (mx 0 (ji3)) 12)) + 1)) (((mx 0 (ji3)) % 12) + 1)).bind fun t169 => (some (wrap64 (t168 - t169))))) = some r := by first | (rw [hji3] at H; exact H) | (simp only [hji3] at H ⊢; exact H)
  (try rw [hji3] at A2)
  have hji3_ : (if t167 < a0 then t167 else a0) = ji3 := hji3
  obtain ⟨ji4, hji4⟩ : ∃ j_ : Int, (mx 0 (ji3)) = j_ := ⟨_, rfl⟩
  replace H : ((day_ahead.f (wrap64 ((wrap64 (Int.tdiv (ji4) 12)) + 1)) ((((ji4) % 12) + 1) + 1)).bind fun t168 => ((day_ahead.f (wrap64 ((wrap64 (Int.tdiv (ji4) 12)) + 1)) (((ji4) % 12) + 1)).bind fun t169 => (some (wrap64 (t168 - t169))))) = some r := by first | (rw [hji4] at H; exact H) | (simp only [hji4] at H ⊢; exact H)
  (try rw [hji4] at A2)
  (try (have hji4l : 0 ≤ ji4 := by (rw [← hji4]; unfold mx; (repeat' split) <;> omega)))
  (try (have hji4m : 0 ≤ ji4 := by omega))
  have hji4_ : (if 0 < (ji3) then (ji3) else 0) = ji4 := hji4
  replace H := Option.bind_eq_some_iff.mp H
  obtain ⟨t168, A50, H⟩ := H
  replace H : ((day_ahead.f (wrap64 ((wrap64 (Int.tdiv (ji4) 12)) + 1)) (((ji4) % 12) + 1)).bind fun t169 => (some (wrap64 (t168 - t169)))) = some r := H
  have A5 := Aside0.mk A50
  clear A50; replace H := Option.bind_eq_some_iff.mp H
  obtain ⟨t169, A60, H⟩ := H
  replace H : (some (wrap64 (t168 - t169))) = some r := H
  have A6 := Aside0.mk A60
  clear A60; obtain rfl := Option.some.inj H
  go_enter Try.func24, Try.ntmps24
  go_wp2_with (first | ((with_reducible refine gate_callee (f := 22) rfl ?_); refine goesL_ (some 6) rfl rfl Try.func22 (by kernel_rfl) rfl #[.int .i64 1048575] rfl (by (try simp only [List.map_toArray, List.map_cons, List.map_nil]); first | done | rfl | (simp only [List.length_drop, List.length_take]; rfl)) ?_; (with_reducible refine (day_Month.calls k 1048575 t167 _ A2.out).mono ?_); rintro e w7 ⟨rfl, hb⟩; refine ⟨_, rfl, ?_⟩; have n0_ := Aside0.mk (below_step (by repeat (first | (with_reducible first | exact HB.out | apply below_alloc | apply pw_below_drewN | apply below_drew1) | exact HB.out)) hb); clear HB; have HB := n0_; clear n0_; (try clear hb); (try clear hb2); (try clear hk); (try clear hi)) | ((with_reducible refine gate_callee (f := 62) rfl ?_); refine goesL_ (some 18) rfl rfl Try.func62 (by kernel_rfl) rfl #[.int .i64 (wrap64 ((wrap64 (Int.tdiv (ji4) 12)) + 1)), .int .i64 ((((ji4) % 12) + 1) + 1)] rfl (by (try simp only [List.map_toArray, List.map_cons, List.map_nil]); first | done | (simp only [hji4]; rfl) | rfl | (simp only [List.length_drop, List.length_take]; rfl)) ?_; (with_reducible refine (day_ahead.calls (wrap64 ((wrap64 (Int.tdiv (ji4) 12)) + 1)) ((((ji4) % 12) + 1) + 1) t168 _ A5.out).mono ?_); rintro e w' ⟨rfl, ⟨nd, rfl⟩⟩; refine ⟨_, rfl, ?_⟩) | ((with_reducible refine gate_callee (f := 62) rfl ?_); refine goesL_ (some 21) rfl rfl Try.func62 (by kernel_rfl) rfl #[.int .i64 (wrap64 ((wrap64 (Int.tdiv (ji4) 12)) + 1)), .int .i64 (((ji4) % 12) + 1)] rfl (by (try simp only [List.map_toArray, List.map_cons, List.map_nil]); first | done | (simp only [hji4]; rfl) | rfl | (simp only [List.length_drop, List.length_take]; rfl)) ?_; (with_reducible refine (day_ahead.calls (wrap64 ((wrap64 (Int.tdiv (ji4) 12)) + 1)) (((ji4) % 12) + 1) t169 _ A6.out).mono ?_); rintro e w' ⟨rfl, ⟨nd, rfl⟩⟩; refine ⟨_, rfl, ?_⟩))
  go_ret
  exact ⟨by first | rfl | (simp [errW_none, errW_some] <;> rfl) | (simp only [← hji3, ← hji4]; first | rfl | (simp [errW_none, errW_some] <;> rfl)) | (simp [*, errW_none, errW_some] <;> rfl), by repeat (first | (with_reducible first | exact HB.out | apply below_alloc | apply pw_below_drewN | apply below_drew1) | exact HB.out)⟩

/-! ### day_First: function 28 -/
def day_First.f (k : Nat) (a0 : Int) : Option (Int) := (day_Month.f k 1048575).bind fun t170 => ((day_first.f (wrap64 ((wrap64 (Int.tdiv (mx 0 (mn a0 t170)) 12)) + 1))).bind fun t171 => ((day_ahead.f (wrap64 ((wrap64 (Int.tdiv (mx 0 (mn a0 t170)) 12)) + 1)) (((mx 0 (mn a0 t170)) % 12) + 1)).bind fun t172 => (some (wrap64 (t171 + t172)))))
theorem day_First.mono : ∀ a0 k, LeO (day_First.f k a0) (day_First.f (k + 1) a0) := by
  intro a0 k
  unfold day_First.f
  repeat' first
      | (with_reducible exact day_Month.mono _ _)
      | (with_reducible exact LeO.refl _)
      | (with_reducible exact LeO.none _)
      | (with_reducible refine LeO.ite ?_ ?_)
      | (with_reducible refine LeO.bind ?_ (fun _ => ?_))
      | exact day_Month.mono _ _
      | exact LeO.none _
      | refine LeO.ite ?_ ?_
      | refine LeO.bind ?_ (fun _ => ?_)
set_option maxHeartbeats 8000000 in
set_option maxRecDepth 100000 in
theorem day_First.calls (k : Nat) (a0 : Int) (r : Int) (w : World) (h : day_First.f k a0 = some r) :
    Calls Try.prog 28 #[.int .i64 a0] w fun e w' => e = .returned (.int .i64 r) ∧ Below w.heap.size w w' := by
  have HB := Aside0.mk (Below.refl w.heap.size w)
  have H : ((day_Month.f k 1048575).bind fun t170 => ((day_first.f (wrap64 ((wrap64 (Int.tdiv (mx 0 (mn a0 t170)) 12)) + 1))).bind fun t171 => ((day_ahead.f (wrap64 ((wrap64 (Int.tdiv (mx 0 (mn a0 t170)) 12)) + 1)) (((mx 0 (mn a0 t170)) % 12) + 1)).bind fun t172 => (some (wrap64 (t171 + t172)))))) = some r := h
  clear h; replace H := Option.bind_eq_some_iff.mp H
  obtain ⟨t170, A20, H⟩ := H
  replace H : ((day_first.f (wrap64 ((wrap64 (Int.tdiv (mx 0 (mn a0 t170)) 12)) + 1))).bind fun t171 => ((day_ahead.f (wrap64 ((wrap64 (Int.tdiv (mx 0 (mn a0 t170)) 12)) + 1)) (((mx 0 (mn a0 t170)) % 12) + 1)).bind fun t172 => (some (wrap64 (t171 + t172))))) = some r := H
  have A2 := Aside0.mk A20
  clear A20
  obtain ⟨ji3, hji3⟩ : ∃ j_ : Int, (mn a0 t170) = j_ := ⟨_, rfl⟩
  replace H : ((day_first.f (wrap64 ((wrap64 (Int.tdiv (mx 0 (ji3)) 12)) + 1))).bind fun t171 => ((day_ahead.f (wrap64 ((wrap64 (Int.tdiv (mx 0 (ji3)) 12)) + 1)) (((mx 0 (ji3)) % 12) + 1)).bind fun t172 => (some (wrap64 (t171 + t172))))) = some r := by first | (rw [hji3] at H; exact H) | (simp only [hji3] at H ⊢; exact H)
  (try rw [hji3] at A2)
  have hji3_ : (if t170 < a0 then t170 else a0) = ji3 := hji3
  obtain ⟨ji4, hji4⟩ : ∃ j_ : Int, (mx 0 (ji3)) = j_ := ⟨_, rfl⟩
  replace H : ((day_first.f (wrap64 ((wrap64 (Int.tdiv (ji4) 12)) + 1))).bind fun t171 => ((day_ahead.f (wrap64 ((wrap64 (Int.tdiv (ji4) 12)) + 1)) (((ji4) % 12) + 1)).bind fun t172 => (some (wrap64 (t171 + t172))))) = some r := by first | (rw [hji4] at H; exact H) | (simp only [hji4] at H ⊢; exact H)
  (try rw [hji4] at A2)
  (try (have hji4l : 0 ≤ ji4 := by (rw [← hji4]; unfold mx; (repeat' split) <;> omega)))
  (try (have hji4m : 0 ≤ ji4 := by omega))
  have hji4_ : (if 0 < (ji3) then (ji3) else 0) = ji4 := hji4
  replace H := Option.bind_eq_some_iff.mp H
  obtain ⟨t171, A50, H⟩ := H
  replace H : ((day_ahead.f (wrap64 ((wrap64 (Int.tdiv (ji4) 12)) + 1)) (((ji4) % 12) + 1)).bind fun t172 => (some (wrap64 (t171 + t172)))) = some r := H
  have A5 := Aside0.mk A50
  clear A50; replace H := Option.bind_eq_some_iff.mp H
  obtain ⟨t172, A60, H⟩ := H
  replace H : (some (wrap64 (t171 + t172))) = some r := H
  have A6 := Aside0.mk A60
  clear A60; obtain rfl := Option.some.inj H
  go_enter Try.func28, Try.ntmps28
  go_wp2_with (first | ((with_reducible refine gate_callee (f := 22) rfl ?_); refine goesL_ (some 5) rfl rfl Try.func22 (by kernel_rfl) rfl #[.int .i64 1048575] rfl (by (try simp only [List.map_toArray, List.map_cons, List.map_nil]); first | done | rfl | (simp only [List.length_drop, List.length_take]; rfl)) ?_; (with_reducible refine (day_Month.calls k 1048575 t170 _ A2.out).mono ?_); rintro e w7 ⟨rfl, hb⟩; refine ⟨_, rfl, ?_⟩; have n0_ := Aside0.mk (below_step (by repeat (first | (with_reducible first | exact HB.out | apply below_alloc | apply pw_below_drewN | apply below_drew1) | exact HB.out)) hb); clear HB; have HB := n0_; clear n0_; (try clear hb); (try clear hb2); (try clear hk); (try clear hi)) | ((with_reducible refine gate_callee (f := 70) rfl ?_); refine goesL_ (some 12) rfl rfl Try.func70 (by kernel_rfl) rfl #[.int .i64 (wrap64 ((wrap64 (Int.tdiv (ji4) 12)) + 1))] rfl (by (try simp only [List.map_toArray, List.map_cons, List.map_nil]); first | done | (simp only [hji4]; rfl) | rfl | (simp only [List.length_drop, List.length_take]; rfl)) ?_; (with_reducible refine (day_first.calls (wrap64 ((wrap64 (Int.tdiv (ji4) 12)) + 1)) t171 _ A5.out).mono ?_); rintro e w' ⟨rfl, ⟨nd, rfl⟩⟩; refine ⟨_, rfl, ?_⟩) | ((with_reducible refine gate_callee (f := 62) rfl ?_); refine goesL_ (some 17) rfl rfl Try.func62 (by kernel_rfl) rfl #[.int .i64 (wrap64 ((wrap64 (Int.tdiv (ji4) 12)) + 1)), .int .i64 (((ji4) % 12) + 1)] rfl (by (try simp only [List.map_toArray, List.map_cons, List.map_nil]); first | done | (simp only [hji4]; rfl) | rfl | (simp only [List.length_drop, List.length_take]; rfl)) ?_; (with_reducible refine (day_ahead.calls (wrap64 ((wrap64 (Int.tdiv (ji4) 12)) + 1)) (((ji4) % 12) + 1) t172 _ A6.out).mono ?_); rintro e w' ⟨rfl, ⟨nd, rfl⟩⟩; refine ⟨_, rfl, ?_⟩))
  go_ret
  exact ⟨by first | rfl | (simp [errW_none, errW_some] <;> rfl) | (simp only [← hji3, ← hji4]; first | rfl | (simp [errW_none, errW_some] <;> rfl)) | (simp [*, errW_none, errW_some] <;> rfl), by repeat (first | (with_reducible first | exact HB.out | apply below_alloc | apply pw_below_drewN | apply below_drew1) | exact HB.out)⟩

/-! ### day_Months: function 50 -/
def day_Months.f (k : Nat) (a0 : Int) (a1 : Int) : Option (Int) := (day_clamp.f a0).bind fun t173 => ((day_Parts.f k t173).bind fun bt174 => ((day_Month.f k t173).bind fun t177 => (if (wrap64 (t177 + (mx (-40000) (mn a1 40000)))) < 0 then (some 0) else ((day_Month.f k 1048575).bind fun t178 => (if (wrap64 (t177 + (mx (-40000) (mn a1 40000)))) > t178 then (some 1048575) else ((day_First.f k (wrap64 (t177 + (mx (-40000) (mn a1 40000))))).bind fun t179 => ((day_Size.f k (wrap64 (t177 + (mx (-40000) (mn a1 40000))))).bind fun t180 => ((day_clamp.f (wrap64 ((wrap64 (t179 + (mn bt174.2.2 t180))) - 1))).bind fun t181 => (some t181)))))))))
theorem day_Months.mono : ∀ a0 a1 k, LeO (day_Months.f k a0 a1) (day_Months.f (k + 1) a0 a1) := by
  intro a0 a1 k
  unfold day_Months.f
  repeat' first
      | (with_reducible exact day_First.mono _ _)
      | (with_reducible exact day_Month.mono _ _)
      | (with_reducible exact day_Parts.mono _ _)
      | (with_reducible exact day_Size.mono _ _)
      | (with_reducible exact LeO.refl _)
      | (with_reducible exact LeO.none _)
      | (with_reducible refine LeO.ite ?_ ?_)
      | (with_reducible refine LeO.bind ?_ (fun _ => ?_))
      | exact day_First.mono _ _
      | exact day_Month.mono _ _
      | exact day_Parts.mono _ _
      | exact day_Size.mono _ _
      | exact LeO.none _
      | refine LeO.ite ?_ ?_
      | refine LeO.bind ?_ (fun _ => ?_)
set_option maxHeartbeats 8000000 in
set_option maxRecDepth 100000 in
theorem day_Months.calls (k : Nat) (a0 : Int) (a1 : Int) (r : Int) (w : World) (h : day_Months.f k a0 a1 = some r) :
    Calls Try.prog 50 #[.int .i64 a0, .int .i64 a1] w fun e w' => e = .returned (.int .i64 r) ∧ Below w.heap.size w w' := by
  have HB := Aside0.mk (Below.refl w.heap.size w)
  have H : ((day_clamp.f a0).bind fun t173 => ((day_Parts.f k t173).bind fun bt174 => ((day_Month.f k t173).bind fun t177 => (if (wrap64 (t177 + (mx (-40000) (mn a1 40000)))) < 0 then (some 0) else ((day_Month.f k 1048575).bind fun t178 => (if (wrap64 (t177 + (mx (-40000) (mn a1 40000)))) > t178 then (some 1048575) else ((day_First.f k (wrap64 (t177 + (mx (-40000) (mn a1 40000))))).bind fun t179 => ((day_Size.f k (wrap64 (t177 + (mx (-40000) (mn a1 40000))))).bind fun t180 => ((day_clamp.f (wrap64 ((wrap64 (t179 + (mn bt174.2.2 t180))) - 1))).bind fun t181 => (some t181)))))))))) = some r := h
  clear h; replace H := Option.bind_eq_some_iff.mp H
  obtain ⟨t173, A30, H⟩ := H
  replace H : ((day_Parts.f k t173).bind fun bt174 => ((day_Month.f k t173).bind fun t177 => (if (wrap64 (t177 + (mx (-40000) (mn a1 40000)))) < 0 then (some 0) else ((day_Month.f k 1048575).bind fun t178 => (if (wrap64 (t177 + (mx (-40000) (mn a1 40000)))) > t178 then (some 1048575) else ((day_First.f k (wrap64 (t177 + (mx (-40000) (mn a1 40000))))).bind fun t179 => ((day_Size.f k (wrap64 (t177 + (mx (-40000) (mn a1 40000))))).bind fun t180 => ((day_clamp.f (wrap64 ((wrap64 (t179 + (mn bt174.2.2 t180))) - 1))).bind fun t181 => (some t181))))))))) = some r := H
  have A3 := Aside0.mk A30
  clear A30
  obtain ⟨ji4, hji4⟩ : ∃ j_ : Int, (mn a1 40000) = j_ := ⟨_, rfl⟩
  replace H : ((day_Parts.f k t173).bind fun bt174 => ((day_Month.f k t173).bind fun t177 => (if (wrap64 (t177 + (mx (-40000) (ji4)))) < 0 then (some 0) else ((day_Month.f k 1048575).bind fun t178 => (if (wrap64 (t177 + (mx (-40000) (ji4)))) > t178 then (some 1048575) else ((day_First.f k (wrap64 (t177 + (mx (-40000) (ji4))))).bind fun t179 => ((day_Size.f k (wrap64 (t177 + (mx (-40000) (ji4))))).bind fun t180 => ((day_clamp.f (wrap64 ((wrap64 (t179 + (mn bt174.2.2 t180))) - 1))).bind fun t181 => (some t181))))))))) = some r := by first | (rw [hji4] at H; exact H) | (simp only [hji4] at H ⊢; exact H)
  (try rw [hji4] at A3)
  (try (have hji4h : ji4 ≤ 40000 := by (rw [← hji4]; unfold mn; (repeat' split) <;> omega)))
  (try (have hji4g : ji4 ≤ 64 := by omega))
  have hji4_ : (if 40000 < a1 then 40000 else a1) = ji4 := hji4
  obtain ⟨ji5, hji5⟩ : ∃ j_ : Int, (mx (-40000) (ji4)) = j_ := ⟨_, rfl⟩
  replace H : ((day_Parts.f k t173).bind fun bt174 => ((day_Month.f k t173).bind fun t177 => (if (wrap64 (t177 + (ji5))) < 0 then (some 0) else ((day_Month.f k 1048575).bind fun t178 => (if (wrap64 (t177 + (ji5))) > t178 then (some 1048575) else ((day_First.f k (wrap64 (t177 + (ji5)))).bind fun t179 => ((day_Size.f k (wrap64 (t177 + (ji5)))).bind fun t180 => ((day_clamp.f (wrap64 ((wrap64 (t179 + (mn bt174.2.2 t180))) - 1))).bind fun t181 => (some t181))))))))) = some r := by first | (rw [hji5] at H; exact H) | (simp only [hji5] at H ⊢; exact H)
  (try rw [hji5] at A3)
  have hji5_ : (if (-40000) < (ji4) then (ji4) else (-40000)) = ji5 := hji5
  replace H := Option.bind_eq_some_iff.mp H
  obtain ⟨⟨t174, t175, t176⟩, A60, H⟩ := H
  replace H : ((day_Month.f k t173).bind fun t177 => (if (wrap64 (t177 + (ji5))) < 0 then (some 0) else ((day_Month.f k 1048575).bind fun t178 => (if (wrap64 (t177 + (ji5))) > t178 then (some 1048575) else ((day_First.f k (wrap64 (t177 + (ji5)))).bind fun t179 => ((day_Size.f k (wrap64 (t177 + (ji5)))).bind fun t180 => ((day_clamp.f (wrap64 ((wrap64 (t179 + (mn t176 t180))) - 1))).bind fun t181 => (some t181)))))))) = some r := H
  have A6 := Aside0.mk A60
  clear A60; replace H := Option.bind_eq_some_iff.mp H
  obtain ⟨t177, A70, H⟩ := H
  replace H : (if (wrap64 (t177 + (ji5))) < 0 then (some 0) else ((day_Month.f k 1048575).bind fun t178 => (if (wrap64 (t177 + (ji5))) > t178 then (some 1048575) else ((day_First.f k (wrap64 (t177 + (ji5)))).bind fun t179 => ((day_Size.f k (wrap64 (t177 + (ji5)))).bind fun t180 => ((day_clamp.f (wrap64 ((wrap64 (t179 + (mn t176 t180))) - 1))).bind fun t181 => (some t181))))))) = some r := H
  have A7 := Aside0.mk A70
  clear A70
  by_cases c8 : (wrap64 (t177 + (ji5))) < 0
  · rw [if_pos c8] at H
    have c8b0 : decide ((wrap64 (t177 + (ji5))) < 0) = true := decide_eq_true c8
    clear c8; obtain rfl := Option.some.inj H
    go_enter Try.func50, Try.ntmps50
    go_wp2_with (first | ((with_reducible refine gate_callee (f := 93) rfl ?_); refine goesL_ (some 10) rfl rfl Try.func93 (by kernel_rfl) rfl #[.int .i64 a0] rfl (by (try simp only [List.map_toArray, List.map_cons, List.map_nil]); first | done | rfl | (simp only [List.length_drop, List.length_take]; rfl)) ?_; (with_reducible refine (day_clamp.calls a0 t173 _ A3.out).mono ?_); rintro e w9 ⟨rfl, hb⟩; refine ⟨_, rfl, ?_⟩; have n0_ := Aside0.mk (below_step (by repeat (first | (with_reducible first | exact HB.out | apply below_alloc | apply pw_below_drewN | apply below_drew1) | exact HB.out)) hb); clear HB; have HB := n0_; clear n0_; (try clear hb); (try clear hb2); (try clear hk); (try clear hi)) | ((with_reducible refine gate_callee (f := 61) rfl ?_); refine goesL_ (some 16) rfl rfl Try.func61 (by kernel_rfl) rfl #[.int .i64 t173] rfl (by (try simp only [List.map_toArray, List.map_cons, List.map_nil]); first | done | rfl | (simp only [List.length_drop, List.length_take]; rfl)) ?_; (with_reducible refine (day_Parts.calls k t173 t174 t175 t176 _ A6.out).mono ?_); rintro e w10 ⟨rfl, hb⟩; refine ⟨_, rfl, ?_⟩; have n0_ := Aside0.mk (below_step (by repeat (first | (with_reducible first | exact HB.out | apply below_alloc | apply pw_below_drewN | apply below_drew1) | exact HB.out)) hb); clear HB; have HB := n0_; clear n0_; (try clear hb); (try clear hb2); (try clear hk); (try clear hi)) | ((with_reducible refine gate_callee (f := 22) rfl ?_); refine goesL_ (some 21) rfl rfl Try.func22 (by kernel_rfl) rfl #[.int .i64 t173] rfl (by (try simp only [List.map_toArray, List.map_cons, List.map_nil]); first | done | rfl | (simp only [List.length_drop, List.length_take]; rfl)) ?_; (with_reducible refine (day_Month.calls k t173 t177 _ A7.out).mono ?_); rintro e w11 ⟨rfl, hb⟩; refine ⟨_, rfl, ?_⟩; have n0_ := Aside0.mk (below_step (by repeat (first | (with_reducible first | exact HB.out | apply below_alloc | apply pw_below_drewN | apply below_drew1) | exact HB.out)) hb); clear HB; have HB := n0_; clear n0_; (try clear hb); (try clear hb2); (try clear hk); (try clear hi)))
    go_ret
    exact ⟨by first | rfl | (simp [errW_none, errW_some] <;> rfl) | (simp only [← hji4, ← hji5]; first | rfl | (simp [errW_none, errW_some] <;> rfl)) | (simp [*, errW_none, errW_some] <;> rfl), by repeat (first | (with_reducible first | exact HB.out | apply below_alloc | apply pw_below_drewN | apply below_drew1) | exact HB.out)⟩
  · rw [if_neg c8] at H
    have c8b0 : decide ((wrap64 (t177 + (ji5))) < 0) = false := decide_eq_false c8
    clear c8; replace H := Option.bind_eq_some_iff.mp H
    obtain ⟨t178, A120, H⟩ := H
    replace H : (if (wrap64 (t177 + (ji5))) > t178 then (some 1048575) else ((day_First.f k (wrap64 (t177 + (ji5)))).bind fun t179 => ((day_Size.f k (wrap64 (t177 + (ji5)))).bind fun t180 => ((day_clamp.f (wrap64 ((wrap64 (t179 + (mn t176 t180))) - 1))).bind fun t181 => (some t181))))) = some r := H
    have A12 := Aside0.mk A120
    clear A120
    by_cases c13 : (wrap64 (t177 + (ji5))) > t178
    · rw [if_pos c13] at H
      have c13b0 : decide (t178 < (wrap64 (t177 + (ji5)))) = true := decide_eq_true c13
      clear c13; obtain rfl := Option.some.inj H
      go_enter Try.func50, Try.ntmps50
      go_wp2_with (first | ((with_reducible refine gate_callee (f := 93) rfl ?_); refine goesL_ (some 10) rfl rfl Try.func93 (by kernel_rfl) rfl #[.int .i64 a0] rfl (by (try simp only [List.map_toArray, List.map_cons, List.map_nil]); first | done | rfl | (simp only [List.length_drop, List.length_take]; rfl)) ?_; (with_reducible refine (day_clamp.calls a0 t173 _ A3.out).mono ?_); rintro e w14 ⟨rfl, hb⟩; refine ⟨_, rfl, ?_⟩; have n0_ := Aside0.mk (below_step (by repeat (first | (with_reducible first | exact HB.out | apply below_alloc | apply pw_below_drewN | apply below_drew1) | exact HB.out)) hb); clear HB; have HB := n0_; clear n0_; (try clear hb); (try clear hb2); (try clear hk); (try clear hi)) | ((with_reducible refine gate_callee (f := 61) rfl ?_); refine goesL_ (some 16) rfl rfl Try.func61 (by kernel_rfl) rfl #[.int .i64 t173] rfl (by (try simp only [List.map_toArray, List.map_cons, List.map_nil]); first | done | rfl | (simp only [List.length_drop, List.length_take]; rfl)) ?_; (with_reducible refine (day_Parts.calls k t173 t174 t175 t176 _ A6.out).mono ?_); rintro e w15 ⟨rfl, hb⟩; refine ⟨_, rfl, ?_⟩; have n0_ := Aside0.mk (below_step (by repeat (first | (with_reducible first | exact HB.out | apply below_alloc | apply pw_below_drewN | apply below_drew1) | exact HB.out)) hb); clear HB; have HB := n0_; clear n0_; (try clear hb); (try clear hb2); (try clear hk); (try clear hi)) | ((with_reducible refine gate_callee (f := 22) rfl ?_); refine goesL_ (some 21) rfl rfl Try.func22 (by kernel_rfl) rfl #[.int .i64 t173] rfl (by (try simp only [List.map_toArray, List.map_cons, List.map_nil]); first | done | rfl | (simp only [List.length_drop, List.length_take]; rfl)) ?_; (with_reducible refine (day_Month.calls k t173 t177 _ A7.out).mono ?_); rintro e w16 ⟨rfl, hb⟩; refine ⟨_, rfl, ?_⟩; have n0_ := Aside0.mk (below_step (by repeat (first | (with_reducible first | exact HB.out | apply below_alloc | apply pw_below_drewN | apply below_drew1) | exact HB.out)) hb); clear HB; have HB := n0_; clear n0_; (try clear hb); (try clear hb2); (try clear hk); (try clear hi)) | ((with_reducible refine gate_callee (f := 22) rfl ?_); refine goesL_ (some 29) rfl rfl Try.func22 (by kernel_rfl) rfl #[.int .i64 1048575] rfl (by (try simp only [List.map_toArray, List.map_cons, List.map_nil]); first | done | rfl | (simp only [List.length_drop, List.length_take]; rfl)) ?_; (with_reducible refine (day_Month.calls k 1048575 t178 _ A12.out).mono ?_); rintro e w17 ⟨rfl, hb⟩; refine ⟨_, rfl, ?_⟩; have n0_ := Aside0.mk (below_step (by repeat (first | (with_reducible first | exact HB.out | apply below_alloc | apply pw_below_drewN | apply below_drew1) | exact HB.out)) hb); clear HB; have HB := n0_; clear n0_; (try clear hb); (try clear hb2); (try clear hk); (try clear hi)))
      go_ret
      exact ⟨by first | rfl | (simp [errW_none, errW_some] <;> rfl) | (simp only [← hji4, ← hji5]; first | rfl | (simp [errW_none, errW_some] <;> rfl)) | (simp [*, errW_none, errW_some] <;> rfl), by repeat (first | (with_reducible first | exact HB.out | apply below_alloc | apply pw_below_drewN | apply below_drew1) | exact HB.out)⟩
    · rw [if_neg c13] at H
      have c13b0 : decide (t178 < (wrap64 (t177 + (ji5)))) = false := decide_eq_false c13
      clear c13; replace H := Option.bind_eq_some_iff.mp H
      obtain ⟨t179, A180, H⟩ := H
      replace H : ((day_Size.f k (wrap64 (t177 + (ji5)))).bind fun t180 => ((day_clamp.f (wrap64 ((wrap64 (t179 + (mn t176 t180))) - 1))).bind fun t181 => (some t181))) = some r := H
      have A18 := Aside0.mk A180
      clear A180; replace H := Option.bind_eq_some_iff.mp H
      obtain ⟨t180, A190, H⟩ := H
      replace H : ((day_clamp.f (wrap64 ((wrap64 (t179 + (mn t176 t180))) - 1))).bind fun t181 => (some t181)) = some r := H
      have A19 := Aside0.mk A190
      clear A190
      obtain ⟨ji20, hji20⟩ : ∃ j_ : Int, (mn t176 t180) = j_ := ⟨_, rfl⟩
      replace H : ((day_clamp.f (wrap64 ((wrap64 (t179 + (ji20))) - 1))).bind fun t181 => (some t181)) = some r := by first | (rw [hji20] at H; exact H) | (simp only [hji20] at H ⊢; exact H)
      (try rw [hji20] at A3)
      (try rw [hji20] at A6)
      (try rw [hji20] at A7)
      (try rw [hji20] at A12)
      (try rw [hji20] at A18)
      (try rw [hji20] at A19)
      have hji20_ : (if t180 < t176 then t180 else t176) = ji20 := hji20
      replace H := Option.bind_eq_some_iff.mp H
      obtain ⟨t181, A210, H⟩ := H
      replace H : (some t181) = some r := H
      have A21 := Aside0.mk A210
      clear A210; obtain rfl := Option.some.inj H
      go_enter Try.func50, Try.ntmps50
      go_wp2_with (first | ((with_reducible refine gate_callee (f := 93) rfl ?_); refine goesL_ (some 10) rfl rfl Try.func93 (by kernel_rfl) rfl #[.int .i64 a0] rfl (by (try simp only [List.map_toArray, List.map_cons, List.map_nil]); first | done | rfl | (simp only [List.length_drop, List.length_take]; rfl)) ?_; (with_reducible refine (day_clamp.calls a0 t173 _ A3.out).mono ?_); rintro e w22 ⟨rfl, hb⟩; refine ⟨_, rfl, ?_⟩; have n0_ := Aside0.mk (below_step (by repeat (first | (with_reducible first | exact HB.out | apply below_alloc | apply pw_below_drewN | apply below_drew1) | exact HB.out)) hb); clear HB; have HB := n0_; clear n0_; (try clear hb); (try clear hb2); (try clear hk); (try clear hi)) | ((with_reducible refine gate_callee (f := 61) rfl ?_); refine goesL_ (some 16) rfl rfl Try.func61 (by kernel_rfl) rfl #[.int .i64 t173] rfl (by (try simp only [List.map_toArray, List.map_cons, List.map_nil]); first | done | rfl | (simp only [List.length_drop, List.length_take]; rfl)) ?_; (with_reducible refine (day_Parts.calls k t173 t174 t175 t176 _ A6.out).mono ?_); rintro e w23 ⟨rfl, hb⟩; refine ⟨_, rfl, ?_⟩; have n0_ := Aside0.mk (below_step (by repeat (first | (with_reducible first | exact HB.out | apply below_alloc | apply pw_below_drewN | apply below_drew1) | exact HB.out)) hb); clear HB; have HB := n0_; clear n0_; (try clear hb); (try clear hb2); (try clear hk); (try clear hi)) | ((with_reducible refine gate_callee (f := 22) rfl ?_); refine goesL_ (some 21) rfl rfl Try.func22 (by kernel_rfl) rfl #[.int .i64 t173] rfl (by (try simp only [List.map_toArray, List.map_cons, List.map_nil]); first | done | rfl | (simp only [List.length_drop, List.length_take]; rfl)) ?_; (with_reducible refine (day_Month.calls k t173 t177 _ A7.out).mono ?_); rintro e w24 ⟨rfl, hb⟩; refine ⟨_, rfl, ?_⟩; have n0_ := Aside0.mk (below_step (by repeat (first | (with_reducible first | exact HB.out | apply below_alloc | apply pw_below_drewN | apply below_drew1) | exact HB.out)) hb); clear HB; have HB := n0_; clear n0_; (try clear hb); (try clear hb2); (try clear hk); (try clear hi)) | ((with_reducible refine gate_callee (f := 22) rfl ?_); refine goesL_ (some 29) rfl rfl Try.func22 (by kernel_rfl) rfl #[.int .i64 1048575] rfl (by (try simp only [List.map_toArray, List.map_cons, List.map_nil]); first | done | rfl | (simp only [List.length_drop, List.length_take]; rfl)) ?_; (with_reducible refine (day_Month.calls k 1048575 t178 _ A12.out).mono ?_); rintro e w25 ⟨rfl, hb⟩; refine ⟨_, rfl, ?_⟩; have n0_ := Aside0.mk (below_step (by repeat (first | (with_reducible first | exact HB.out | apply below_alloc | apply pw_below_drewN | apply below_drew1) | exact HB.out)) hb); clear HB; have HB := n0_; clear n0_; (try clear hb); (try clear hb2); (try clear hk); (try clear hi)) | ((with_reducible refine gate_callee (f := 28) rfl ?_); refine goesL_ (some 32) rfl rfl Try.func28 (by kernel_rfl) rfl #[.int .i64 (wrap64 (t177 + (ji5)))] rfl (by (try simp only [List.map_toArray, List.map_cons, List.map_nil]); first | done | (simp only [hji5]; rfl) | rfl | (simp only [List.length_drop, List.length_take]; rfl)) ?_; (with_reducible refine (day_First.calls k (wrap64 (t177 + (ji5))) t179 _ A18.out).mono ?_); rintro e w26 ⟨rfl, hb⟩; refine ⟨_, rfl, ?_⟩; have n0_ := Aside0.mk (below_step (by repeat (first | (with_reducible first | exact HB.out | apply below_alloc | apply pw_below_drewN | apply below_drew1) | exact HB.out)) hb); clear HB; have HB := n0_; clear n0_; (try clear hb); (try clear hb2); (try clear hk); (try clear hi)) | ((with_reducible refine gate_callee (f := 24) rfl ?_); refine goesL_ (some 35) rfl rfl Try.func24 (by kernel_rfl) rfl #[.int .i64 (wrap64 (t177 + (ji5)))] rfl (by (try simp only [List.map_toArray, List.map_cons, List.map_nil]); first | done | (simp only [hji5]; rfl) | rfl | (simp only [List.length_drop, List.length_take]; rfl)) ?_; (with_reducible refine (day_Size.calls k (wrap64 (t177 + (ji5))) t180 _ A19.out).mono ?_); rintro e w27 ⟨rfl, hb⟩; refine ⟨_, rfl, ?_⟩; have n0_ := Aside0.mk (below_step (by repeat (first | (with_reducible first | exact HB.out | apply below_alloc | apply pw_below_drewN | apply below_drew1) | exact HB.out)) hb); clear HB; have HB := n0_; clear n0_; (try clear hb); (try clear hb2); (try clear hk); (try clear hi)) | ((with_reducible refine gate_callee (f := 93) rfl ?_); refine goesL_ (some 39) rfl rfl Try.func93 (by kernel_rfl) rfl #[.int .i64 (wrap64 ((wrap64 (t179 + (ji20))) - 1))] rfl (by (try simp only [List.map_toArray, List.map_cons, List.map_nil]); first | done | (simp only [hji20]; rfl) | rfl | (simp only [List.length_drop, List.length_take]; rfl)) ?_; (with_reducible refine (day_clamp.calls (wrap64 ((wrap64 (t179 + (ji20))) - 1)) t181 _ A21.out).mono ?_); rintro e w28 ⟨rfl, hb⟩; refine ⟨_, rfl, ?_⟩; have n0_ := Aside0.mk (below_step (by repeat (first | (with_reducible first | exact HB.out | apply below_alloc | apply pw_below_drewN | apply below_drew1) | exact HB.out)) hb); clear HB; have HB := n0_; clear n0_; (try clear hb); (try clear hb2); (try clear hk); (try clear hi)))
      go_ret
      exact ⟨by first | rfl | (simp [errW_none, errW_some] <;> rfl) | (simp only [← hji4, ← hji5, ← hji20]; first | rfl | (simp [errW_none, errW_some] <;> rfl)) | (simp [*, errW_none, errW_some] <;> rfl), by repeat (first | (with_reducible first | exact HB.out | apply below_alloc | apply pw_below_drewN | apply below_drew1) | exact HB.out)⟩

end Go.Proofs.Ytaljkilnpfmlaaa.PDuePaused
