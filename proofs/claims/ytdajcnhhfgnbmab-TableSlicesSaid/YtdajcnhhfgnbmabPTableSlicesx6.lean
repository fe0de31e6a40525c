/- The machine side of a law, written by a program of this session (wip/mp). -/
import Derived.Test.YtdajcnhhfgnbmabPTableSlicesx0
import Derived.Test.YtdajcnhhfgnbmabPTableSlicesx1
import Derived.Test.YtdajcnhhfgnbmabPTableSlicesx4
import Derived.Test.YtdajcnhhfgnbmabPTableSlicesx5
namespace Go.Proofs.Ytdajcnhhfgnbmab.PTableSlices
open Go.RowKit Go.Proofs.YtdajcnhhfgnbmabW.PrintWords Go.Proofs.YtdajcnhhfgnbmabW.PrintLast Go.Proofs.YtdajcnhhfgnbmabW.PrintMore
attribute [local go_sem] max2_int min2_int max_two min_two max_three min_three max_four min_four   -- for this text's walks alone
set_option linter.unusedVariables false
set_option linter.unusedSimpArgs false

attribute [local go_sem] fld54_1
/-! ### mootkeep1_TableSlices: function 4 -/
mutual
def mootkeep1_TableSlices.j0 : Nat → Int → List Int → Int → Bool → ByteArray → Int → Int → Bool → List (S44) → Option (Bool)
  | 0, _, _, _, _, _, _, _, _, _ => none
  | k + 1, x1, x6, x7, x29, x205000, x205001, x205002, x205003, x205004 => if x29 = true then ((mootkeep1_rated.f k).bind fun t211 => (if t211 = true then (some (x7 == 7)) else (some false))) else (mootkeep1_TableSlices.l0 k x1 x6 x7 0 x6 (x6.length : Int) 0 x205000 x205001 x205002 x205003 x205004)
def mootkeep1_TableSlices.l0 : Nat → Int → List Int → Int → Int → List Int → Int → Int → ByteArray → Int → Int → Bool → List (S44) → Option (Bool)
  | 0, _, _, _, _, _, _, _, _, _, _, _, _ => none
  | k + 1, x1, x6, x7, x8, x35, x36, x37, x205000, x205001, x205002, x205003, x205004 => if x37 < x36 then (if 0 ≤ x37 then (if x37 < (x35.length : Int) then (mootkeep1_TableSlices.l0 k x1 x6 x7 (wrap64 (x8 + (rd x35 x37))) x35 x36 (wrap64 (x37 + 1)) x205000 x205001 x205002 x205003 x205004) else (none)) else (none)) else (if 0 < (x205004.length : Int) then (if x7 = 0 then (if (x6.length : Int) = (x205004.length : Int) then (if x8 = (mx 0 (wrap64 (x1 - ((rd_T44 x205004 0).f0)))) then ((table_At.f k x205000 x205001 x205002 x205003 x205004 x1).bind fun t214 => (if t214 ≥ 0 then (some (decide (t214 ≤ (mx 0 (wrap64 (x1 - ((rd_T44 x205004 0).f0))))))) else (some false))) else (some false)) else (some false)) else (some false)) else (none))
end
def mootkeep1_TableSlices.f (k : Nat) (l0 : List Int) (a1 : Int) : Option (Bool) := (mootmake_Table.f k l0).bind fun bt197 => ((mootmake_Below.f a1 400000).bind fun t205 => ((table_Slices.f k bt197.1 bt197.2.1 bt197.2.2.1 bt197.2.2.2.1 bt197.2.2.2.2 (wrap64 (t205 - 1000))).bind fun bt206 => ((mootkeep1_rated.f k).bind fun t210 => (if t210 = true then (mootkeep1_TableSlices.j0 k (wrap64 (t205 - 1000)) bt206.1 bt206.2 (!bt197.2.2.2.1) bt197.1 bt197.2.1 bt197.2.2.1 bt197.2.2.2.1 bt197.2.2.2.2) else (mootkeep1_TableSlices.j0 k (wrap64 (t205 - 1000)) bt206.1 bt206.2 true bt197.1 bt197.2.1 bt197.2.2.1 bt197.2.2.2.1 bt197.2.2.2.2)))))
theorem mootkeep1_TableSlices.mono_l : ∀ k, (∀ y0 y1 y2 y3 y4 y5 y6 y7 y8, LeO (mootkeep1_TableSlices.j0 k y0 y1 y2 y3 y4 y5 y6 y7 y8) (mootkeep1_TableSlices.j0 (k + 1) y0 y1 y2 y3 y4 y5 y6 y7 y8)) ∧ (∀ y0 y1 y2 y3 y4 y5 y6 y7 y8 y9 y10 y11, LeO (mootkeep1_TableSlices.l0 k y0 y1 y2 y3 y4 y5 y6 y7 y8 y9 y10 y11) (mootkeep1_TableSlices.l0 (k + 1) y0 y1 y2 y3 y4 y5 y6 y7 y8 y9 y10 y11))
  | 0 => ⟨fun _ _ _ _ _ _ _ _ _ r h => by simp [mootkeep1_TableSlices.j0] at h, fun _ _ _ _ _ _ _ _ _ _ _ _ r h => by simp [mootkeep1_TableSlices.l0] at h⟩
  | k + 1 => by
    obtain ⟨ih0, ih1⟩ := mootkeep1_TableSlices.mono_l k
    refine ⟨?_, ?_⟩
    · intro y0 y1 y2 y3 y4 y5 y6 y7 y8
      unfold mootkeep1_TableSlices.j0
      repeat' first
      | (with_reducible exact ih0 _ _ _ _ _ _ _ _ _)
      | (with_reducible exact ih1 _ _ _ _ _ _ _ _ _ _ _ _)
      | (with_reducible exact mootkeep1_rated.mono _)
      | (with_reducible exact mootmake_Table.mono _ _)
      | (with_reducible exact table_At.mono _ _ _ _ _ _ _)
      | (with_reducible exact table_Slices.mono _ _ _ _ _ _ _)
      | (with_reducible exact LeO.refl _)
      | (with_reducible exact LeO.none _)
      | (with_reducible refine LeO.ite ?_ ?_)
      | (with_reducible refine LeO.bind ?_ (fun _ => ?_))
      | exact ih0 _ _ _ _ _ _ _ _ _
      | exact ih1 _ _ _ _ _ _ _ _ _ _ _ _
      | exact mootkeep1_rated.mono _
      | exact mootmake_Table.mono _ _
      | exact table_At.mono _ _ _ _ _ _ _
      | exact table_Slices.mono _ _ _ _ _ _ _
      | exact LeO.none _
      | refine LeO.ite ?_ ?_
      | refine LeO.bind ?_ (fun _ => ?_)
    · intro y0 y1 y2 y3 y4 y5 y6 y7 y8 y9 y10 y11
      unfold mootkeep1_TableSlices.l0
      repeat' first
      | (with_reducible exact ih0 _ _ _ _ _ _ _ _ _)
      | (with_reducible exact ih1 _ _ _ _ _ _ _ _ _ _ _ _)
      | (with_reducible exact mootkeep1_rated.mono _)
      | (with_reducible exact mootmake_Table.mono _ _)
      | (with_reducible exact table_At.mono _ _ _ _ _ _ _)
      | (with_reducible exact table_Slices.mono _ _ _ _ _ _ _)
      | (with_reducible exact LeO.refl _)
      | (with_reducible exact LeO.none _)
      | (with_reducible refine LeO.ite ?_ ?_)
      | (with_reducible refine LeO.bind ?_ (fun _ => ?_))
      | exact ih0 _ _ _ _ _ _ _ _ _
      | exact ih1 _ _ _ _ _ _ _ _ _ _ _ _
      | exact mootkeep1_rated.mono _
      | exact mootmake_Table.mono _ _
      | exact table_At.mono _ _ _ _ _ _ _
      | exact table_Slices.mono _ _ _ _ _ _ _
      | exact LeO.none _
      | refine LeO.ite ?_ ?_
      | refine LeO.bind ?_ (fun _ => ?_)
theorem mootkeep1_TableSlices.mono : ∀ a0 a1 k, LeO (mootkeep1_TableSlices.f k a0 a1) (mootkeep1_TableSlices.f (k + 1) a0 a1) := by
  intro a0 a1 k
  obtain ⟨ih0, ih1⟩ := mootkeep1_TableSlices.mono_l k
  unfold mootkeep1_TableSlices.f
  repeat' first
      | (with_reducible exact ih0 _ _ _ _ _ _ _ _ _)
      | (with_reducible exact ih1 _ _ _ _ _ _ _ _ _ _ _ _)
      | (with_reducible exact mootkeep1_rated.mono _)
      | (with_reducible exact mootmake_Table.mono _ _)
      | (with_reducible exact table_At.mono _ _ _ _ _ _ _)
      | (with_reducible exact table_Slices.mono _ _ _ _ _ _ _)
      | (with_reducible exact LeO.refl _)
      | (with_reducible exact LeO.none _)
      | (with_reducible refine LeO.ite ?_ ?_)
      | (with_reducible refine LeO.bind ?_ (fun _ => ?_))
      | exact ih0 _ _ _ _ _ _ _ _ _
      | exact ih1 _ _ _ _ _ _ _ _ _ _ _ _
      | exact mootkeep1_rated.mono _
      | exact mootmake_Table.mono _ _
      | exact table_At.mono _ _ _ _ _ _ _
      | exact table_Slices.mono _ _ _ _ _ _ _
      | exact LeO.none _
      | refine LeO.ite ?_ ?_
      | refine LeO.bind ?_ (fun _ => ?_)
set_option maxHeartbeats 8000000 in
set_option maxRecDepth 100000 in
theorem mootkeep1_TableSlices.calls (k : Nat) (A0 : Option Addr) (c0 : Nat) (l0 : List Int) (a1 : Int) (r : Bool) (w : World) (hr0 : Kd.C (Kd.int .i64) w A0 l0.length l0) (hc0 : l0.length ≤ c0) (h : mootkeep1_TableSlices.f k l0 a1 = some r) :
    Calls Try.prog 4 #[.slice A0 l0.length c0, .int .i64 a1] w fun e w' => e = .returned (.bool r) ∧ Below w.heap.size w w' := by
  have hu39 := Try.underlying39
  have HR0 := Aside0.mk hr0
  have HC0 := Aside0.mk hc0
  clear hr0 hc0
  have HB := Aside0.mk (Below.refl w.heap.size w)
  have H : ((mootmake_Table.f k l0).bind fun bt197 => ((mootmake_Below.f a1 400000).bind fun t205 => ((table_Slices.f k bt197.1 bt197.2.1 bt197.2.2.1 bt197.2.2.2.1 bt197.2.2.2.2 (wrap64 (t205 - 1000))).bind fun bt206 => ((mootkeep1_rated.f k).bind fun t210 => (if t210 = true then (mootkeep1_TableSlices.j0 k (wrap64 (t205 - 1000)) bt206.1 bt206.2 (!bt197.2.2.2.1) bt197.1 bt197.2.1 bt197.2.2.1 bt197.2.2.2.1 bt197.2.2.2.2) else (mootkeep1_TableSlices.j0 k (wrap64 (t205 - 1000)) bt206.1 bt206.2 true bt197.1 bt197.2.1 bt197.2.2.1 bt197.2.2.2.1 bt197.2.2.2.2)))))) = some r := h
  clear h
  replace H := Option.bind_eq_some_iff.mp H
  obtain ⟨⟨t197, t198, t199, t200, t201⟩, A30, H⟩ := H
  replace H : ((mootmake_Below.f a1 400000).bind fun t205 => ((table_Slices.f k t197 t198 t199 t200 t201 (wrap64 (t205 - 1000))).bind fun bt206 => ((mootkeep1_rated.f k).bind fun t210 => (if t210 = true then (mootkeep1_TableSlices.j0 k (wrap64 (t205 - 1000)) bt206.1 bt206.2 (!t200) t197 t198 t199 t200 t201) else (mootkeep1_TableSlices.j0 k (wrap64 (t205 - 1000)) bt206.1 bt206.2 true t197 t198 t199 t200 t201))))) = some r := H
  have A3 := Aside0.mk A30
  clear A30
  replace H := Option.bind_eq_some_iff.mp H
  obtain ⟨t205, A40, H⟩ := H
  replace H : ((table_Slices.f k t197 t198 t199 t200 t201 (wrap64 (t205 - 1000))).bind fun bt206 => ((mootkeep1_rated.f k).bind fun t210 => (if t210 = true then (mootkeep1_TableSlices.j0 k (wrap64 (t205 - 1000)) bt206.1 bt206.2 (!t200) t197 t198 t199 t200 t201) else (mootkeep1_TableSlices.j0 k (wrap64 (t205 - 1000)) bt206.1 bt206.2 true t197 t198 t199 t200 t201)))) = some r := H
  have A4 := Aside0.mk A40
  clear A40
  replace H := Option.bind_eq_some_iff.mp H
  obtain ⟨⟨t206, t209⟩, A50, H⟩ := H
  replace H : ((mootkeep1_rated.f k).bind fun t210 => (if t210 = true then (mootkeep1_TableSlices.j0 k (wrap64 (t205 - 1000)) t206 t209 (!t200) t197 t198 t199 t200 t201) else (mootkeep1_TableSlices.j0 k (wrap64 (t205 - 1000)) t206 t209 true t197 t198 t199 t200 t201))) = some r := H
  have A5 := Aside0.mk A50
  clear A50
  have HC6 := Aside0.mk H
  clear H
  go_enter Try.func4, Try.ntmps4
  go_upto_region 4 with (first | ((with_reducible refine gate_callee (f := 22) rfl ?_); refine goesL_ (some 13) rfl rfl Try.func22 (by kernel_rfl) rfl #[.slice A0 l0.length c0] rfl (by (try simp only [List.map_toArray, List.map_cons, List.map_nil]); first | done | rfl | (simp only [List.length_drop, List.length_take]; rfl)) ?_; (with_reducible refine (mootmake_Table.calls k _ _ l0 t197 t198 t199 t200 t201 _ ?side1 ?side2 A3.out).mono ?_); (case side1 => repeat (first | exact HR0.out | (with_reducible refine Kd.C_alloc ?_ _) | (with_reducible refine Kd.C_drewN ?_ _) | (with_reducible refine Kd.C_drew ?_))); (case side2 => exact HC0.out); rintro e w7 ⟨v202, rfl, ho0, hb⟩; refine ⟨_, rfl, ?_⟩; have n0_ := Aside0.mk (Kd.R_lower ho0 (below_size (by repeat (first | (with_reducible first | exact HB.out | apply below_alloc | apply pw_below_drewN | apply below_drew1) | exact HB.out)))); have n1_ := Aside0.mk (below_step (by repeat (first | (with_reducible first | exact HB.out | apply below_alloc | apply pw_below_drewN | apply below_drew1) | exact HB.out)) hb); clear HB; have HO203 := n0_; have HB := n1_; clear n0_ n1_; (try clear hb); (try clear hb2); (try clear hk); (try clear hi); (try clear ho0)) | ((with_reducible refine gate_dst (N := 5) rfl ?_); (try (refine gate_guard (by rfl) ?_; dsimp only)); refine box_event ?hg (N := 5) ?hd (cs := #[.string (⟨#[]⟩ : ByteArray), .int .i64 0, .int .i64 0, .bool false, .slice none 0 0]) (t := 39) ?hr ?_; (case hd => rfl); (case hg => rfl); (case hr => first | (go_simp; done) | (go_simp; rfl)); intro gb204 hg w8 hbox hb; have n0_ := Aside0.mk (Kd.R_below (by (with_reducible repeat (first | apply Kd.R_alloc | apply Kd.R_drewN | apply Kd.R_drew)); exact HO203.out) hb); have n1_ := Aside0.mk (below_step (by repeat (first | (with_reducible first | exact HB.out | apply below_alloc | apply pw_below_drewN | apply below_drew1) | exact HB.out)) hb); have n2_ := Aside0.mk (hbox); have n3_ := Aside0.mk ((by rw [hg]; exact (below_size (by repeat (first | (with_reducible first | exact HB.out | apply below_alloc | apply pw_below_drewN | apply below_drew1) | exact HB.out))) : w.heap.size ≤ gb204)); have n4_ := Aside0.mk ((by rw [hg]; exact (below_size (by repeat (first | (with_reducible first | exact HB.out | apply below_alloc | apply pw_below_drewN | apply below_drew1) | exact HB.out))) : w.heap.size ≤ gb204)); clear HO203; clear HB; have HO203 := n0_; have HB := n1_; have BK204 := n2_; have GW204 := n3_; have GE204 := n4_; clear n0_ n1_ n2_ n3_ n4_; clear hb hbox hg; have hcz9_0 : w8.cell? ⟨gb204, 0, none⟩ = some (.string (⟨#[]⟩ : ByteArray)) := (blk_cell BK204.out 0).trans rfl; have hcz9_1 : w8.cell? ⟨gb204, 1, none⟩ = some (.int .i64 0) := (blk_cell BK204.out 1).trans rfl; have hcz9_2 : w8.cell? ⟨gb204, 2, none⟩ = some (.int .i64 0) := (blk_cell BK204.out 2).trans rfl; have hcz9_3 : w8.cell? ⟨gb204, 3, none⟩ = some (.bool false) := (blk_cell BK204.out 3).trans rfl; have hcz9_4 : w8.cell? ⟨gb204, 4, none⟩ = some (.slice none 0 0) := (blk_cell BK204.out 4).trans rfl; have hfz9_0 := blk_frozen BK204.out 0; have hfz9_1 := blk_frozen BK204.out 1; have hfz9_2 := blk_frozen BK204.out 2; have hfz9_3 := blk_frozen BK204.out 3; have hfz9_4 := blk_frozen BK204.out 4; obtain ⟨Ao10, co10, eo10⟩ := Kd.R_slice HO203.out; subst eo10) | ((with_reducible refine gate_callee (f := 17) rfl ?_); refine goesL_ (some 15) rfl rfl Try.func17 (by kernel_rfl) rfl #[.int .i64 a1, .int .i64 400000] rfl (by (try simp only [List.map_toArray, List.map_cons, List.map_nil]); first | done | rfl | (simp only [List.length_drop, List.length_take]; rfl)) ?_; (with_reducible refine (mootmake_Below.calls a1 400000 t205 _ A4.out).mono ?_); rintro e w' ⟨rfl, ⟨nd, rfl⟩⟩; refine ⟨_, rfl, ?_⟩) | ((with_reducible refine gate_callee (f := 23) rfl ?_); refine goesL_ (some 20) rfl rfl Try.func23 (by kernel_rfl) rfl #[.agg #[.string t197, .int .i64 t198, .int .i64 t199, .bool t200, .slice Ao10 t201.length co10], .int .i64 (wrap64 (t205 - 1000))] rfl (by (try simp only [List.map_toArray, List.map_cons, List.map_nil]); first | done | rfl | (simp only [List.length_drop, List.length_take]; rfl)) ?_; (with_reducible refine (table_Slices.calls k t197 t198 t199 t200 _ _ t201 (wrap64 (t205 - 1000)) t206 t209 _ ?side1 ?side2 A5.out).mono ?_); (case side1 => refine (Kd.R_reads' (e := 44) (base := w.heap.size) (ok := fun k_ => True) (n := t201.length) (c := co10) ?_).2.2; exact (by (with_reducible repeat (first | apply Kd.R_alloc | apply Kd.R_drewN | apply Kd.R_drew)); exact (Kd.R_mono (Kd.R_far (p := ⟨gb204, 4, none⟩) (Kd.R_far (p := ⟨gb204, 3, none⟩) (Kd.R_far (p := ⟨gb204, 2, none⟩) (Kd.R_far (p := ⟨gb204, 1, none⟩) (Kd.R_far (p := ⟨gb204, 0, none⟩) (Kd.R_types HO203.out BK204.out (by decide)) (fun _ hk => hk.2) (.string t197)) (fun _ hk => hk.2) (.int .i64 t198)) (fun _ hk => hk.2) (.int .i64 t199)) (fun _ hk => hk.2) (.bool t200)) (fun _ hk => hk.2) (.slice Ao10 t201.length co10)) (fun _ h_ => h_.1)))); (case side2 => exact (Kd.R_reads' HO203.out).2.1); rintro e w11 ⟨v207, rfl, ho0, hb⟩; refine ⟨_, rfl, ?_⟩; have n0_ := Aside0.mk (Kd.R_below (by (with_reducible repeat (first | apply Kd.R_alloc | apply Kd.R_drewN | apply Kd.R_drew)); exact (Kd.R_mono (Kd.R_far (p := ⟨gb204, 4, none⟩) (Kd.R_far (p := ⟨gb204, 3, none⟩) (Kd.R_far (p := ⟨gb204, 2, none⟩) (Kd.R_far (p := ⟨gb204, 1, none⟩) (Kd.R_far (p := ⟨gb204, 0, none⟩) (Kd.R_types HO203.out BK204.out (by decide)) (fun _ hk => hk.2) (.string t197)) (fun _ hk => hk.2) (.int .i64 t198)) (fun _ hk => hk.2) (.int .i64 t199)) (fun _ hk => hk.2) (.bool t200)) (fun _ hk => hk.2) (.slice Ao10 t201.length co10)) (fun _ h_ => h_.1))) hb); have n1_ := Aside0.mk (Kd.R_lower ho0 (below_size (by repeat (first | (with_reducible first | exact HB.out | apply below_alloc | apply pw_below_drewN | apply below_drew1 | refine below_set ?_ GE204.out) | exact HB.out)))); have n2_ := Aside0.mk (blk_below (g := gb204) (o := .cells #[.string t197, .int .i64 t198, .int .i64 t199, .bool t200, .slice Ao10 t201.length co10] 39 (0, 0)) (by (with_reducible repeat (first | refine blk_drewN ?_ _ | refine blk_drew ?_ | refine blk_alloc ?_ _)); refine blk_put (cs := #[.string t197, .int .i64 t198, .int .i64 t199, .bool t200, .slice none 0 0]) ?_ 4 _ rfl; (with_reducible repeat (first | refine blk_drewN ?_ _ | refine blk_drew ?_ | refine blk_alloc ?_ _)); refine blk_put (cs := #[.string t197, .int .i64 t198, .int .i64 t199, .bool false, .slice none 0 0]) ?_ 3 _ rfl; (with_reducible repeat (first | refine blk_drewN ?_ _ | refine blk_drew ?_ | refine blk_alloc ?_ _)); refine blk_put (cs := #[.string t197, .int .i64 t198, .int .i64 0, .bool false, .slice none 0 0]) ?_ 2 _ rfl; (with_reducible repeat (first | refine blk_drewN ?_ _ | refine blk_drew ?_ | refine blk_alloc ?_ _)); refine blk_put (cs := #[.string t197, .int .i64 0, .int .i64 0, .bool false, .slice none 0 0]) ?_ 1 _ rfl; (with_reducible repeat (first | refine blk_drewN ?_ _ | refine blk_drew ?_ | refine blk_alloc ?_ _)); refine blk_put (cs := #[.string (⟨#[]⟩ : ByteArray), .int .i64 0, .int .i64 0, .bool false, .slice none 0 0]) ?_ 0 _ rfl; (with_reducible repeat (first | refine blk_drewN ?_ _ | refine blk_drew ?_ | refine blk_alloc ?_ _)); exact BK204.out) hb); have n3_ := Aside0.mk (below_step (by repeat (first | (with_reducible first | exact HB.out | apply below_alloc | apply pw_below_drewN | apply below_drew1 | refine below_set ?_ GE204.out) | exact HB.out)) hb); clear HO203; clear BK204; clear HB; have HO203 := n0_; have HO208 := n1_; have BK204 := n2_; have HB := n3_; clear n0_ n1_ n2_ n3_; (try clear hb); (try clear hb2); (try clear hk); (try clear hi); (try clear ho0)))
  (try simp only [Act.put, List.setIfInBounds_toArray, List.set_cons_zero, List.set_cons_succ])
  go_cut [29] (fun v29 wc => ∃ (kq : Nat) (x29_5 : Bool), v29 = .bool x29_5 ∧ Aside0 (mootkeep1_TableSlices.j0 kq (wrap64 (t205 - 1000)) t206 t209 x29_5 t197 t198 t199 t200 t201 = some r) ∧ Aside0 (kq ≤ k) ∧ Aside0 (Kd.R (Kd.int .i64) 3 wc w.heap.size (fun _ => True) v207 t206) ∧ Aside0 (Kd.R k44 44 wc w.heap.size (fun _ => True) (.slice Ao10 t201.length co10) t201) ∧ Aside0 (wc.heap[gb204]? = some (.cells #[.string t197, .int .i64 t198, .int .i64 t199, .bool t200, (.slice Ao10 t201.length co10)] 39 (0, 0))) ∧ Aside0 (Below w.heap.size w wc))
  case first =>
    have H := HC6.out
    clear HC6
    replace H := Option.bind_eq_some_iff.mp H
    obtain ⟨t210, A120, H⟩ := H
    replace H : (if t210 = true then (mootkeep1_TableSlices.j0 k (wrap64 (t205 - 1000)) t206 t209 (!t200) t197 t198 t199 t200 t201) else (mootkeep1_TableSlices.j0 k (wrap64 (t205 - 1000)) t206 t209 true t197 t198 t199 t200 t201)) = some r := H
    have A12 := Aside0.mk A120
    clear A120
    by_cases c13 : t210 = true
    · subst c13
      have H1 : (mootkeep1_TableSlices.j0 k (wrap64 (t205 - 1000)) t206 t209 (!t200) t197 t198 t199 t200 t201) = some r := by rw [if_pos rfl] at H; exact H
      clear H
      have H := H1
      clear H1
      have H' := Aside0.mk H
      clear H
      go_wp2_with (first | ((with_reducible refine gate_callee (f := 24) rfl ?_); refine goesL_ (some 23) rfl rfl Try.func24 (by kernel_rfl) rfl #[] rfl (by (try simp only [List.map_toArray, List.map_cons, List.map_nil]); first | done | rfl | (simp only [List.length_drop, List.length_take]; rfl)) ?_; (with_reducible refine (mootkeep1_rated.calls k  true _ A12.out).mono ?_); rintro e w14 ⟨rfl, hb⟩; refine ⟨_, rfl, ?_⟩; have n0_ := Aside0.mk (Kd.R_below (by (with_reducible repeat (first | apply Kd.R_alloc | apply Kd.R_drewN | apply Kd.R_drew)); exact HO203.out) hb); have n1_ := Aside0.mk (Kd.R_below (by (with_reducible repeat (first | apply Kd.R_alloc | apply Kd.R_drewN | apply Kd.R_drew)); exact HO208.out) hb); have n2_ := Aside0.mk (blk_below (g := gb204) (o := .cells #[.string t197, .int .i64 t198, .int .i64 t199, .bool t200, .slice Ao10 t201.length co10] 39 (0, 0)) (by (with_reducible repeat (first | refine blk_drewN ?_ _ | refine blk_drew ?_ | refine blk_alloc ?_ _)); exact BK204.out) hb); have n3_ := Aside0.mk (below_step (by repeat (first | (with_reducible first | exact HB.out | apply below_alloc | apply pw_below_drewN | apply below_drew1 | refine below_set ?_ GE204.out) | exact HB.out)) hb); clear HO203; clear HO208; clear BK204; clear HB; have HO203 := n0_; have HO208 := n1_; have BK204 := n2_; have HB := n3_; clear n0_ n1_ n2_ n3_; (try clear hb); (try clear hb2); (try clear hk); (try clear hi); have hcz15_0 : w14.cell? ⟨gb204, 0, none⟩ = some (.string t197) := (blk_cell BK204.out 0).trans rfl; have hcz15_1 : w14.cell? ⟨gb204, 1, none⟩ = some (.int .i64 t198) := (blk_cell BK204.out 1).trans rfl; have hcz15_2 : w14.cell? ⟨gb204, 2, none⟩ = some (.int .i64 t199) := (blk_cell BK204.out 2).trans rfl; have hcz15_3 : w14.cell? ⟨gb204, 3, none⟩ = some (.bool t200) := (blk_cell BK204.out 3).trans rfl; have hcz15_4 : w14.cell? ⟨gb204, 4, none⟩ = some (.slice Ao10 t201.length co10) := (blk_cell BK204.out 4).trans rfl; have hfz15_0 := blk_frozen BK204.out 0; have hfz15_1 := blk_frozen BK204.out 1; have hfz15_2 := blk_frozen BK204.out 2; have hfz15_3 := blk_frozen BK204.out 3; have hfz15_4 := blk_frozen BK204.out 4))
      go_meet
      case rel => exact ⟨_, (!t200), (by first | rfl | (simp; done) | (simp [*]; done)), H', ⟨by first | omega | exact Nat.le_refl _⟩, ⟨by (with_reducible repeat (first | apply Kd.R_alloc | apply Kd.R_drewN | apply Kd.R_drew)); exact HO208.out⟩, ⟨by (with_reducible repeat (first | apply Kd.R_alloc | apply Kd.R_drewN | apply Kd.R_drew)); exact HO203.out⟩, ⟨by (with_reducible repeat (first | refine blk_drewN ?_ _ | refine blk_drew ?_ | refine blk_alloc ?_ _)); exact BK204.out⟩, ⟨by repeat (first | (with_reducible first | exact HB.out | apply below_alloc | apply pw_below_drewN | apply below_drew1 | refine below_set ?_ GE204.out) | exact HB.out)⟩⟩
    · replace c13 := Bool.eq_false_iff.mpr c13
      subst c13
      have H1 : (mootkeep1_TableSlices.j0 k (wrap64 (t205 - 1000)) t206 t209 true t197 t198 t199 t200 t201) = some r := by rw [if_neg (show ¬ (false = true) by decide)] at H; exact H
      clear H
      have H := H1
      clear H1
      have H' := Aside0.mk H
      clear H
      go_wp2_with (first | ((with_reducible refine gate_callee (f := 24) rfl ?_); refine goesL_ (some 23) rfl rfl Try.func24 (by kernel_rfl) rfl #[] rfl (by (try simp only [List.map_toArray, List.map_cons, List.map_nil]); first | done | rfl | (simp only [List.length_drop, List.length_take]; rfl)) ?_; (with_reducible refine (mootkeep1_rated.calls k  false _ A12.out).mono ?_); rintro e w16 ⟨rfl, hb⟩; refine ⟨_, rfl, ?_⟩; have n0_ := Aside0.mk (Kd.R_below (by (with_reducible repeat (first | apply Kd.R_alloc | apply Kd.R_drewN | apply Kd.R_drew)); exact HO203.out) hb); have n1_ := Aside0.mk (Kd.R_below (by (with_reducible repeat (first | apply Kd.R_alloc | apply Kd.R_drewN | apply Kd.R_drew)); exact HO208.out) hb); have n2_ := Aside0.mk (blk_below (g := gb204) (o := .cells #[.string t197, .int .i64 t198, .int .i64 t199, .bool t200, .slice Ao10 t201.length co10] 39 (0, 0)) (by (with_reducible repeat (first | refine blk_drewN ?_ _ | refine blk_drew ?_ | refine blk_alloc ?_ _)); exact BK204.out) hb); have n3_ := Aside0.mk (below_step (by repeat (first | (with_reducible first | exact HB.out | apply below_alloc | apply pw_below_drewN | apply below_drew1 | refine below_set ?_ GE204.out) | exact HB.out)) hb); clear HO203; clear HO208; clear BK204; clear HB; have HO203 := n0_; have HO208 := n1_; have BK204 := n2_; have HB := n3_; clear n0_ n1_ n2_ n3_; (try clear hb); (try clear hb2); (try clear hk); (try clear hi)))
      go_meet
      case rel => exact ⟨_, (true), (by first | rfl | (simp; done) | (simp [*]; done)), H', ⟨by first | omega | exact Nat.le_refl _⟩, ⟨by (with_reducible repeat (first | apply Kd.R_alloc | apply Kd.R_drewN | apply Kd.R_drew)); exact HO208.out⟩, ⟨by (with_reducible repeat (first | apply Kd.R_alloc | apply Kd.R_drewN | apply Kd.R_drew)); exact HO203.out⟩, ⟨by (with_reducible repeat (first | refine blk_drewN ?_ _ | refine blk_drew ?_ | refine blk_alloc ?_ _)); exact BK204.out⟩, ⟨by repeat (first | (with_reducible first | exact HB.out | apply below_alloc | apply pw_below_drewN | apply below_drew1 | refine below_set ?_ GE204.out) | exact HB.out)⟩⟩
  case rest =>
    clear HC6
    try clear c1
    try clear p1
    try clear c2
    try clear p2
    try clear c4
    try clear p6
    try clear c13
    try clear hcz15_0
    try clear hcz15_1
    try clear hcz15_2
    try clear hcz15_3
    try clear hcz15_4
    try clear hcz9_0
    try clear hcz9_1
    try clear hcz9_2
    try clear hcz9_3
    try clear hcz9_4
    try clear hfz15_0
    try clear hfz15_1
    try clear hfz15_2
    try clear hfz15_3
    try clear hfz15_4
    try clear hfz9_0
    try clear hfz9_1
    try clear hfz9_2
    try clear hfz9_3
    try clear hfz9_4
    obtain ⟨kq, x29_5, rfl, HA, HJ5, HO_6, HO_205004, BK204, HB⟩ := hcut
    cases kq with
    | zero => exact absurd HA.out (by simp [mootkeep1_TableSlices.j0])
    | succ kj5 =>
      have H := HA.out
      clear HA
      simp only [mootkeep1_TableSlices.j0] at H
      by_cases c17 : x29_5 = true
      · subst c17
        have H1 : ((mootkeep1_rated.f kj5).bind fun t211 => (if t211 = true then (some (t209 == 7)) else (some false))) = some r := by rw [if_pos rfl] at H; exact H
        clear H
        have H := H1
        clear H1
        replace H := Option.bind_eq_some_iff.mp H
        obtain ⟨t211, A180, H⟩ := H
        replace H : (if t211 = true then (some (t209 == 7)) else (some false)) = some r := H
        have A18 := Aside0.mk A180
        clear A180
        by_cases c19 : t211 = true
        · subst c19
          have H1 : (some (t209 == 7)) = some r := by rw [if_pos rfl] at H; exact H
          clear H
          have H := H1
          clear H1
          obtain rfl := Option.some.inj H
          go_wp2_with (first | ((with_reducible refine gate_callee (f := 24) rfl ?_); refine goesL_ (some 30) rfl rfl Try.func24 (by kernel_rfl) rfl #[] rfl (by (try simp only [List.map_toArray, List.map_cons, List.map_nil]); first | done | rfl | (simp only [List.length_drop, List.length_take]; rfl)) ?_; (with_reducible refine (mootkeep1_rated.calls kj5  true _ A18.out).mono ?_); rintro e w20 ⟨rfl, hb⟩; refine ⟨_, rfl, ?_⟩; have n0_ := Aside0.mk (Kd.R_below (by (with_reducible repeat (first | apply Kd.R_alloc | apply Kd.R_drewN | apply Kd.R_drew)); exact HO_6.out) hb); have n1_ := Aside0.mk (Kd.R_below (by (with_reducible repeat (first | apply Kd.R_alloc | apply Kd.R_drewN | apply Kd.R_drew)); exact HO_205004.out) hb); have n2_ := Aside0.mk (blk_below (g := gb204) (o := .cells #[.string t197, .int .i64 t198, .int .i64 t199, .bool t200, .slice Ao10 t201.length co10] 39 (0, 0)) (by (with_reducible repeat (first | refine blk_drewN ?_ _ | refine blk_drew ?_ | refine blk_alloc ?_ _)); exact BK204.out) hb); have n3_ := Aside0.mk (below_step (by repeat (first | (with_reducible first | exact HB.out | apply below_alloc | apply pw_below_drewN | apply below_drew1 | refine below_set ?_ GE204.out) | exact HB.out)) hb); clear HO_6; clear HO_205004; clear BK204; clear HB; have HO_6 := n0_; have HO_205004 := n1_; have BK204 := n2_; have HB := n3_; clear n0_ n1_ n2_ n3_; (try clear hb); (try clear hb2); (try clear hk); (try clear hi)))
          go_ret
          exact ⟨by first | rfl | (simp [errW_none, errW_some] <;> rfl) | (simp [*, errW_none, errW_some] <;> rfl), by repeat (first | (with_reducible first | exact HB.out | apply below_alloc | apply pw_below_drewN | apply below_drew1 | refine below_set ?_ GE204.out) | exact HB.out)⟩
        · replace c19 := Bool.eq_false_iff.mpr c19
          subst c19
          have H1 : (some false) = some r := by rw [if_neg (show ¬ (false = true) by decide)] at H; exact H
          clear H
          have H := H1
          clear H1
          obtain rfl := Option.some.inj H
          go_wp2_with (first | ((with_reducible refine gate_callee (f := 24) rfl ?_); refine goesL_ (some 30) rfl rfl Try.func24 (by kernel_rfl) rfl #[] rfl (by (try simp only [List.map_toArray, List.map_cons, List.map_nil]); first | done | rfl | (simp only [List.length_drop, List.length_take]; rfl)) ?_; (with_reducible refine (mootkeep1_rated.calls kj5  false _ A18.out).mono ?_); rintro e w21 ⟨rfl, hb⟩; refine ⟨_, rfl, ?_⟩; have n0_ := Aside0.mk (Kd.R_below (by (with_reducible repeat (first | apply Kd.R_alloc | apply Kd.R_drewN | apply Kd.R_drew)); exact HO_6.out) hb); have n1_ := Aside0.mk (Kd.R_below (by (with_reducible repeat (first | apply Kd.R_alloc | apply Kd.R_drewN | apply Kd.R_drew)); exact HO_205004.out) hb); have n2_ := Aside0.mk (blk_below (g := gb204) (o := .cells #[.string t197, .int .i64 t198, .int .i64 t199, .bool t200, .slice Ao10 t201.length co10] 39 (0, 0)) (by (with_reducible repeat (first | refine blk_drewN ?_ _ | refine blk_drew ?_ | refine blk_alloc ?_ _)); exact BK204.out) hb); have n3_ := Aside0.mk (below_step (by repeat (first | (with_reducible first | exact HB.out | apply below_alloc | apply pw_below_drewN | apply below_drew1 | refine below_set ?_ GE204.out) | exact HB.out)) hb); clear HO_6; clear HO_205004; clear BK204; clear HB; have HO_6 := n0_; have HO_205004 := n1_; have BK204 := n2_; have HB := n3_; clear n0_ n1_ n2_ n3_; (try clear hb); (try clear hb2); (try clear hk); (try clear hi)))
          go_ret
          exact ⟨by first | rfl | (simp [errW_none, errW_some] <;> rfl) | (simp [*, errW_none, errW_some] <;> rfl), by repeat (first | (with_reducible first | exact HB.out | apply below_alloc | apply pw_below_drewN | apply below_drew1 | refine below_set ?_ GE204.out) | exact HB.out)⟩
      · replace c17 := Bool.eq_false_iff.mpr c17
        subst c17
        have H1 : (mootkeep1_TableSlices.l0 kj5 (wrap64 (t205 - 1000)) t206 t209 0 t206 (t206.length : Int) 0 t197 t198 t199 t200 t201) = some r := by rw [if_neg (show ¬ (false = true) by decide)] at H; exact H
        clear H
        have H := H1
        clear H1
        have H' := Aside0.mk H
        clear H
        obtain ⟨Ao22, co22, eo22⟩ := Kd.R_slice HO_6.out
        subst eo22
        go_wp2
        go_loopg [8, 37] kj5 (fun kq v8 v37 w' => ∃ (x8_2 : Int) (x37_2 : Int), v8 = .int .i64 x8_2 ∧ v37 = .int .i64 x37_2 ∧ Aside0 (mootkeep1_TableSlices.l0 kq (wrap64 (t205 - 1000)) t206 t209 x8_2 t206 (t206.length : Int) x37_2 t197 t198 t199 t200 t201 = some r) ∧ Aside0 (kq ≤ kj5) ∧ Aside0 (Kd.R (Kd.int .i64) 3 w' w.heap.size (fun _ => True) (.slice Ao22 t206.length co22) t206) ∧ Aside0 (Kd.R (Kd.int .i64) 3 w' w.heap.size (fun _ => True) (.slice Ao22 t206.length co22) t206) ∧ Aside0 (Kd.R k44 44 w' w.heap.size (fun _ => True) (.slice Ao10 t201.length co10) t201) ∧ Aside0 (w'.heap[gb204]? = some (.cells #[.string t197, .int .i64 t198, .int .i64 t199, .bool t200, (.slice Ao10 t201.length co10)] 39 (0, 0))) ∧ Aside0 (Below w.heap.size w w'))
        case atStart => exact ⟨(0), (0), (by first | rfl | (simp; done) | (simp [*]; done)), (by first | rfl | (simp; done) | (simp [*]; done)), H', ⟨Nat.le_refl _⟩, ⟨by (with_reducible repeat (first | apply Kd.R_alloc | apply Kd.R_drewN | apply Kd.R_drew)); exact HO_6.out⟩, ⟨by (with_reducible repeat (first | apply Kd.R_alloc | apply Kd.R_drewN | apply Kd.R_drew)); exact HO_6.out⟩, ⟨by (with_reducible repeat (first | apply Kd.R_alloc | apply Kd.R_drewN | apply Kd.R_drew)); exact HO_205004.out⟩, ⟨by (with_reducible repeat (first | refine blk_drewN ?_ _ | refine blk_drew ?_ | refine blk_alloc ?_ _)); exact BK204.out⟩, ⟨by repeat (first | (with_reducible first | exact HB.out | apply below_alloc | apply pw_below_drewN | apply below_drew1 | refine below_set ?_ GE204.out) | exact HB.out)⟩⟩
        case round =>
          clear H'
          try clear c1
          try clear p1
          try clear c2
          try clear p2
          try clear c4
          try clear p6
          try clear c13
          try clear c17
          try clear c19
          try clear c22
          try clear hcz15_0
          try clear hcz15_1
          try clear hcz15_2
          try clear hcz15_3
          try clear hcz15_4
          try clear hcz9_0
          try clear hcz9_1
          try clear hcz9_2
          try clear hcz9_3
          try clear hcz9_4
          try clear hfz15_0
          try clear hfz15_1
          try clear hfz15_2
          try clear hfz15_3
          try clear hfz15_4
          try clear hfz9_0
          try clear hfz9_1
          try clear hfz9_2
          try clear hfz9_3
          try clear hfz9_4
          try clear p1
          try clear p2
          try clear p6
          obtain ⟨x8_2, x37_2, rfl, rfl, HA, HK2, HO_6, HO_35, HO_205004, BK204, HB⟩ := hrel
          cases gk with
          | zero => exact absurd HA.out (by simp [mootkeep1_TableSlices.l0])
          | succ k2 =>
            have H := HA.out
            clear HA
            simp only [mootkeep1_TableSlices.l0] at H
            by_cases c23 : x37_2 < (t206.length : Int)
            · rw [if_pos c23] at H
              have c23b0 : decide (x37_2 < (t206.length : Int)) = true := decide_eq_true c23
              clear c23
              by_cases c24 : 0 ≤ x37_2
              · rw [if_pos c24] at H
                have c24b0 : decide (0 ≤ x37_2) = true := decide_eq_true c24
                clear c24
                by_cases c25 : x37_2 < (t206.length : Int)
                · rw [if_pos c25] at H
                  have c25b0 : decide (x37_2 < (t206.length : Int)) = true := decide_eq_true c25
                  clear c25
                  have H' := Aside0.mk H
                  clear H
                  have p212 : 0 ≤ (x37_2 : Int) := of_decide_eq_true (by first | (with_reducible assumption) | assumption)
                  have q212 : x37_2 < (t206.length : Int) := of_decide_eq_true (by first | (with_reducible assumption) | assumption)
                  obtain ⟨ad212, e212, hx212_0⟩ := Kd.at_int (Kd.R_reads' HO_35.out).2.2 x37_2 p212 q212
                  cases e212
                  replace p212 := eq_true p212
                  replace q212 := eq_true q212
                  go_wp2
                  go_roundg k2
                  case measure => have := HJ5.out; have := HK2.out; omega
                  case rel => exact ⟨(wrap64 (x8_2 + (rd t206 x37_2))), (wrap64 (x37_2 + 1)), (by first | rfl | (simp; done) | (simp [*]; done)), (by first | rfl | (simp; done) | (simp [*]; done)), H', ⟨by have := HJ5.out; have := HK2.out; omega⟩, ⟨by (with_reducible repeat (first | apply Kd.R_alloc | apply Kd.R_drewN | apply Kd.R_drew)); exact HO_6.out⟩, ⟨by (with_reducible repeat (first | apply Kd.R_alloc | apply Kd.R_drewN | apply Kd.R_drew)); exact HO_35.out⟩, ⟨by (with_reducible repeat (first | apply Kd.R_alloc | apply Kd.R_drewN | apply Kd.R_drew)); exact HO_205004.out⟩, ⟨by (with_reducible repeat (first | refine blk_drewN ?_ _ | refine blk_drew ?_ | refine blk_alloc ?_ _)); exact BK204.out⟩, ⟨by repeat (first | (with_reducible first | exact HB.out | apply below_alloc | apply pw_below_drewN | apply below_drew1 | refine below_set ?_ GE204.out) | exact HB.out)⟩⟩
                · rw [if_neg c25] at H
                  exact absurd H (by simp)
              · rw [if_neg c24] at H
                exact absurd H (by simp)
            · rw [if_neg c23] at H
              have c23b0 : decide (x37_2 < (t206.length : Int)) = false := decide_eq_false c23
              clear c23
              by_cases c26 : 0 < (t201.length : Int)
              · rw [if_pos c26] at H
                have c26b0 : decide (0 < (t201.length : Int)) = true := decide_eq_true c26
                have c26b1 : decide (0 < t201.length) = true := decide_eq_true (by omega)
                clear c26
                obtain ⟨ji27, hji27⟩ : ∃ j_ : Int, (mx 0 (wrap64 ((wrap64 (t205 - 1000)) - ((rd_T44 t201 0).f0)))) = j_ := ⟨_, rfl⟩
                replace H : (if t209 = 0 then (if (t206.length : Int) = (t201.length : Int) then (if x8_2 = (ji27) then ((table_At.f k2 t197 t198 t199 t200 t201 (wrap64 (t205 - 1000))).bind fun t214 => (if t214 ≥ 0 then (some (decide (t214 ≤ (ji27)))) else (some false))) else (some false)) else (some false)) else (some false)) = some r := by first | (rw [hji27] at H; exact H) | (simp only [hji27] at H ⊢; exact H)
                (try (have hji27l : 0 ≤ ji27 := by (rw [← hji27]; unfold mx; (repeat' split) <;> omega)))
                (try (have hji27m : 0 ≤ ji27 := by omega))
                have hji27_ : (if 0 < (wrap64 ((wrap64 (t205 - 1000)) - ((rd_T44 t201 0).f0))) then (wrap64 ((wrap64 (t205 - 1000)) - ((rd_T44 t201 0).f0))) else 0) = ji27 := hji27
                by_cases c28 : t209 = 0
                · rw [if_pos c28] at H
                  have c28b0 : (t209 == 0) = true := beq_iff_eq.mpr c28
                  have c28b1 : (t209 != 0) = false := bne_eq_false_iff_eq.mpr c28
                  clear c28
                  by_cases c29 : (t206.length : Int) = (t201.length : Int)
                  · rw [if_pos c29] at H
                    have c29b0 : ((t206.length : Int) == (t201.length : Int)) = true := beq_iff_eq.mpr c29
                    have c29b1 : ((t206.length : Int) != (t201.length : Int)) = false := bne_eq_false_iff_eq.mpr c29
                    have c29b2 : (t206.length == t201.length) = true := by first | simpa using c29 | (simp at c29 ⊢; omega)
                    clear c29
                    by_cases c30 : x8_2 = (ji27)
                    · rw [if_pos c30] at H
                      have c30b0 : (x8_2 == (ji27)) = true := beq_iff_eq.mpr c30
                      have c30b1 : (x8_2 != (ji27)) = false := bne_eq_false_iff_eq.mpr c30
                      clear c30
                      replace H := Option.bind_eq_some_iff.mp H
                      obtain ⟨t214, A310, H⟩ := H
                      replace H : (if t214 ≥ 0 then (some (decide (t214 ≤ (ji27)))) else (some false)) = some r := H
                      have A31 := Aside0.mk A310
                      clear A310
                      by_cases c32 : t214 ≥ 0
                      · rw [if_pos c32] at H
                        have c32b0 : decide (0 ≤ t214) = true := decide_eq_true c32
                        clear c32
                        obtain rfl := Option.some.inj H
                        have hcz33_0 : wr.cell? ⟨gb204, 0, none⟩ = some (.string t197) := (blk_cell BK204.out 0).trans rfl
                        have hcz33_1 : wr.cell? ⟨gb204, 1, none⟩ = some (.int .i64 t198) := (blk_cell BK204.out 1).trans rfl
                        have hcz33_2 : wr.cell? ⟨gb204, 2, none⟩ = some (.int .i64 t199) := (blk_cell BK204.out 2).trans rfl
                        have hcz33_3 : wr.cell? ⟨gb204, 3, none⟩ = some (.bool t200) := (blk_cell BK204.out 3).trans rfl
                        have hcz33_4 : wr.cell? ⟨gb204, 4, none⟩ = some (.slice Ao10 t201.length co10) := (blk_cell BK204.out 4).trans rfl
                        have hfz33_0 := blk_frozen BK204.out 0
                        have hfz33_1 := blk_frozen BK204.out 1
                        have hfz33_2 := blk_frozen BK204.out 2
                        have hfz33_3 := blk_frozen BK204.out 3
                        have hfz33_4 := blk_frozen BK204.out 4
                        have p213 : 0 ≤ (0 : Int) := (by omega)
                        have q213 : 0 < (t201.length : Int) := of_decide_eq_true (by first | (with_reducible assumption) | assumption)
                        obtain ⟨ad213, e213, hx213_0, hx213_1⟩ := at_T44 (Kd.R_reads' HO_205004.out).2.2 0 p213 q213
                        cases e213
                        have qi213 : (0 < t201.length) = True := eq_true (by omega)
                        (try rw [show ((0 : Int)).toNat = 0 from rfl] at hx213_0)
                        (try rw [show 0 * 2 = 0 from rfl] at hx213_0)
                        (try rw [Addr.add_zero'] at hx213_0)
                        (try rw [show ((0 : Int)).toNat = 0 from rfl] at hx213_1)
                        (try rw [show 0 * 2 = 0 from rfl] at hx213_1)
                        (try rw [Addr.add_zero'] at hx213_1)
                        replace p213 := eq_true p213
                        replace q213 := eq_true q213
                        go_wp2_with (first | (go_at_call 25; (with_reducible refine (table_At.calls k2 t197 t198 t199 t200 _ _ t201 (wrap64 (t205 - 1000)) t214 _ ?side1 ?side2 A31.out).mono ?_); (case side1 => repeat (first | exact (Kd.R_reads' HO_205004.out).2.2 | (with_reducible refine Kd.C_alloc ?_ _) | (with_reducible refine Kd.C_drewN ?_ _) | (with_reducible refine Kd.C_drew ?_))); (case side2 => exact (Kd.R_reads' HO_205004.out).2.1); rintro e w34 ⟨rfl, hb⟩; have n0_ := Aside0.mk (Kd.R_below (by (with_reducible repeat (first | apply Kd.R_alloc | apply Kd.R_drewN | apply Kd.R_drew)); exact HO_6.out) hb); have n1_ := Aside0.mk (Kd.R_below (by (with_reducible repeat (first | apply Kd.R_alloc | apply Kd.R_drewN | apply Kd.R_drew)); exact HO_35.out) hb); have n2_ := Aside0.mk (Kd.R_below (by (with_reducible repeat (first | apply Kd.R_alloc | apply Kd.R_drewN | apply Kd.R_drew)); exact HO_205004.out) hb); have n3_ := Aside0.mk (blk_below (g := gb204) (o := .cells #[.string t197, .int .i64 t198, .int .i64 t199, .bool t200, .slice (some ad213) t201.length co10] 39 (0, 0)) (by (with_reducible repeat (first | refine blk_drewN ?_ _ | refine blk_drew ?_ | refine blk_alloc ?_ _)); exact BK204.out) hb); have n4_ := Aside0.mk (below_step (by repeat (first | (with_reducible first | exact HB.out | apply below_alloc | apply pw_below_drewN | apply below_drew1 | refine below_set ?_ GE204.out) | exact HB.out)) hb); clear HO_6; clear HO_35; clear HO_205004; clear BK204; clear HB; have HO_6 := n0_; have HO_35 := n1_; have HO_205004 := n2_; have BK204 := n3_; have HB := n4_; clear n0_ n1_ n2_ n3_ n4_; (try clear hb); (try clear hb2); (try clear hk); (try clear hi); have hcz35_0 : w34.cell? ⟨gb204, 0, none⟩ = some (.string t197) := (blk_cell BK204.out 0).trans rfl; have hcz35_1 : w34.cell? ⟨gb204, 1, none⟩ = some (.int .i64 t198) := (blk_cell BK204.out 1).trans rfl; have hcz35_2 : w34.cell? ⟨gb204, 2, none⟩ = some (.int .i64 t199) := (blk_cell BK204.out 2).trans rfl; have hcz35_3 : w34.cell? ⟨gb204, 3, none⟩ = some (.bool t200) := (blk_cell BK204.out 3).trans rfl; have hcz35_4 : w34.cell? ⟨gb204, 4, none⟩ = some (.slice (some ad213) t201.length co10) := (blk_cell BK204.out 4).trans rfl; have hfz35_0 := blk_frozen BK204.out 0; have hfz35_1 := blk_frozen BK204.out 1; have hfz35_2 := blk_frozen BK204.out 2; have hfz35_3 := blk_frozen BK204.out 3; have hfz35_4 := blk_frozen BK204.out 4) | (go_at_call 25; (with_reducible refine (table_At.calls k2 t197 t198 t199 t200 _ _ t201 (wrap64 (t205 - 1000)) t214 _ ?side1 ?side2 A31.out).mono ?_); (case side1 => repeat (first | exact (Kd.R_reads' HO_205004.out).2.2 | (with_reducible refine Kd.C_alloc ?_ _) | (with_reducible refine Kd.C_drewN ?_ _) | (with_reducible refine Kd.C_drew ?_))); (case side2 => exact (Kd.R_reads' HO_205004.out).2.1); rintro e w36 ⟨rfl, hb⟩; have n0_ := Aside0.mk (Kd.R_below (by (with_reducible repeat (first | apply Kd.R_alloc | apply Kd.R_drewN | apply Kd.R_drew)); exact HO_6.out) hb); have n1_ := Aside0.mk (Kd.R_below (by (with_reducible repeat (first | apply Kd.R_alloc | apply Kd.R_drewN | apply Kd.R_drew)); exact HO_35.out) hb); have n2_ := Aside0.mk (Kd.R_below (by (with_reducible repeat (first | apply Kd.R_alloc | apply Kd.R_drewN | apply Kd.R_drew)); exact HO_205004.out) hb); have n3_ := Aside0.mk (blk_below (g := gb204) (o := .cells #[.string t197, .int .i64 t198, .int .i64 t199, .bool t200, .slice (some ad213) t201.length co10] 39 (0, 0)) (by (with_reducible repeat (first | refine blk_drewN ?_ _ | refine blk_drew ?_ | refine blk_alloc ?_ _)); exact BK204.out) hb); have n4_ := Aside0.mk (below_step (by repeat (first | (with_reducible first | exact HB.out | apply below_alloc | apply pw_below_drewN | apply below_drew1 | refine below_set ?_ GE204.out) | exact HB.out)) hb); clear HO_6; clear HO_35; clear HO_205004; clear BK204; clear HB; have HO_6 := n0_; have HO_35 := n1_; have HO_205004 := n2_; have BK204 := n3_; have HB := n4_; clear n0_ n1_ n2_ n3_ n4_; (try clear hb); (try clear hb2); (try clear hk); (try clear hi)))
                        go_ret
                        exact ⟨by first | rfl | (simp [errW_none, errW_some] <;> rfl) | (simp only [← hji27]; first | rfl | (simp [errW_none, errW_some] <;> rfl)) | (simp [*, errW_none, errW_some] <;> rfl), by repeat (first | (with_reducible first | exact HB.out | apply below_alloc | apply pw_below_drewN | apply below_drew1 | refine below_set ?_ GE204.out) | exact HB.out)⟩
                      · rw [if_neg c32] at H
                        have c32b0 : decide (0 ≤ t214) = false := decide_eq_false c32
                        clear c32
                        obtain rfl := Option.some.inj H
                        have hcz37_0 : wr.cell? ⟨gb204, 0, none⟩ = some (.string t197) := (blk_cell BK204.out 0).trans rfl
                        have hcz37_1 : wr.cell? ⟨gb204, 1, none⟩ = some (.int .i64 t198) := (blk_cell BK204.out 1).trans rfl
                        have hcz37_2 : wr.cell? ⟨gb204, 2, none⟩ = some (.int .i64 t199) := (blk_cell BK204.out 2).trans rfl
                        have hcz37_3 : wr.cell? ⟨gb204, 3, none⟩ = some (.bool t200) := (blk_cell BK204.out 3).trans rfl
                        have hcz37_4 : wr.cell? ⟨gb204, 4, none⟩ = some (.slice Ao10 t201.length co10) := (blk_cell BK204.out 4).trans rfl
                        have hfz37_0 := blk_frozen BK204.out 0
                        have hfz37_1 := blk_frozen BK204.out 1
                        have hfz37_2 := blk_frozen BK204.out 2
                        have hfz37_3 := blk_frozen BK204.out 3
                        have hfz37_4 := blk_frozen BK204.out 4
                        have p213 : 0 ≤ (0 : Int) := (by omega)
                        have q213 : 0 < (t201.length : Int) := of_decide_eq_true (by first | (with_reducible assumption) | assumption)
                        obtain ⟨ad213, e213, hx213_0, hx213_1⟩ := at_T44 (Kd.R_reads' HO_205004.out).2.2 0 p213 q213
                        cases e213
                        have qi213 : (0 < t201.length) = True := eq_true (by omega)
                        (try rw [show ((0 : Int)).toNat = 0 from rfl] at hx213_0)
                        (try rw [show 0 * 2 = 0 from rfl] at hx213_0)
                        (try rw [Addr.add_zero'] at hx213_0)
                        (try rw [show ((0 : Int)).toNat = 0 from rfl] at hx213_1)
                        (try rw [show 0 * 2 = 0 from rfl] at hx213_1)
                        (try rw [Addr.add_zero'] at hx213_1)
                        replace p213 := eq_true p213
                        replace q213 := eq_true q213
                        go_wp2_with (first | (go_at_call 25; (with_reducible refine (table_At.calls k2 t197 t198 t199 t200 _ _ t201 (wrap64 (t205 - 1000)) t214 _ ?side1 ?side2 A31.out).mono ?_); (case side1 => repeat (first | exact (Kd.R_reads' HO_205004.out).2.2 | (with_reducible refine Kd.C_alloc ?_ _) | (with_reducible refine Kd.C_drewN ?_ _) | (with_reducible refine Kd.C_drew ?_))); (case side2 => exact (Kd.R_reads' HO_205004.out).2.1); rintro e w38 ⟨rfl, hb⟩; have n0_ := Aside0.mk (Kd.R_below (by (with_reducible repeat (first | apply Kd.R_alloc | apply Kd.R_drewN | apply Kd.R_drew)); exact HO_6.out) hb); have n1_ := Aside0.mk (Kd.R_below (by (with_reducible repeat (first | apply Kd.R_alloc | apply Kd.R_drewN | apply Kd.R_drew)); exact HO_35.out) hb); have n2_ := Aside0.mk (Kd.R_below (by (with_reducible repeat (first | apply Kd.R_alloc | apply Kd.R_drewN | apply Kd.R_drew)); exact HO_205004.out) hb); have n3_ := Aside0.mk (blk_below (g := gb204) (o := .cells #[.string t197, .int .i64 t198, .int .i64 t199, .bool t200, .slice (some ad213) t201.length co10] 39 (0, 0)) (by (with_reducible repeat (first | refine blk_drewN ?_ _ | refine blk_drew ?_ | refine blk_alloc ?_ _)); exact BK204.out) hb); have n4_ := Aside0.mk (below_step (by repeat (first | (with_reducible first | exact HB.out | apply below_alloc | apply pw_below_drewN | apply below_drew1 | refine below_set ?_ GE204.out) | exact HB.out)) hb); clear HO_6; clear HO_35; clear HO_205004; clear BK204; clear HB; have HO_6 := n0_; have HO_35 := n1_; have HO_205004 := n2_; have BK204 := n3_; have HB := n4_; clear n0_ n1_ n2_ n3_ n4_; (try clear hb); (try clear hb2); (try clear hk); (try clear hi)))
                        go_ret
                        exact ⟨by first | rfl | (simp [errW_none, errW_some] <;> rfl) | (simp only [← hji27]; first | rfl | (simp [errW_none, errW_some] <;> rfl)) | (simp [*, errW_none, errW_some] <;> rfl), by repeat (first | (with_reducible first | exact HB.out | apply below_alloc | apply pw_below_drewN | apply below_drew1 | refine below_set ?_ GE204.out) | exact HB.out)⟩
                    · rw [if_neg c30] at H
                      have c30b0 : (x8_2 == (ji27)) = false := beq_eq_false_iff_ne.mpr c30
                      have c30b1 : (x8_2 != (ji27)) = true := bne_iff_ne.mpr c30
                      obtain rfl := Option.some.inj H
                      have hcz39_0 : wr.cell? ⟨gb204, 0, none⟩ = some (.string t197) := (blk_cell BK204.out 0).trans rfl
                      have hcz39_1 : wr.cell? ⟨gb204, 1, none⟩ = some (.int .i64 t198) := (blk_cell BK204.out 1).trans rfl
                      have hcz39_2 : wr.cell? ⟨gb204, 2, none⟩ = some (.int .i64 t199) := (blk_cell BK204.out 2).trans rfl
                      have hcz39_3 : wr.cell? ⟨gb204, 3, none⟩ = some (.bool t200) := (blk_cell BK204.out 3).trans rfl
                      have hcz39_4 : wr.cell? ⟨gb204, 4, none⟩ = some (.slice Ao10 t201.length co10) := (blk_cell BK204.out 4).trans rfl
                      have hfz39_0 := blk_frozen BK204.out 0
                      have hfz39_1 := blk_frozen BK204.out 1
                      have hfz39_2 := blk_frozen BK204.out 2
                      have hfz39_3 := blk_frozen BK204.out 3
                      have hfz39_4 := blk_frozen BK204.out 4
                      have p213 : 0 ≤ (0 : Int) := (by omega)
                      have q213 : 0 < (t201.length : Int) := of_decide_eq_true (by first | (with_reducible assumption) | assumption)
                      obtain ⟨ad213, e213, hx213_0, hx213_1⟩ := at_T44 (Kd.R_reads' HO_205004.out).2.2 0 p213 q213
                      cases e213
                      have qi213 : (0 < t201.length) = True := eq_true (by omega)
                      (try rw [show ((0 : Int)).toNat = 0 from rfl] at hx213_0)
                      (try rw [show 0 * 2 = 0 from rfl] at hx213_0)
                      (try rw [Addr.add_zero'] at hx213_0)
                      (try rw [show ((0 : Int)).toNat = 0 from rfl] at hx213_1)
                      (try rw [show 0 * 2 = 0 from rfl] at hx213_1)
                      (try rw [Addr.add_zero'] at hx213_1)
                      replace p213 := eq_true p213
                      replace q213 := eq_true q213
                      go_wp2
                      go_ret
                      exact ⟨by first | rfl | (simp [errW_none, errW_some] <;> rfl) | (simp only [← hji27]; first | rfl | (simp [errW_none, errW_some] <;> rfl)) | (simp [*, errW_none, errW_some] <;> rfl), by repeat (first | (with_reducible first | exact HB.out | apply below_alloc | apply pw_below_drewN | apply below_drew1 | refine below_set ?_ GE204.out) | exact HB.out)⟩
                  · rw [if_neg c29] at H
                    have c29b0 : ((t206.length : Int) == (t201.length : Int)) = false := beq_eq_false_iff_ne.mpr c29
                    have c29b1 : ((t206.length : Int) != (t201.length : Int)) = true := bne_iff_ne.mpr c29
                    have c29b2 : (t206.length == t201.length) = false := by first | simpa using c29 | (simp at c29 ⊢; omega)
                    obtain rfl := Option.some.inj H
                    have hcz40_0 : wr.cell? ⟨gb204, 0, none⟩ = some (.string t197) := (blk_cell BK204.out 0).trans rfl
                    have hcz40_1 : wr.cell? ⟨gb204, 1, none⟩ = some (.int .i64 t198) := (blk_cell BK204.out 1).trans rfl
                    have hcz40_2 : wr.cell? ⟨gb204, 2, none⟩ = some (.int .i64 t199) := (blk_cell BK204.out 2).trans rfl
                    have hcz40_3 : wr.cell? ⟨gb204, 3, none⟩ = some (.bool t200) := (blk_cell BK204.out 3).trans rfl
                    have hcz40_4 : wr.cell? ⟨gb204, 4, none⟩ = some (.slice Ao10 t201.length co10) := (blk_cell BK204.out 4).trans rfl
                    have hfz40_0 := blk_frozen BK204.out 0
                    have hfz40_1 := blk_frozen BK204.out 1
                    have hfz40_2 := blk_frozen BK204.out 2
                    have hfz40_3 := blk_frozen BK204.out 3
                    have hfz40_4 := blk_frozen BK204.out 4
                    have p213 : 0 ≤ (0 : Int) := (by omega)
                    have q213 : 0 < (t201.length : Int) := of_decide_eq_true (by first | (with_reducible assumption) | assumption)
                    obtain ⟨ad213, e213, hx213_0, hx213_1⟩ := at_T44 (Kd.R_reads' HO_205004.out).2.2 0 p213 q213
                    cases e213
                    have qi213 : (0 < t201.length) = True := eq_true (by omega)
                    (try rw [show ((0 : Int)).toNat = 0 from rfl] at hx213_0)
                    (try rw [show 0 * 2 = 0 from rfl] at hx213_0)
                    (try rw [Addr.add_zero'] at hx213_0)
                    (try rw [show ((0 : Int)).toNat = 0 from rfl] at hx213_1)
                    (try rw [show 0 * 2 = 0 from rfl] at hx213_1)
                    (try rw [Addr.add_zero'] at hx213_1)
                    replace p213 := eq_true p213
                    replace q213 := eq_true q213
                    go_wp2
                    go_ret
                    exact ⟨by first | rfl | (simp [errW_none, errW_some] <;> rfl) | (simp only [← hji27]; first | rfl | (simp [errW_none, errW_some] <;> rfl)) | (simp [*, errW_none, errW_some] <;> rfl), by repeat (first | (with_reducible first | exact HB.out | apply below_alloc | apply pw_below_drewN | apply below_drew1 | refine below_set ?_ GE204.out) | exact HB.out)⟩
                · rw [if_neg c28] at H
                  have c28b0 : (t209 == 0) = false := beq_eq_false_iff_ne.mpr c28
                  have c28b1 : (t209 != 0) = true := bne_iff_ne.mpr c28
                  obtain rfl := Option.some.inj H
                  have hcz41_0 : wr.cell? ⟨gb204, 0, none⟩ = some (.string t197) := (blk_cell BK204.out 0).trans rfl
                  have hcz41_1 : wr.cell? ⟨gb204, 1, none⟩ = some (.int .i64 t198) := (blk_cell BK204.out 1).trans rfl
                  have hcz41_2 : wr.cell? ⟨gb204, 2, none⟩ = some (.int .i64 t199) := (blk_cell BK204.out 2).trans rfl
                  have hcz41_3 : wr.cell? ⟨gb204, 3, none⟩ = some (.bool t200) := (blk_cell BK204.out 3).trans rfl
                  have hcz41_4 : wr.cell? ⟨gb204, 4, none⟩ = some (.slice Ao10 t201.length co10) := (blk_cell BK204.out 4).trans rfl
                  have hfz41_0 := blk_frozen BK204.out 0
                  have hfz41_1 := blk_frozen BK204.out 1
                  have hfz41_2 := blk_frozen BK204.out 2
                  have hfz41_3 := blk_frozen BK204.out 3
                  have hfz41_4 := blk_frozen BK204.out 4
                  have p213 : 0 ≤ (0 : Int) := (by omega)
                  have q213 : 0 < (t201.length : Int) := of_decide_eq_true (by first | (with_reducible assumption) | assumption)
                  obtain ⟨ad213, e213, hx213_0, hx213_1⟩ := at_T44 (Kd.R_reads' HO_205004.out).2.2 0 p213 q213
                  cases e213
                  have qi213 : (0 < t201.length) = True := eq_true (by omega)
                  (try rw [show ((0 : Int)).toNat = 0 from rfl] at hx213_0)
                  (try rw [show 0 * 2 = 0 from rfl] at hx213_0)
                  (try rw [Addr.add_zero'] at hx213_0)
                  (try rw [show ((0 : Int)).toNat = 0 from rfl] at hx213_1)
                  (try rw [show 0 * 2 = 0 from rfl] at hx213_1)
                  (try rw [Addr.add_zero'] at hx213_1)
                  replace p213 := eq_true p213
                  replace q213 := eq_true q213
                  go_wp2
                  go_ret
                  exact ⟨by first | rfl | (simp [errW_none, errW_some] <;> rfl) | (simp only [← hji27]; first | rfl | (simp [errW_none, errW_some] <;> rfl)) | (simp [*, errW_none, errW_some] <;> rfl), by repeat (first | (with_reducible first | exact HB.out | apply below_alloc | apply pw_below_drewN | apply below_drew1 | refine below_set ?_ GE204.out) | exact HB.out)⟩
              · rw [if_neg c26] at H
                exact absurd H (by simp)

/-- THE ONE PURE STATEMENT of mootkeep1_TableSlices: yours. -/
def mootkeep1_TableSlices.Pure : Prop := ∀ (l0 : List Int) (a1 : Int), l0.length ≤ maxLen → l0.length * 8 ≤ 140737488351232 → (∀ x ∈ l0, (Lit.int .i64 x).wf = true) → (Lit.int .i64 a1).wf = true → ∃ k, mootkeep1_TableSlices.f k l0 a1 = some true
theorem mootkeep1_TableSlices.walk (P : mootkeep1_TableSlices.Pure) (a0 : Option Addr) (len0 cap0 : Nat) (z0 : List Int) (a1 : Int) (w : World) (w0 : (a0 = none ∧ len0 = 0 ∧ cap0 = 0 ∧ z0 = []) ∨ ∃ x, a0 = some x ∧ len0 ≤ cap0 ∧ cap0 ≤ maxLen ∧ z0.length = cap0 ∧ (∀ i, i < z0.length → w.cell? (x.add i) = some (.int .i64 (z0.getD i 0))) ∧ ∀ n ∈ z0, (Lit.int .i64 n).wf = true) (y0 : len0 * 8 ≤ 140737488351232) (w1 : (Lit.int .i64 a1).wf = true) :
    Calls Try.prog 4 #[.slice a0 len0 cap0, .int .i64 a1] w fun e w' => e = .returned (.bool true) ∧ Below w.heap.size w w' := by
  obtain ⟨l0, rfl, hr0, hm0, hw0, hc0⟩ := ReadsInt.ofRowC w0
  obtain ⟨k, h⟩ := P l0 a1 hm0 y0 hw0 w1
  refine (mootkeep1_TableSlices.calls k _ _ l0 a1 true w (Kd.C_of_reads (d := (0 : Int)) (h1 := fun _ => rfl) hr0) hc0 h).mono ?_
  rintro e w' ⟨rfl, hd⟩
  exact ⟨rfl, hd⟩

end Go.Proofs.Ytdajcnhhfgnbmab.PTableSlices
