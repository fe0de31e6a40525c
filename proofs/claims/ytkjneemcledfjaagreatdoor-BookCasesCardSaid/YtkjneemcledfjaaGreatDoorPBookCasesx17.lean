import Derived.Test.YtkjneemcledfjaaGreatDoorPBookCasesx0
namespace Go.Proofs.YtkjneemcledfjaaGreatDoor.PBookCases
open Go.RowKit Go.Proofs.YtkjneemcledfjaaGreatDoorW.PrintWords Go.Proofs.YtkjneemcledfjaaGreatDoorW.PrintLast Go.Proofs.YtkjneemcledfjaaGreatDoorW.PrintMore
set_option linter.unusedVariables false
set_option linter.unusedSimpArgs false
set_option maxHeartbeats 8000000
set_option maxRecDepth 100000
attribute [local go_sem] fld46_1
def slices_Compact_int_int.f (l0 : List Int) : Option (List Int) := if l0.length ≤ 1000000 then some (Lib.compact l0) else none
def slices_Compact_int_int.ren : Go.Shelf.Ren := ⟨fun | 20 => 51 | n => n, fun | 22 => 22 | 3 => 3 | 4 => 4 | 0 => 0 | n => n, fun | n => n⟩
theorem slices_Compact_int_int.lays : Go.Proofs.Lays2.n20 Tryz.prog slices_Compact_int_int.ren := {
 mixed := kl_
 f20 := Tryz.func51.trans (congrArg some kl_)
 t0 := Tryz.underlying0
 a0 := Tryz.isAgg0
 z0 := Tryz.sizeOf0
 v0 := Tryz.zeroValue0
 t3 := Tryz.underlying3
 a3 := Tryz.isAgg3
 z3 := Tryz.sizeOf3
 v3 := Tryz.zeroValue3
 t4 := Tryz.underlying4
 a4 := Tryz.isAgg4
 z4 := Tryz.sizeOf4
 v4 := Tryz.zeroValue4
 t22 := Tryz.underlying22
 a22 := Tryz.isAgg22
 z22 := Tryz.sizeOf22
 v22 := Tryz.zeroValue22
 i3 := by kernel_rfl }
theorem slices_Compact_int_int.le (l0 : List Int) : (Lib.compact l0).length ≤ l0.length := by
 unfold Lib.compact Lib.compactUpTo; rw [List.length_map]; exact Nat.le_trans (List.length_filter_le ..) (by simp)
theorem slices_Compact_int_int.calls (P0_ : Nat → Prop) (u9000_ : Value) (l0 : List Int) (r : List Int) (w0 w : World) (hB : Below w0.heap.size w0 w) (ho0 : Kd.R (Kd.int .i64) 3 w w0.heap.size P0_ u9000_ l0) (h : slices_Compact_int_int.f l0 = some r) :
  Calls Tryz.prog 51 #[u9000_] w fun e w' => ∃ v0_ : Value, e = .returned (v0_) ∧ Kd.R (Kd.int .i64) 3 w' w0.heap.size (fun k_ => (P0_ k_ ∨ w.heap.size ≤ k_)) v0_ r ∧ Below w0.heap.size w0 w' ∧ Kept w w' (fun k_ => P0_ k_) := by
 unfold slices_Compact_int_int.f at h; by_cases hl : l0.length ≤ 1000000
 ·rw [if_pos hl] at h; obtain rfl := Option.some.inj h; have hown := Kd.own_of_R (enc := Value.int .i64) (h1 := fun _ => rfl) ho0; rcases hown.2 with ⟨_, hn0⟩ | ⟨g, cap, cur, hu, hbase, hb, h1, h2, h3, h4⟩
  ·obtain rfl := List.eq_nil_of_length_eq_zero hn0; have hro := Kd.R_mono (ok' := fun k_ => (P0_ k_ ∨ w.heap.size ≤ k_)) ho0 (fun k hk => .inl hk); obtain ⟨A, c, rfl⟩ := Kd.R_slice ho0; refine (Any.slices_Compact_int_empty slices_Compact_int_int.lays A c w).mono ?_; rintro e w' ⟨rfl, rfl⟩; exact ⟨_, rfl, hro, hB, Kept.refl _ _⟩
  ·subst hu; have hP : P0_ g := ho0.1 g rfl; have hgs : g < w.heap.size := (Array.getElem?_eq_some_iff.1 hb).1; have hH : Sort.Holds (Value.int .i64) w g 0 l0.toArray := holds_of_blockI hb (by rw [← Nat.mul_one l0.length, h4]; rfl); have hlen := slices_Compact_int_int.le l0; refine (Any.slices_Compact_int slices_Compact_int_int.lays g 0 cap l0 w hH (by omega) h1).mono ?_; rintro e w' ⟨rfl, n, hw⟩; rw [← Sort.grow_empty (Sort.putRow _ _ _ _ _)] at hw; subst hw; refine ⟨_, rfl, ?_, hB.grown (grownBy_sortedI _) hB.size (fun k hk => by cases hk; exact hbase), ⟨(grownBy_sortedI _).size, fun i hi hn => (grownBy_sortedI _).block i hi (fun e => hn (by rw [Option.some.inj e]; exact hP))⟩⟩; refine Kd.R_mono (ok := P0_) (Kd.R_of_own (enc := Value.int .i64) (h1 := fun _ => rfl) ?_ (fun k hk => by cases hk; exact hP)) (fun k hk => .inl hk); obtain ⟨ts, hts⟩ : ∃ ts, ts = Lib.compact l0 ++ List.replicate (l0.length - (Lib.compact l0).length) 0 := ⟨_, rfl⟩; rw [← hts]; have htl : ts.length = l0.length := by rw [hts, List.length_append, List.length_replicate]; omega
   have hq := (ownsRow_sortedI (os := #[]) (n := n) htl hbase hb h1 h2 h3).2; rcases hq with ⟨hq0, _⟩ | ⟨g2, cap2, cur2, hv2, hb2, hc2, k1, k2, k3, k4⟩
   ·cases hq0
   ·cases hv2; refine ⟨by simp [encs], .inr ⟨g, cap, cur2, rfl, hb2, hc2, by omega, k2, k3, ?_⟩⟩; have h5 : cur2.toList.take (Lib.compact l0).length = (cur2.toList.take l0.length).take (Lib.compact l0).length := by rw [List.take_take, Nat.min_eq_left hlen]
    rw [Nat.mul_one] at k4 ⊢; rw [h5, k4, hts, List.map_append, List.take_left' (by simp)]; rfl
 ·rw [if_neg hl] at h
  cases h
end Go.Proofs.YtkjneemcledfjaaGreatDoor.PBookCases
