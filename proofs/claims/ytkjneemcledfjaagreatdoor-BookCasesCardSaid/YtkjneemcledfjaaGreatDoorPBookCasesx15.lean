import Derived.Test.YtkjneemcledfjaaGreatDoorPBookCasesx0
import Derived.Test.YtkjneemcledfjaaGreatDoorPBookCasesx4
import Derived.Test.YtkjneemcledfjaaGreatDoorPBookCasesx14
namespace Go.Proofs.YtkjneemcledfjaaGreatDoor.PBookCases
open Go.RowKit Go.Proofs.YtkjneemcledfjaaGreatDoorW.PrintWords Go.Proofs.YtkjneemcledfjaaGreatDoorW.PrintLast Go.Proofs.YtkjneemcledfjaaGreatDoorW.PrintMore
set_option linter.unusedVariables false
set_option linter.unusedSimpArgs false
set_option maxHeartbeats 8000000
set_option maxRecDepth 100000
attribute [local go_sem] fld46_1
def table_At.l0 : Nat → Int → Int → List (S108) → Int → Int → Option (Int)
 | 0, _, _, _, _, _ => none
 | k + 1, x1, x5, x27, x28, x29 => if x29 < x28 then (if 0 ≤ x29 then (if x29 < (x27.length : Int) then (if ((rd_T108 x27 x29).f0) ≤ x1 then (table_At.l0 k x1 ((rd_T108 x27 x29).f1) x27 x28 (wrap64 (x29 + 1))) else (none)) else (none)) else (none)) else (some x5)
def table_At.f (k : Nat) (a0_0 : ByteArray) (a0_1 : Int) (a0_2 : Int) (a0_3 : Bool) (l0_4 : List (S108)) (a1 : Int) : Option (Int) := (table_Check.f k a0_0 a0_1 a0_2 a0_3 l0_4).bind fun t401 => (if t401 = 0 then ((table_fit.f a0_0 a0_1 a0_2 a0_3 l0_4 a1).bind fun t402 => (if a0_3 = true then (none) else (table_At.l0 k t402 0 l0_4 (l0_4.length : Int) 0))) else (none))
theorem table_At.calls (k : Nat) (a0_0 : ByteArray) (a0_1 : Int) (a0_2 : Int) (a0_3 : Bool) (A0_4 : Option Addr) (c0_4 : Nat) (l0_4 : List (S108)) (a1 : Int) (r : Int) (w : World) (hr0_4 : Kd.C k108 w A0_4 l0_4.length l0_4) (hc0_4 : l0_4.length ≤ c0_4) (h : table_At.f k a0_0 a0_1 a0_2 a0_3 l0_4 a1 = some r) :
  Calls Tryz.prog 43 #[.agg #[.string a0_0, .int .i64 a0_1, .int .i64 a0_2, .bool a0_3, .slice A0_4 l0_4.length c0_4], .int .i64 a1] w fun e w' => e = .returned (.int .i64 r) ∧ Below w.heap.size w w' := by
 have hu91 := Tryz.underlying91; have hu108 := Tryz.underlying108; have hu46 := Tryz.underlying46; have HR0_4 := Aside0.mk hr0_4; have HC0_4 := Aside0.mk hc0_4; clear hr0_4 hc0_4; have HB := Aside0.mk (Below.refl w.heap.size w); unfold table_At.f at h; have H := h; clear h; replace H := Option.bind_eq_some_iff.mp H; obtain ⟨t401, A30, H⟩ := H; (try dsimp only at H); have A3 := Aside0.mk A30; clear A30; by_cases c4 : t401 = 0
 ·rw [if_pos c4] at H; have c4b0 := beq_iff_eq.mpr c4; have c4b1 := bne_eq_false_iff_eq.mpr c4; clear c4; replace H := Option.bind_eq_some_iff.mp H; obtain ⟨t402, A50, H⟩ := H; (try dsimp only at H); have A5 := Aside0.mk A50; clear A50; by_cases c6 : a0_3 = true
  ·subst c6; rw [if_pos rfl] at H; exact absurd H (by simp)
  ·replace c6 := Bool.eq_false_iff.mpr c6; subst c6; rw [if_neg (show ¬ (false = true) by decide)] at H; have H' := Aside0.mk H; clear H; go_enter Tryz.func43, Tryz.ntmps43; go_wp2_with (first | ((with_reducible refine gate_dst (N := 2) rfl ?_); refine bx_ (#[.string a0_0, .int .i64 a0_1, .int .i64 a0_2, .bool false, .slice A0_4 l0_4.length c0_4]) 91 ?_; intro gb400 hg w7 hbox hb; have BK400 := Aside0.mk (hbox); have GW400 := Aside0.mk ((gs_ : w.heap.size ≤ gb400)); have GE400 := Aside0.mk ((gs_ : w.heap.size ≤ gb400)); replace HB := Aside0.mk (below_step b_ hb); clear hb hbox hg; obtain ⟨hcz8_0, hcz8_1, hcz8_2, hcz8_3, hcz8_4, hfz8_0, hfz8_1, hfz8_2, hfz8_3, hfz8_4⟩ := z5_ BK400.out) | ((with_reducible refine gate_callee (f := 65) rfl ?_); refine goesL_ (some 18) rfl rfl Tryz.func65 kl_ rfl #[.agg #[.string a0_0, .int .i64 a0_1, .int .i64 a0_2, .bool false, .slice A0_4 l0_4.length c0_4]] rfl ar_ ?_; (with_reducible refine (table_Check.calls k a0_0 a0_1 a0_2 false _ _ l0_4 t401 _ ?side1 ?side2 A3.out).mono ?_); (case side1 => repeat (first | exact (Kd.C_below HR0_4.out HB.out) | (with_reducible refine Kd.C_alloc ?_ _) | (with_reducible refine Kd.C_drewN ?_ _) | (with_reducible refine Kd.C_drew ?_))); (case side2 => exact HC0_4.out); rintro e w9 ⟨rfl, hb⟩; refine ⟨_, rfl, ?_⟩; replace BK400 := Aside0.mk (bb_ BK400.out hb); replace HB := Aside0.mk (below_step b_ hb); obtain ⟨hcz10_0, hcz10_1, hcz10_2, hcz10_3, hcz10_4, hfz10_0, hfz10_1, hfz10_2, hfz10_3, hfz10_4⟩ := z5_ BK400.out) | ((with_reducible refine gate_callee (f := 66) rfl ?_); refine goesL_ (some 22) rfl rfl Tryz.func66 kl_ rfl #[.agg #[.string a0_0, .int .i64 a0_1, .int .i64 a0_2, .bool false, .slice A0_4 l0_4.length c0_4], .int .i64 a1] rfl ar_ ?_; (with_reducible refine (table_fit.calls a0_0 a0_1 a0_2 false _ _ l0_4 a1 t402 _ ?side1 ?side2 A5.out).mono ?_); (case side1 => repeat (first | exact (Kd.C_below HR0_4.out HB.out) | (with_reducible refine Kd.C_alloc ?_ _) | (with_reducible refine Kd.C_drewN ?_ _) | (with_reducible refine Kd.C_drew ?_))); (case side2 => exact HC0_4.out); rintro e w11 ⟨rfl, hb⟩; refine ⟨_, rfl, ?_⟩; replace BK400 := Aside0.mk (bb_ BK400.out hb); replace HB := Aside0.mk (below_step b_ hb); obtain ⟨hcz12_0, hcz12_1, hcz12_2, hcz12_3, hcz12_4, hfz12_0, hfz12_1, hfz12_2, hfz12_3, hfz12_4⟩ := z5_ BK400.out)); go_loopg [5, 29] k (fun kq v5 v29 w' => ∃ (x5_1 : Int) (x29_1 : Int), v5 = .int .i64 x5_1 ∧ v29 = .int .i64 x29_1 ∧ Aside0 (table_At.l0 kq t402 x5_1 l0_4 (l0_4.length : Int) x29_1 = some r) ∧ Aside0 (kq ≤ k) ∧ Aside0 (w'.heap[gb400]? = some (.cells #[.string a0_0, .int .i64 a0_1, .int .i64 a0_2, .bool false, (.slice A0_4 l0_4.length c0_4)] 91 (0, 0))) ∧ Aside0 (Below w.heap.size w w'))
   case atStart => exact ⟨(0), (0), rf_, rf_, H', ⟨Nat.le_refl _⟩, ⟨kb_ BK400.out⟩, ⟨b_⟩⟩
   case round =>
    clear H'; (try clear p2); (try clear c4); (try clear c4b0); (try clear c4b1); (try clear c6); obtain ⟨x5_1, x29_1, rfl, rfl, HA, HK1, BK400, HB⟩ := hrel
    cases gk with
    | zero => exact absurd HA.out (by simp [table_At.l0])
    | succ k1 =>
     have H := HA.out; clear HA; simp only [table_At.l0] at H; by_cases c13 : x29_1 < (l0_4.length : Int)
     ·rw [if_pos c13] at H; have c13b0 := decide_eq_true c13; clear c13; by_cases c14 : 0 ≤ x29_1
      ·rw [if_pos c14] at H; have c14b0 := decide_eq_true c14; clear c14; by_cases c15 : x29_1 < (l0_4.length : Int)
       ·rw [if_pos c15] at H; have c15b0 := decide_eq_true c15; clear c15; by_cases c16 : ((rd_T108 l0_4 x29_1).f0) ≤ t402
        ·rw [if_pos c16] at H; have c16b0 := decide_eq_true c16; clear c16; have H' := Aside0.mk H; clear H; have p403 : 0 ≤ (x29_1 : Int) := of_decide_eq_true as_; have q403 : x29_1 < (l0_4.length : Int) := of_decide_eq_true as_; obtain ⟨ad403, e403, hx403_0, hx403_1⟩ := at_T108 HR0_4.out x29_1 p403 q403
         cases e403; replace hx403_0 := (HB.out.cell (World.block_lt_of_cell? w _ hx403_0)).trans hx403_0; replace hx403_1 := (HB.out.cell (World.block_lt_of_cell? w _ hx403_1)).trans hx403_1; replace p403 := eq_true p403; replace q403 := eq_true q403; go_wp2_with (first | ((with_reducible refine gate_dst (N := 7) rfl ?_); refine bx_ (#[.int .i64 0, .int .i64 0]) 108 ?_; intro gb404 hg w17 hbox hb; have BK404 := Aside0.mk (hbox); have GW404 := Aside0.mk ((gs_ : w.heap.size ≤ gb404)); have GE404 := Aside0.mk ((gs_ : w.heap.size ≤ gb404)); replace HB := Aside0.mk (below_step b_ hb); have NB400_404 := Aside0.mk ((nl_ BK400.out : gb400 ≠ gb404)); have NB404_400 := Aside0.mk ((ng_ BK400.out : gb404 ≠ gb400)); replace BK400 := Aside0.mk (bb_ BK400.out hb); clear hb hbox hg; have hnb18 := NB404_400.out; have hnc18 := NB400_404.out; obtain ⟨hcz19_0, hcz19_1, hfz19_0, hfz19_1⟩ := z2_ BK404.out)); go_roundg k1
         case measure => have := HK1.out; omega
         case rel => exact ⟨((rd_T108 l0_4 x29_1).f1), (wrap64 (x29_1 + 1)), rf_, rf_, H', ⟨by have := HK1.out; omega⟩, ⟨kf_ BK400.out⟩, ⟨b_⟩⟩
        ·rw [if_neg c16] at H; exact absurd H (by simp)
       ·rw [if_neg c15] at H; exact absurd H (by simp)
      ·rw [if_neg c14] at H; exact absurd H (by simp)
     ·rw [if_neg c13] at H; have c13b0 := decide_eq_false c13; clear c13; obtain rfl := Option.some.inj H; go_wp2; go_ret; exact ⟨re_, b_⟩
 ·rw [if_neg c4] at H; exact absurd H (by simp)
def moottop_h6told.f (k : Nat)  : Option (Bool) := (fact_One.f k 1 (⟨#[97]⟩ : ByteArray) 5 4 5 6 0).bind fun t410 => (if t410 = 0 then ((fact_At.f k (([(⟨1, (⟨#[97]⟩ : ByteArray), (⟨5, 4⟩ : S46), 5, 6, 0⟩ : S48)] : List (S48))) 1 (⟨#[97]⟩ : ByteArray) 5 0).bind fun bt414 => (if bt414.2 = 4 then ((table_At.f k (⟨#[116]⟩ : ByteArray) 2 5 false (([(⟨5, 3⟩ : S108)] : List (S108))) 7).bind fun t416 => (some (t416 == 3))) else (none))) else (none))
theorem moottop_h6told.calls (k : Nat)  (r : Bool) (w : World) (h : moottop_h6told.f k  = some r) :
  Calls Tryz.prog 22 #[] w fun e w' => e = .returned (.bool r) ∧ Below w.heap.size w w' := by
 have hu46 := Tryz.underlying46; have hu48 := Tryz.underlying48; have hu108 := Tryz.underlying108; have hu91 := Tryz.underlying91; have HB := Aside0.mk (Below.refl w.heap.size w); unfold moottop_h6told.f at h; have H := h; clear h; obtain ⟨y406, hy406⟩ : ∃ y_ : List (S108), y_ = (([(⟨5, 3⟩ : S108)] : List (S108))) := ⟨_, rfl⟩; replace H : ((fact_One.f k 1 (⟨#[97]⟩ : ByteArray) 5 4 5 6 0).bind fun t410 => (if t410 = 0 then ((fact_At.f k (([(⟨1, (⟨#[97]⟩ : ByteArray), (⟨5, 4⟩ : S46), 5, 6, 0⟩ : S48)] : List (S48))) 1 (⟨#[97]⟩ : ByteArray) 5 0).bind fun bt414 => (if bt414.2 = 4 then ((table_At.f k (⟨#[116]⟩ : ByteArray) 2 5 false y406 7).bind fun t416 => (some (t416 == 3))) else (none))) else (none))) = some r := rb_ hy406 H; have Ny406 := Aside0.mk hy406; clear hy406; replace H := Option.bind_eq_some_iff.mp H; obtain ⟨t410, A10, H⟩ := H; (try dsimp only at H); have A1 := Aside0.mk A10; clear A10; by_cases c2 : t410 = 0
 ·rw [if_pos c2] at H; have c2b0 := beq_iff_eq.mpr c2; have c2b1 := bne_eq_false_iff_eq.mpr c2; clear c2; obtain ⟨y411, hy411⟩ : ∃ y_ : List (S48), y_ = (([(⟨1, (⟨#[97]⟩ : ByteArray), (⟨5, 4⟩ : S46), 5, 6, 0⟩ : S48)] : List (S48))) := ⟨_, rfl⟩; replace H : ((fact_At.f k y411 1 (⟨#[97]⟩ : ByteArray) 5 0).bind fun bt414 => (if bt414.2 = 4 then ((table_At.f k (⟨#[116]⟩ : ByteArray) 2 5 false y406 7).bind fun t416 => (some (t416 == 3))) else (none))) = some r := rb_ hy411 H; have Ny411 := Aside0.mk hy411; clear hy411; replace H := Option.bind_eq_some_iff.mp H; obtain ⟨⟨t414, t415⟩, A30, H⟩ := H; (try dsimp only at H); have A3 := Aside0.mk A30; clear A30; by_cases c4 : t415 = 4
  ·rw [if_pos c4] at H; have c4b0 := beq_iff_eq.mpr c4; have c4b1 := bne_eq_false_iff_eq.mpr c4; clear c4; replace H := Option.bind_eq_some_iff.mp H; obtain ⟨t416, A50, H⟩ := H; (try dsimp only at H); have A5 := Aside0.mk A50; clear A50; obtain rfl := Option.some.inj H; go_enter Tryz.func22, Tryz.ntmps22; go_wp2_with (first | ((with_reducible refine gate_dst (N := 1) rfl ?_); (try (refine gate_guard (by rfl) ?_; dsimp only)); refine bx_ (#[.int .i64 0, .string (⟨#[]⟩ : ByteArray), .int .i64 0, .int .i64 0, .int .i64 0, .int .i64 0, .int .i64 0]) 48 ?_; intro gb405 hg w6 hbox hb; have BK405 := Aside0.mk (hbox); have GW405 := Aside0.mk ((gs_ : w.heap.size ≤ gb405)); have GE405 := Aside0.mk ((gs_ : w.heap.size ≤ gb405)); replace HB := Aside0.mk (below_step b_ hb); clear hb hbox hg; obtain ⟨hcz7_0, hcz7_1, hcz7_2, hcz7_3, hcz7_4, hcz7_5, hcz7_6, hfz7_0, hfz7_1, hfz7_2, hfz7_3, hfz7_4, hfz7_5, hfz7_6⟩ := z7_ BK405.out) | ((with_reducible refine gate_dst (N := 6) rfl ?_); (try (refine gate_guard (by rfl) ?_; dsimp only)); refine Kd.R_lit k108 _ 108 ?hg (N := 6) ?hd (xs := ([(⟨5, 3⟩ : S108)] : List (S108))) (inner := [.int .i64 5, .int .i64 3]) (ok := fun _ => True) (okp := fun _ => True) ?hr ?hp (fun _ hk => hk) trivial (Below.refl _ _) (Nat.le_refl _) (by simp) ?_; (case hd => rfl); (case hg => rfl); (case hr => first | (go_simp; done) | (go_simp; rfl)); (case hp => exact (Reps.c2 (show Kd.M k108 _ _ _ (⟨5, 3⟩ : S108) [.int .i64 5, .int .i64 3] from (k108_mkM _ _ _ (⟨5, 3⟩ : S108) )) (Reps.none _ _))); intro v407 w8 ho9 hb hg_ hnew_; clear hg_ hnew_; (first | rw [← Ny406.out] at ho9 | (simp only [Int.reduceToNat] at ho9; rw [← Ny406.out] at ho9)); have HO408 := Aside0.mk (Kd.R_lower ho9 (below_size b_)); replace BK405 := Aside0.mk (blk_below (g := gb405) (o := .cells #[.int .i64 1, .string (⟨#[97]⟩ : ByteArray), .int .i64 5, .int .i64 4, .int .i64 5, .int .i64 6, .int .i64 0] 48 (0, 0)) (bp_ BK405.out) hb); replace HB := Aside0.mk (below_step b_ hb); clear hb ho9; obtain ⟨Ao10, co10, eo10⟩ := Kd.R_slice HO408.out; subst eo10) | ((with_reducible refine gate_dst (N := 2) rfl ?_); (try (refine gate_guard (by rfl) ?_; dsimp only)); refine bx_ (#[.string (⟨#[]⟩ : ByteArray), .int .i64 0, .int .i64 0, .bool false, .slice none 0 0]) 91 ?_; intro gb409 hg w11 hbox hb; replace HO408 := Aside0.mk (Kd.R_below (kr_ HO408.out) hb); have BK409 := Aside0.mk (hbox); have GW409 := Aside0.mk ((gs_ : w.heap.size ≤ gb409)); have GE409 := Aside0.mk ((gs_ : w.heap.size ≤ gb409)); replace HB := Aside0.mk (below_step b_ hb); have NB405_409 := Aside0.mk ((nl_ BK405.out : gb405 ≠ gb409)); have NB409_405 := Aside0.mk ((ng_ BK405.out : gb409 ≠ gb405)); replace BK405 := Aside0.mk (bb_ BK405.out hb); clear hb hbox hg; have hnb12 := NB409_405.out; have hnc12 := NB405_409.out; have hcz13_0 := c0_ BK409.out; have hcz13_1 := c1_ BK409.out; have hcz13_2 := c2_ BK409.out; have hcz13_3 := c3_ BK409.out; have hcz13_4 := c4_ BK409.out; have hfz13_0 := blk_frozen BK409.out 0; have hfz13_1 := blk_frozen BK409.out 1; have hfz13_2 := blk_frozen BK409.out 2; have hfz13_3 := blk_frozen BK409.out 3; have hfz13_4 := blk_frozen BK409.out 4; have hcz14_0 := c0_ BK405.out; have hcz14_1 := c1_ BK405.out; have hcz14_2 := c2_ BK405.out; have hcz14_3 := c3_ BK405.out; have hcz14_4 := c4_ BK405.out; have hcz14_5 := c5_ BK405.out; have hcz14_6 := c6_ BK405.out; have hfz14_0 := blk_frozen BK405.out 0; have hfz14_1 := blk_frozen BK405.out 1; have hfz14_2 := blk_frozen BK405.out 2; have hfz14_3 := blk_frozen BK405.out 3; have hfz14_4 := blk_frozen BK405.out 4; have hfz14_5 := blk_frozen BK405.out 5; have hfz14_6 := blk_frozen BK405.out 6) | ((with_reducible refine gate_callee (f := 42) rfl ?_); refine goesL_ (some 9) rfl rfl Tryz.func42 kl_ rfl #[.agg #[.int .i64 1, .string (⟨#[97]⟩ : ByteArray), .int .i64 5, .int .i64 4, .int .i64 5, .int .i64 6, .int .i64 0]] rfl ar_ ?_; (with_reducible refine (fact_One.calls k 1 (⟨#[97]⟩ : ByteArray) 5 4 5 6 0 t410 _ A1.out).mono ?_); rintro e w15 ⟨rfl, hb⟩; refine ⟨_, rfl, ?_⟩; replace HO408 := Aside0.mk (Kd.R_below (by exact (Kd.R_mono (rz_ HO408.out BK409.out) (fun _ h_ => h_.1))) hb); replace BK405 := Aside0.mk (bb_ BK405.out hb); replace BK409 := Aside0.mk (blk_below (g := gb409) (o := .cells #[.string (⟨#[116]⟩ : ByteArray), .int .i64 2, .int .i64 5, .bool false, .slice Ao10 y406.length co10] 91 (0, 0)) (bp_ BK409.out) hb); replace HB := Aside0.mk (below_step b_ hb); obtain ⟨hcz16_0, hcz16_1, hcz16_2, hcz16_3, hcz16_4, hcz16_5, hcz16_6, hfz16_0, hfz16_1, hfz16_2, hfz16_3, hfz16_4, hfz16_5, hfz16_6⟩ := z7_ BK405.out) | ((with_reducible refine gate_dst (N := 13) rfl ?_); (try (refine gate_guard (by rfl) ?_; dsimp only)); refine Kd.R_lit k48 _ 48 ?hg (N := 13) ?hd (xs := ([(⟨1, (⟨#[97]⟩ : ByteArray), (⟨5, 4⟩ : S46), 5, 6, 0⟩ : S48)] : List (S48))) (inner := [.int .i64 1, .string (⟨#[97]⟩ : ByteArray), .int .i64 5, .int .i64 4, .int .i64 5, .int .i64 6, .int .i64 0]) (ok := fun _ => True) (okp := fun _ => True) ?hr ?hp (fun _ hk => hk) trivial (Below.refl _ _) (Nat.le_refl _) (by simp) ?_; (case hd => rfl); (case hg => rfl); (case hr => first | (go_simp; done) | (go_simp; rfl)); (case hp => exact (Reps.c7 (show Kd.M k48 _ _ _ (⟨1, (⟨#[97]⟩ : ByteArray), (⟨5, 4⟩ : S46), 5, 6, 0⟩ : S48) [.int .i64 1, .string (⟨#[97]⟩ : ByteArray), .int .i64 5, .int .i64 4, .int .i64 5, .int .i64 6, .int .i64 0] from (k48_mkM _ _ _ (⟨1, (⟨#[97]⟩ : ByteArray), (⟨5, 4⟩ : S46), 5, 6, 0⟩ : S48) )) (Reps.none _ _))); intro v412 w17 ho18 hb hg_ hnew_; clear hg_ hnew_; (first | rw [← Ny411.out] at ho18 | (simp only [Int.reduceToNat] at ho18; rw [← Ny411.out] at ho18)); replace HO408 := Aside0.mk (Kd.R_below (kr_ HO408.out) hb); have HO413 := Aside0.mk (Kd.R_lower (Kd.R_newB ho18 (g := gb405) (o := .cells #[.int .i64 1, .string (⟨#[97]⟩ : ByteArray), .int .i64 5, .int .i64 4, .int .i64 5, .int .i64 6, .int .i64 0] 48 (0, 0)) (kb_ BK405.out)) (below_size b_)); replace BK405 := Aside0.mk (bb_ BK405.out hb); replace BK409 := Aside0.mk (bb_ BK409.out hb); replace HB := Aside0.mk (below_step b_ hb); clear hb ho18; obtain ⟨Ao19, co19, eo19⟩ := Kd.R_slice HO413.out; subst eo19) | (go_at_call 24; (with_reducible refine (fact_At.calls k _ _ y411 1 (⟨#[97]⟩ : ByteArray) 5 0 t414 t415 _ ?side1 ?side2 A3.out).mono ?_); (case side1 => repeat (first | exact (Kd.R_reads' HO413.out).2.2 | (with_reducible refine Kd.C_alloc ?_ _) | (with_reducible refine Kd.C_drewN ?_ _) | (with_reducible refine Kd.C_drew ?_))); (case side2 => exact (Kd.R_reads' HO413.out).2.1); rintro e w20 ⟨rfl, hb⟩; replace HO408 := Aside0.mk (Kd.R_below (kr_ HO408.out) hb); replace HO413 := Aside0.mk (Kd.R_below (kr_ HO413.out) hb); replace BK405 := Aside0.mk (bb_ BK405.out hb); replace BK409 := Aside0.mk (bb_ BK409.out hb); replace HB := Aside0.mk (below_step b_ hb); obtain ⟨hcz21_0, hcz21_1, hcz21_2, hcz21_3, hcz21_4, hfz21_0, hfz21_1, hfz21_2, hfz21_3, hfz21_4⟩ := z5_ BK409.out) | (go_at_call 43; (with_reducible refine (table_At.calls k (⟨#[116]⟩ : ByteArray) 2 5 false _ _ y406 7 t416 _ ?side1 ?side2 A5.out).mono ?_); (case side1 => repeat (first | exact (Kd.R_reads' HO408.out).2.2 | (with_reducible refine Kd.C_alloc ?_ _) | (with_reducible refine Kd.C_drewN ?_ _) | (with_reducible refine Kd.C_drew ?_))); (case side2 => exact (Kd.R_reads' HO408.out).2.1); rintro e w22 ⟨rfl, hb⟩; replace HO408 := Aside0.mk (Kd.R_below (kr_ HO408.out) hb); replace HO413 := Aside0.mk (Kd.R_below (kr_ HO413.out) hb); replace BK405 := Aside0.mk (bb_ BK405.out hb); replace BK409 := Aside0.mk (bb_ BK409.out hb); replace HB := Aside0.mk (below_step b_ hb))); go_ret; exact ⟨re_, b_⟩
  ·rw [if_neg c4] at H; exact absurd H (by simp)
 ·rw [if_neg c2] at H; exact absurd H (by simp)
instance key_Sort.inh : Inhabited (S68) := ⟨z68⟩
theorem key_Sort.bl_irrefl : ∀ x : List UInt8, Op.bytesLess x x = false
 | [] => rfl
 | a :: x => by
  unfold Op.bytesLess
  have := key_Sort.bl_irrefl x
  simp [this]
theorem key_Sort.bl_trans : ∀ x y z : List UInt8, Op.bytesLess x y = true → Op.bytesLess y z = true → Op.bytesLess x z = true
 | x, [], z, h1, _ => by cases x <;> simp [Op.bytesLess] at h1
 | x, b :: y, [], _, h2 => by simp [Op.bytesLess] at h2
 | [], b :: y, c :: z, _, _ => rfl
 | a :: x, b :: y, c :: z, h1, h2 => by
  have ih := key_Sort.bl_trans x y z
  unfold Op.bytesLess at h1 h2 ⊢
  simp only [Bool.or_eq_true, decide_eq_true_eq, Bool.and_eq_true, beq_iff_eq] at h1 h2 ⊢
  rcases h1 with h1 | ⟨rfl, h1⟩
  ·rcases h2 with h2 | ⟨rfl, h2⟩
   ·exact .inl (UInt8.lt_trans h1 h2)
   ·exact .inl h1
  ·rcases h2 with h2 | ⟨rfl, h2⟩
   ·exact .inl h2
   ·exact .inr ⟨rfl, ih h1 h2⟩
theorem key_Sort.bl_tri : ∀ x y : List UInt8, Op.bytesLess x y = false → Op.bytesLess y x = false → x = y
 | [], [], _, _ => rfl
 | [], b :: y, h, _ => by simp [Op.bytesLess] at h
 | a :: x, [], _, h => by simp [Op.bytesLess] at h
 | a :: x, b :: y, h1, h2 => by
  have ih := key_Sort.bl_tri x y
  unfold Op.bytesLess at h1 h2
  simp only [Bool.or_eq_false_iff, decide_eq_false_iff_not, Bool.and_eq_false_iff, beq_eq_false_iff_ne] at h1 h2
  have e : a = b := UInt8.le_antisymm (UInt8.not_lt.1 h2.1) (UInt8.not_lt.1 h1.1)
  subst e
  rw [ih (h1.2.resolve_left (fun h => h rfl)) (h2.2.resolve_left (fun h => h rfl))]
theorem key_Sort.bl_ntrans (x y z : List UInt8) (h1 : Op.bytesLess x y = false) (h2 : Op.bytesLess y z = false) : Op.bytesLess x z = false := by
 cases hxz : Op.bytesLess x z with
 | false => rfl
 | true =>
  cases hzy : Op.bytesLess z y with
  | true => rw [key_Sort.bl_trans x z y hxz hzy] at h1; cases h1
  | false =>
   have e := key_Sort.bl_tri y z h2 hzy; rw [← e, h1] at hxz
   cases hxz
def key_Sort.sc (a b : ByteArray) : Int := if Op.bytesLess a.toList b.toList = true then -1 else if (!(Op.bytesLess a.toList b.toList || a.toList == b.toList)) = true then 1 else 0
theorem key_Sort.sc_lt (a b : ByteArray) : key_Sort.sc a b < 0 ↔ Op.bytesLess a.toList b.toList = true := by
 unfold key_Sort.sc; split
 ·rename_i h; exact ⟨fun _ => h, fun _ => by omega⟩
 ·rename_i h; split <;> exact ⟨fun h' => by omega, fun h' => absurd h' h⟩
theorem key_Sort.gtr (a b : ByteArray) (w : World) : (binOp BinOp.gtr 9 (Value.string a) (Value.string b)).run Tryz.prog w = .ok (.bool (!(Op.bytesLess a.toList b.toList || a.toList == b.toList))) w := rfl
theorem key_Sort.nan (a : ByteArray) (w : World) : Calls Tryz.prog 75 #[.string a] w fun e w' => e = .returned (.bool false) ∧ w' = w := by
 have h : (!(a.toList == a.toList)) = false := by simp
 go_enter Tryz.func75, Tryz.ntmps75; go_wp2; go_ret; exact ⟨by first | rfl | rw [h], rfl⟩
theorem key_Sort.cms (a b : ByteArray) (w : World) : Calls Tryz.prog 48 #[.string a, .string b] w fun e w' => e = .returned (.int .i64 (key_Sort.sc a b)) ∧ w' = w := by
 have h1 := key_Sort.nan; unfold key_Sort.sc; go_enter Tryz.func48, Tryz.ntmps48
 cases c1 : Op.bytesLess a.toList b.toList with
 | true =>
  go_wp2_with (go_at_call 75; (with_reducible refine (h1 _ _).mono ?_); rintro e w9 ⟨rfl, rfl⟩); go_ret; exact ⟨rfl, rfl⟩
 | false =>
  cases c2 : (a.toList == b.toList) with
  | true =>
   have hg := fun w => key_Sort.gtr a b w; simp only [c1, c2, Bool.or_true, Bool.not_true] at hg; go_wp2_with (go_at_call 75; (with_reducible refine (h1 _ _).mono ?_); rintro e w9 ⟨rfl, rfl⟩); go_ret; exact ⟨rfl, rfl⟩
  | false =>
   have hg := fun w => key_Sort.gtr a b w; simp only [c1, c2, Bool.or_false, Bool.not_false] at hg; go_wp2_with (go_at_call 75; (with_reducible refine (h1 _ _).mono ?_); rintro e w9 ⟨rfl, rfl⟩); go_ret; exact ⟨rfl, rfl⟩
def key_Sort.ic (a b : Int) : Int := if a < b then -1 else if b < a then 1 else 0
def key_Sort.or2 (a b : Int) : Int := if a = 0 then b else a
def key_Sort.cf (x y : S68) : Int := key_Sort.or2 (key_Sort.ic x.f0 y.f0) (key_Sort.sc x.f1 y.f1)
def key_Sort.srt (l : List (S68)) : List (S68) := (Sort.pdq (ltOf key_Sort.cf) l.toArray 0 l.length (Lib.bitLen l.length) true true).toList
def key_Sort.f (l0 : List (S68)) : Option (List (S68)) := if l0.length = 0 then some [] else if l0.length ≤ 1000000 then some (key_Sort.srt l0) else none
def key_Sort.ren : Go.Shelf.Ren := ⟨fun | 6 => 44 | 15 => 73 | 14 => 72 | 28 => 104 | 29 => 105 | 20 => 96 | 21 => 97 | 22 => 98 | 23 => 99 | 24 => 100 | 25 => 101 | 26 => 102 | 27 => 103 | 46 => 151 | 47 => 152 | 48 => 153 | 49 => 154 | 50 => 155 | 57 => 185 | n => n, fun | 22 => 65 | 24 => 68 | 25 => 114 | 3 => 3 | 39 => 154 | 0 => 0 | 53 => 182 | 55 => 27 | 4 => 4 | 46 => 176 | 45 => 175 | 50 => 160 | 5 => 5 | 9 => 9 | 66 => 215 | 70 => 219 | 76 => 247 | 77 => 57 | n => n, fun | n => n⟩
theorem key_Sort.lays : Go.Proofs.SlLaysF0.n6 Tryz.prog key_Sort.ren := {
 mixed := kl_
 f6 := ⟨Tryz.f44.name, by decide, Tryz.func44.trans (congrArg some kl_)⟩
 f14 := ⟨Tryz.f72.name, by decide, Tryz.func72.trans (congrArg some kl_)⟩
 f15 := Tryz.func73.trans (congrArg some kl_)
 f20 := ⟨Tryz.f96.name, by decide, Tryz.func96.trans (congrArg some kl_)⟩
 f21 := ⟨Tryz.f97.name, by decide, Tryz.func97.trans (congrArg some kl_)⟩
 f22 := ⟨Tryz.f98.name, by decide, Tryz.func98.trans (congrArg some kl_)⟩
 f23 := ⟨Tryz.f99.name, by decide, Tryz.func99.trans (congrArg some kl_)⟩
 f24 := ⟨Tryz.f100.name, by decide, Tryz.func100.trans (congrArg some kl_)⟩
 f25 := ⟨Tryz.f101.name, by decide, Tryz.func101.trans (congrArg some kl_)⟩
 f26 := ⟨Tryz.f102.name, by decide, Tryz.func102.trans (congrArg some kl_)⟩
 f27 := ⟨Tryz.f103.name, by decide, Tryz.func103.trans (congrArg some kl_)⟩
 f28 := Tryz.func104.trans (congrArg some kl_)
 f29 := Tryz.func105.trans (congrArg some kl_)
 f46 := ⟨Tryz.f151.name, by decide, Tryz.func151.trans (congrArg some kl_)⟩
 f47 := Tryz.func152.trans (congrArg some kl_)
 f48 := Tryz.func153.trans (congrArg some kl_)
 f49 := ⟨Tryz.f154.name, by decide, Tryz.func154.trans (congrArg some kl_)⟩
 f50 := ⟨Tryz.f155.name, by decide, Tryz.func155.trans (congrArg some kl_)⟩
 f57 := ⟨Tryz.f185.name, by decide, Tryz.func185.trans (congrArg some kl_)⟩
 t0 := Tryz.underlying0
 a0 := Tryz.isAgg0
 z0 := Tryz.sizeOf0
 v0 := Tryz.zeroValue0
 t3 := Tryz.underlying3
 a3 := Tryz.isAgg3
 z3 := Tryz.sizeOf3
 v3 := Tryz.zeroValue3
 t4 := Tryz.underlying4
 a4 := Tryz.isAgg4
 z4 := Tryz.sizeOf4
 v4 := Tryz.zeroValue4
 t5 := Tryz.underlying5
 a5 := Tryz.isAgg5
 z5 := Tryz.sizeOf5
 v5 := Tryz.zeroValue5
 t9 := Tryz.underlying9
 a9 := Tryz.isAgg9
 z9 := Tryz.sizeOf9
 v9 := Tryz.zeroValue9
 t22 := Tryz.underlying65
 a22 := Tryz.isAgg65
 z22 := Tryz.sizeOf65
 v22 := Tryz.zeroValue65
 t25 := Tryz.underlying114
 a25 := Tryz.isAgg114
 z25 := Tryz.sizeOf114
 v25 := Tryz.zeroValue114
 t39 := Tryz.underlying154
 a39 := Tryz.isAgg154
 z39 := Tryz.sizeOf154
 v39 := Tryz.zeroValue154
 t45 := Tryz.underlying175
 a45 := Tryz.isAgg175
 z45 := Tryz.sizeOf175
 v45 := Tryz.zeroValue175
 t46 := Tryz.underlying176
 a46 := Tryz.isAgg176
 z46 := Tryz.sizeOf176
 v46 := Tryz.zeroValue176
 t50 := Tryz.underlying160
 a50 := Tryz.isAgg160
 z50 := Tryz.sizeOf160
 v50 := Tryz.zeroValue160
 t53 := Tryz.underlying182
 a53 := Tryz.isAgg182
 z53 := Tryz.sizeOf182
 v53 := Tryz.zeroValue182
 t55 := Tryz.underlying27
 a55 := Tryz.isAgg27
 z55 := Tryz.sizeOf27
 v55 := Tryz.zeroValue27
 t66 := Tryz.underlying215
 a66 := Tryz.isAgg215
 z66 := Tryz.sizeOf215
 v66 := Tryz.zeroValue215
 t70 := Tryz.underlying219
 a70 := Tryz.isAgg219
 z70 := Tryz.sizeOf219
 v70 := Tryz.zeroValue219
 t76 := Tryz.underlying247
 a76 := Tryz.isAgg247
 z76 := Tryz.sizeOf247
 v76 := Tryz.zeroValue247
 t77 := Tryz.underlying57
 a77 := Tryz.isAgg57
 z77 := Tryz.sizeOf57
 v77 := Tryz.zeroValue57 }
def key_Sort.enc (s : S68) : List Value := [.int .i64 s.f0, .string s.f1]
theorem key_Sort.cf_lt (x y : S68) : key_Sort.cf x y < 0 ↔ (x.f0 < y.f0 ∨ (x.f0 = y.f0 ∧ Op.bytesLess x.f1.toList y.f1.toList = true)) := by
 unfold key_Sort.cf key_Sort.or2 key_Sort.ic; have h := key_Sort.sc_lt x.f1 y.f1; by_cases h1 : x.f0 < y.f0
 ·rw [if_pos h1, if_neg (by omega)]; exact ⟨fun _ => .inl h1, fun _ => by omega⟩
 ·rw [if_neg h1]; by_cases h2 : y.f0 < x.f0
  ·rw [if_pos h2, if_neg (by omega)]; exact ⟨fun h' => by omega, fun h' => by omega⟩
  ·rw [if_neg h2, if_pos rfl, h]; exact ⟨fun h' => .inr ⟨by omega, h'⟩, fun h' => h'.elim (fun h' => absurd h' h1) (·.2)⟩
theorem key_Sort.swo : Sort.SWO (ltOf key_Sort.cf) where
 irrefl x := by unfold ltOf; rw [decide_eq_false_iff_not, key_Sort.cf_lt, key_Sort.bl_irrefl]; simp
 trans x y z h1 h2 := by
  unfold ltOf at *; rw [decide_eq_true_eq, key_Sort.cf_lt] at *; have := key_Sort.bl_trans x.f1.toList y.f1.toList z.f1.toList; rcases h1 with h1 | ⟨h1, h1'⟩ <;> rcases h2 with h2 | ⟨h2, h2'⟩
  ·exact .inl (by omega)
  ·exact .inl (by omega)
  ·exact .inl (by omega)
  ·exact .inr ⟨by omega, this h1' h2'⟩
 ntrans x y z h1 h2 := by
  unfold ltOf at *; rw [decide_eq_false_iff_not, key_Sort.cf_lt] at *; intro h; rcases h with h | ⟨h, h'⟩
  ·exact h1 (.inl (Decidable.byContradiction fun h3 => h2 (.inl (by omega))))
  ·have a : ¬ x.f0 < y.f0 := fun h3 => h1 (.inl h3); have b : ¬ y.f0 < z.f0 := fun h3 => h2 (.inl h3); have c := key_Sort.bl_ntrans x.f1.toList y.f1.toList z.f1.toList (Bool.eq_false_iff.2 fun h3 => h1 (.inr ⟨by omega, h3⟩)) (Bool.eq_false_iff.2 fun h3 => h2 (.inr ⟨by omega, h3⟩)); rw [c] at h'
   cases h'
theorem key_Sort.cell_old {w : World} {ad : Addr} {v : Value} (h : w.cell? ad = some v) (o : Obj) : (w.alloc o).cell? ad = some v := ((below_alloc (Below.refl w.heap.size w) o).cell (World.block_lt_of_cell? w _ h)).trans h
theorem key_Sort.nani (a : Int) (w : World) : Calls Tryz.prog 74 #[.int .i64 a] w fun e w' => e = .returned (.bool false) ∧ w' = w := by
 have h : (!(a == a)) = false := by simp
 go_enter Tryz.func74, Tryz.ntmps74; go_wp2; go_ret; exact ⟨by first | rfl | rw [h], rfl⟩
theorem key_Sort.cmi (a b : Int) (w : World) : Calls Tryz.prog 47 #[.int .i64 a, .int .i64 b] w fun e w' => e = .returned (.int .i64 (key_Sort.ic a b)) ∧ w' = w := by
 have h1 := key_Sort.nani; unfold key_Sort.ic; go_enter Tryz.func47, Tryz.ntmps47; by_cases c1 : a < b
 ·have c2 : decide (a < b) = true := decide_eq_true c1; rw [if_pos c1]; go_wp2_with (go_at_call 74; (with_reducible refine (h1 _ _).mono ?_); rintro e w9 ⟨rfl, rfl⟩); go_ret; exact ⟨rfl, rfl⟩
 ·have c2 : decide (a < b) = false := decide_eq_false c1; rw [if_neg c1]; by_cases c3 : b < a
  ·have c4 : decide (b < a) = true := decide_eq_true c3; have c5 : decide (a > b) = true := decide_eq_true c3; rw [if_pos c3]; go_wp2_with (go_at_call 74; (with_reducible refine (h1 _ _).mono ?_); rintro e w9 ⟨rfl, rfl⟩); go_ret; exact ⟨rfl, rfl⟩
  ·have c4 : decide (b < a) = false := decide_eq_false c3; have c5 : decide (a > b) = false := decide_eq_false c3; rw [if_neg c3]; go_wp2_with (go_at_call 74; (with_reducible refine (h1 _ _).mono ?_); rintro e w9 ⟨rfl, rfl⟩); go_ret; exact ⟨rfl, rfl⟩
theorem key_Sort.cor (w : World) (a b : Int) : Calls Tryz.prog 46 #[.slice (some ⟨w.heap.size, 0, none⟩) 2 2] (w.alloc (.cells #[.int .i64 a, .int .i64 b] 3)) fun e w' => e = .returned (.int .i64 (key_Sort.or2 a b)) ∧ w' = w.alloc (.cells #[.int .i64 a, .int .i64 b] 3) := by
 have hb := blk_new w (.cells #[.int .i64 a, .int .i64 b] 3); generalize w.heap.size = g at hb ⊢; generalize w.alloc (.cells #[.int .i64 a, .int .i64 b] 3) = W at hb ⊢; have h0 : W.cell? ⟨g, 0, none⟩ = some (.int .i64 a) := blk_cell hb 0; have h1 : W.cell? ⟨g, 1, none⟩ = some (.int .i64 b) := blk_cell hb 1; have HH := Aside0.mk (And.intro h0 h1); clear h0 h1 hb; go_enter Tryz.func46, Tryz.ntmps46; go_wp2; go_loopg [8] 2 (fun kq v8 w' => ∃ i : Int, v8 = .int .i64 i ∧ Aside0 (0 ≤ i ∧ (kq : Int) + i = 2 ∧ (0 < i → a = 0) ∧ (1 < i → b = 0)) ∧ Aside0 (w' = W))
 case atStart => exact ⟨0, rfl, ⟨by omega, by omega, by omega, by omega⟩, ⟨rfl⟩⟩
 case round =>
  obtain ⟨i, rfl, HJ, HW⟩ := hrel
  cases gk with
  | zero =>
   obtain rfl : i = 2 := by have := HJ.out; omega
   go_wp2; go_ret; exact ⟨by rw [HJ.out.2.2.1 (by omega), HJ.out.2.2.2 (by omega)]; rfl, HW.out⟩
  | succ k1 =>
   rcases (show i = 0 ∨ i = 1 by have := HJ.out; omega) with rfl | rfl
   ·have h0 : wr.cell? ⟨g, 0, none⟩ = some (.int .i64 a) := by rw [HW.out]; exact HH.out.1
    by_cases ha : a = 0
    ·have c4 : (a == 0) = true := beq_iff_eq.2 ha; have HA := Aside0.mk ha; clear ha; go_wp2; go_roundg k1
     case measure => omega
     case rel => exact ⟨1, rfl, ⟨by omega, by have := HJ.out; omega, fun _ => HA.out, by omega⟩, HW⟩
    ·have c4 : (a == 0) = false := beq_eq_false_iff_ne.2 ha; have HA := Aside0.mk ha; clear ha; go_wp2; go_ret; exact ⟨by unfold key_Sort.or2; rw [if_neg HA.out]; rfl, HW.out⟩
   ·have h1 : wr.cell? ⟨g, 1, none⟩ = some (.int .i64 b) := by rw [HW.out]; exact HH.out.2
    have HA := Aside0.mk (HJ.out.2.2.1 (by omega)); by_cases ha : b = 0
    ·have c4 : (b == 0) = true := beq_iff_eq.2 ha; have HB := Aside0.mk ha; clear ha; go_wp2; go_roundg k1
     case measure => omega
     case rel => exact ⟨2, rfl, ⟨by omega, by have := HJ.out; omega, fun _ => HA.out, fun _ => HB.out⟩, HW⟩
    ·have c4 : (b == 0) = false := beq_eq_false_iff_ne.2 ha; clear ha; go_wp2; go_ret; exact ⟨by unfold key_Sort.or2; rw [if_pos HA.out]; rfl, HW.out⟩
theorem key_Sort.clo (x y : S68) (W : World) : Calls Tryz.prog 45 #[.agg #[.int .i64 x.f0, .string x.f1], .agg #[.int .i64 y.f0, .string y.f1]] W fun e w' => e = .returned (.int .i64 (key_Sort.cf x y)) ∧ ∃ q os', w' = Sort.grow (W.drewN q) os' := by
 go_enter Tryz.func45, Tryz.ntmps45; go_upto_region 1 with (fail); (try simp only [Act.put, List.setIfInBounds_toArray, List.set_cons_zero, List.set_cons_succ]); have hW : ((W.alloc (.cells #[.int .i64 x.f0, .string x.f1] 68)).alloc (.cells #[.int .i64 y.f0, .string y.f1] 68)).drew = Sort.grow (W.drewN 1) #[.cells #[.int .i64 x.f0, .string x.f1] 68, .cells #[.int .i64 y.f0, .string y.f1] 68] := by rw [Sort.alloc_eq_grow, Sort.alloc_eq_grow, Sort.grow_grow]; rfl
 have hx := (((below_alloc (Below.refl _ _) (.cells #[.int .i64 y.f0, .string y.f1] 68)).block _ (blk_lt (blk_new W (.cells #[.int .i64 x.f0, .string x.f1] 68)))).trans (blk_new W (.cells #[.int .i64 x.f0, .string x.f1] 68))); have hy := blk_new (W.alloc (.cells #[.int .i64 x.f0, .string x.f1] 68)) (.cells #[.int .i64 y.f0, .string y.f1] 68); replace hx : ((W.alloc (.cells #[.int .i64 x.f0, .string x.f1] 68)).alloc (.cells #[.int .i64 y.f0, .string y.f1] 68)).drew.heap[W.heap.size]? = _ := hx; replace hy : ((W.alloc (.cells #[.int .i64 x.f0, .string x.f1] 68)).alloc (.cells #[.int .i64 y.f0, .string y.f1] 68)).drew.heap[(W.alloc (.cells #[.int .i64 x.f0, .string x.f1] 68)).heap.size]? = _ := hy; have hs : (W.alloc (.cells #[.int .i64 x.f0, .string x.f1] 68)).heap.size = W.heap.size + 1 := Array.size_push ..; rw [hs] at hy; clear hs; generalize hD : ((W.alloc (.cells #[.int .i64 x.f0, .string x.f1] 68)).alloc (.cells #[.int .i64 y.f0, .string y.f1] 68)).drew = wD at hx hy hW; generalize W.heap.size = ga at hx hy ⊢; have HW := Aside0.mk hW; clear hW; have hc0 : wD.cell? ⟨ga, 0, none⟩ = some (.int .i64 x.f0) := blk_cell hx 0; have hc1 : wD.cell? ⟨ga + 1, 0, none⟩ = some (.int .i64 y.f0) := blk_cell hy 0; have hc2 : wD.cell? ⟨ga, 1, none⟩ = some (.string x.f1) := blk_cell hx 1; have hc3 : wD.cell? ⟨ga + 1, 1, none⟩ = some (.string y.f1) := blk_cell hy 1; have cell_old := fun {w : World} {ad : Addr} {v : Value} (h : w.cell? ad = some v) (o : Obj) => key_Sort.cell_old h o; refine start_ (n := 13) (S := fun w' => w'.cell? ⟨ga, 0, none⟩ = some (.int .i64 x.f0) ∧ w'.cell? ⟨ga + 1, 0, none⟩ = some (.int .i64 y.f0) ∧ w'.cell? ⟨ga, 1, none⟩ = some (.string x.f1) ∧ w'.cell? ⟨ga + 1, 1, none⟩ = some (.string y.f1)) (ds := []) #[false, false, false, false, false, false, false, false, false, false, false, false, false] kl_ rfl rfl (by rw [hD]; exact ⟨hc0, hc1, hc2, hc3⟩) (fun hHeld => ?_); rw [hD] at hHeld ⊢; refine pu_ 0 5 ?_; refine tk_ 1 6 hHeld ?_; refine pu_ 2 7 ?_; refine tk_ 3 8 hHeld ?_; refine pu_ 5 10 ?_; refine tk_ 6 11 hHeld ?_; refine pu_ 7 12 ?_; refine tk_ 8 13 hHeld ?_; refine one_ (i := 4) (N := some 9) #[true, true, true, true, true, true, true, true, true, false, false, false, false] rfl rfl kl_ (by decide) (fun K hK => ?_); refine goes_ Tryz.func47 kl_ rfl #[.int .i64 x.f0, .int .i64 y.f0] (by rfl) rfl rfl ar_ ?_; refine (key_Sort.cmi x.f0 y.f0 wD).mono ?_; rintro e wk ⟨rfl, rfl⟩; refine ⟨_, rfl, ?_⟩; refine hK.out _ _ ⟨hc0, hc1, hc2, hc3⟩ (fun hHeld => ?_); clear hK K; refine one_ (i := 9) (N := some 14) #[true, true, true, true, true, true, true, true, true, true, false, false, false] rfl rfl kl_ (by decide) (fun K hK => ?_); refine goes_ Tryz.func48 kl_ rfl #[.string x.f1, .string y.f1] (by rfl) rfl rfl ar_ ?_; refine (key_Sort.cms x.f1 y.f1 wk).mono ?_; rintro e wl ⟨rfl, rfl⟩; refine ⟨_, rfl, ?_⟩; refine hK.out _ _ ⟨hc0, hc1, hc2, hc3⟩ (fun hHeld => ?_); clear hK K; refine one_ (i := 10) (N := some 15) #[true, true, true, true, true, true, true, true, true, true, true, false, false] rfl rfl kl_ (by decide) (fun K hK => ?_); refine value_ (v := .slice (some ⟨wl.heap.size, 0, none⟩) 2 2) (w1 := wl.alloc (.cells #[.int .i64 (key_Sort.ic x.f0 y.f0), .int .i64 (key_Sort.sc x.f1 y.f1)] 3)) (by rfl) rfl ?_ ?_
 ·first | (go_simp; done) | (go_simp; rfl)
 refine hK.out _ _ ⟨cell_old hc0 _, cell_old hc1 _, cell_old hc2 _, cell_old hc3 _⟩ (fun hHeld => ?_); clear hK K; refine one_ (i := 11) (N := some 16) #[true, true, true, true, true, true, true, true, true, true, true, true, false] rfl rfl kl_ (by decide) (fun K hK => ?_); refine goes_ Tryz.func46 kl_ rfl #[.slice (some ⟨wl.heap.size, 0, none⟩) 2 2] (by rfl) rfl rfl ar_ ?_; refine (key_Sort.cor wl (key_Sort.ic x.f0 y.f0) (key_Sort.sc x.f1 y.f1)).mono ?_; rintro e wm ⟨rfl, rfl⟩; refine ⟨_, rfl, ?_⟩; refine hK.out _ _ ⟨cell_old hc0 _, cell_old hc1 _, cell_old hc2 _, cell_old hc3 _⟩ (fun hHeld => ?_); clear hK K; refine pu_ 12 4 ?_; refine done_ kl_ ?_; go_wp2; go_ret; refine ⟨?_, 1, _, by rw [HW.out, Sort.alloc_eq_grow, Sort.grow_grow]⟩; unfold key_Sort.cf; rfl
theorem key_Sort.sw_g {w : World} {g n : Nat} {os : Array Obj} {cur : Array Value} {e : TypeId} {fr : Nat × Nat} (d : Array Value) (hb : w.heap[g]? = some (.cells cur e fr)) :
  (sortWorld id w g 0 n d os).heap[g]? = some (.cells (Sort.putCells id 0 d cur) e fr) := by
 have hg : g < w.heap.size := (Array.getElem?_eq_some_iff.1 hb).1; unfold sortWorld; rw [Sort.heap_grow_old _ _ (by simpa [Sort.putRow, Sort.mapBlock, Sort.ahead] using hg)]; simp [Sort.putRow, Sort.mapBlock, Sort.ahead, Array.getElem?_modify, hb, Sort.onCells]
theorem key_Sort.sw_grown {w : World} {g n : Nat} {os : Array Obj} (d : Array Value) : w.grownBy (sortWorld id w g 0 n d os) (some g) := by
 unfold sortWorld; refine ⟨rfl, rfl, rfl, by simp [Sort.grow, Sort.putRow, Sort.mapBlock, Sort.ahead], fun k hk hne => ?_⟩; rw [Sort.heap_grow_old _ _ (by simpa [Sort.putRow, Sort.mapBlock, Sort.ahead] using hk)]; have : g ≠ k := fun e => hne (by rw [e]); simp [Sort.putRow, Sort.mapBlock, Sort.ahead, Array.getElem?_modify, this]
theorem key_Sort.put_take (cur : Array Value) (d : Array Value) (h : d.size ≤ cur.size) : (Sort.putCells id 0 d cur).toList.take d.size = d.toList := by
 apply List.ext_getElem?; intro j; by_cases hj : j < d.size
 ·rw [List.getElem?_take_of_lt hj, Array.getElem?_toList]; simp [Sort.putCells, hj, show j < cur.size by omega]
 ·rw [List.getElem?_take_eq_none (by omega), List.getElem?_eq_none (by simp; omega)]
theorem key_Sort.flat_size (d : Array (S68)) : (Sort.flatK key_Sort.enc 2 d).size = d.size * 2 := Sort.size_flatK _ _ _
theorem key_Sort.flat_at (d : Array (S68)) (j : Nat) (hj : j < d.size) : ((Sort.flatK key_Sort.enc 2 d).toList.drop (j * 2)).take 2 = key_Sort.enc d[j] := by
 have h0 : (Sort.flatK key_Sort.enc 2 d).toList.length = d.size * 2 := by rw [Array.length_toList, key_Sort.flat_size]
 have g : ∀ t, (ht : t < d.size * 2) → (Sort.flatK key_Sort.enc 2 d).toList[t]? = some ((key_Sort.enc d[t / 2]!)[t % 2]!) := by
  intro t ht; have := Sort.get_flatK key_Sort.enc 2 d t ht; rw [Array.getElem?_toList, Array.getElem?_eq_getElem (by rw [key_Sort.flat_size]; exact ht), ← this, getElem!_pos _ t (by rw [key_Sort.flat_size]; exact ht)]
 apply List.ext_getElem?; intro i; by_cases hi : i < 2
 ·rw [List.getElem?_take_of_lt hi, List.getElem?_drop, g (j * 2 + i) (by omega), show (j * 2 + i) / 2 = j by omega, show (j * 2 + i) % 2 = i by omega, getElem!_pos d j hj]; rcases (show i = 0 ∨ i = 1 by omega) with rfl | rfl <;> rfl
 ·rw [List.getElem?_take_eq_none (by omega), List.getElem?_eq_none (by show 2 ≤ i; omega)]
theorem key_Sort.calls (P0_ : Nat → Prop) (u9000_ : Value) (l0 : List (S68)) (r : List (S68)) (w0 w : World) (hB : Below w0.heap.size w0 w) (ho0 : Kd.R k68 68 w w0.heap.size P0_ u9000_ l0) (h : key_Sort.f l0 = some r) :
  Calls Tryz.prog 44 #[u9000_, .func (.func 45) #[] #[]] w fun e w' => e = .returned (.tuple #[]) ∧ Kd.R k68 68 w' w0.heap.size (fun k_ => (P0_ k_ ∨ w.heap.size ≤ k_)) u9000_ r ∧ Below w0.heap.size w0 w' ∧ Kept w w' (fun k_ => P0_ k_) := by
 unfold key_Sort.f at h; by_cases h0 : l0.length = 0
 ·rw [if_pos h0] at h; obtain rfl := Option.some.inj h; obtain rfl := List.eq_nil_of_length_eq_zero h0; have hro := Kd.R_mono (ok' := fun k_ => (P0_ k_ ∨ w.heap.size ≤ k_)) ho0 (fun k hk => .inl hk); obtain ⟨A, c, rfl⟩ := Kd.R_slice ho0; refine (AnyF.slices_SortFunc_none key_Sort.lays A c _ w).mono ?_; rintro e w' ⟨rfl, rfl⟩; exact ⟨rfl, hro, hB, Kept.refl _ _⟩
 ·rw [if_neg h0] at h; by_cases hc : l0.length ≤ 1000000
  ·rw [if_pos hc] at h; obtain rfl := Option.some.inj h; have hl := hc; obtain ⟨hP0, inner, hown, hreps⟩ := ho0; rcases hown.2 with ⟨_, hn0⟩ | ⟨g, cap, cur, hu, hbase, hb, h1, h2, h3, h4⟩
   ·exact absurd hn0 h0
   ·subst hu; have hP : P0_ g := hP0 g rfl; have hgs : g < w.heap.size := (Array.getElem?_eq_some_iff.1 hb).1; have h3' : cur.size = cap * 2 := h3; have h4' : cur.toList.take (l0.length * 2) = inner := h4; have hkept : ∀ (n : Nat) (d : Array Value) (os : Array Obj), Kept w (sortWorld id w g 0 n d os) (fun k_ => P0_ k_) := fun n d os =>
     ⟨(key_Sort.sw_grown d).size, fun i hi hn => (key_Sort.sw_grown d).block i hi (fun e => hn (by rw [Option.some.inj e]; exact hP))⟩
    have hH : Sort.HoldsK key_Sort.enc 2 w g 0 l0.toArray := by
     intro j hj; rw [key_Sort.flat_size] at hj; have hj' : j < l0.length * 2 := by simpa using hj
     refine ⟨?_, by simp [World.frozen?, hb]⟩; have hq : j / 2 < l0.length := by omega
     have hm := hreps.2 (j / 2) l0[j / 2] (List.getElem?_eq_getElem hq); have hop := k68_openM hm; have hfl := Sort.get_flatK key_Sort.enc 2 l0.toArray j hj; have hz : l0.toArray[j / 2]! = l0[j / 2] := by simp [hq]
     have hcell : w.cell? ⟨g, 0 + j, none⟩ = inner[j]? := by
      rw [← h4', List.getElem?_take_of_lt hj', Array.getElem?_toList]; simp [World.cell?, hb]
     have hget : inner[j]? = ([.int .i64 (l0[j / 2]).f0, .string (l0[j / 2]).f1] : List Value)[j % 2]? := by
      rw [← hop]; show inner[j]? = ((inner.drop (j / 2 * 2)).take 2)[j % 2]?; rw [List.getElem?_take_of_lt (by omega), List.getElem?_drop, show j / 2 * 2 + j % 2 = j by omega]
     rw [hcell, hget, hfl, hz]; unfold key_Sort.enc; rcases (show j % 2 = 0 ∨ j % 2 = 1 by omega) with e | e <;> rw [e] <;> rfl
    have hcmp : CmpLays Tryz.prog 45 #[] key_Sort.enc 2 key_Sort.cf g 0 l0.toArray.size w := fun mm os dk _ x y => key_Sort.clo x y _; have C := AnyQ.slices_SortFunc_eq key_Sort.lays 2 Tryz.isAgg68 Tryz.sizeOf68 key_Sort.enc (fun _ => rfl) (fun x v hv => by simp [key_Sort.enc] at hv; rcases hv with rfl | rfl <;> rfl) key_Sort.cf key_Sort.swo 45 #[] g 0 cap l0.toArray w (fun args w => enters_ Tryz.func45 kl_ rfl args w) hcmp hH hgs (by simp; omega); refine Calls.mono C ?_; rintro e w' ⟨rfl, n, os, hw⟩; obtain ⟨dd, hdd⟩ : ∃ dd, dd = Sort.pdq (ltOf key_Sort.cf) l0.toArray 0 l0.toArray.size (Lib.bitLen l0.toArray.size) true true := ⟨_, rfl⟩; rw [← hdd] at hw; have hsz : dd.size = l0.length := by
     have hp := (Sort.pdq_sorts (ltOf key_Sort.cf) key_Sort.swo l0.toArray 0 l0.toArray.size (Lib.bitLen l0.toArray.size) true true (Nat.zero_le _) (Nat.le_refl _) (Or.inl rfl)).1.1; rw [hdd, hp]; simp
    have hr : key_Sort.srt l0 = dd.toList := by rw [hdd]; rfl
    have hw2 : w' = sortWorld id w g 0 n (Sort.flatK key_Sort.enc 2 dd) os := hw; subst hw2; have hlen : (key_Sort.srt l0).length = l0.length := by rw [hr]; simpa using hsz
    refine ⟨rfl, ⟨fun k hk => .inl (hP0 k hk), (Sort.flatK key_Sort.enc 2 dd).toList, ?_, ?_⟩, hB.grown (key_Sort.sw_grown _) hB.size (fun k hk => by cases hk; exact hbase), hkept _ _ _⟩
    ·refine ⟨?_, .inr ⟨g, cap, _, by rw [hlen], hbase, key_Sort.sw_g _ hb, by omega, h2, ?_, ?_⟩⟩
     ·rw [hlen]; show (Sort.flatK key_Sort.enc 2 dd).toList.length = l0.length * 2; rw [Array.length_toList, key_Sort.flat_size, hsz]
     ·show _ = cap * 2; simp [Sort.putCells, h3']
     ·rw [hlen]; show (Sort.putCells id 0 (Sort.flatK key_Sort.enc 2 dd) cur).toList.take (l0.length * 2) = _; have := key_Sort.put_take cur (Sort.flatK key_Sort.enc 2 dd) (by rw [key_Sort.flat_size, hsz]; omega); rw [key_Sort.flat_size, hsz] at this; exact this
    ·refine ⟨?_, fun j p hj => ?_⟩
     ·rw [hlen]; show (Sort.flatK key_Sort.enc 2 dd).toList.length = l0.length * 2; rw [Array.length_toList, key_Sort.flat_size, hsz]
     ·obtain ⟨hjl, hjp⟩ := List.getElem?_eq_some_iff.1 hj; have hjd : j < dd.size := by omega
      have hf := key_Sort.flat_at dd j hjd; have hp : p = dd[j] := by
       rw [← hjp]; simp only [hr]; rfl
      show k68.M _ _ _ p (((Sort.flatK key_Sort.enc 2 dd).toList.drop (j * 2)).take 2); rw [hf, hp]; exact k68_mkM _ _ _ dd[j]
  ·rw [if_neg hc] at h
   cases h
end Go.Proofs.YtkjneemcledfjaaGreatDoor.PBookCases
