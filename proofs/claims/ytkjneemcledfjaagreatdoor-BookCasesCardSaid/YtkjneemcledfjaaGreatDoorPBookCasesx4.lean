import Derived.Test.YtkjneemcledfjaaGreatDoorPBookCasesx0
namespace Go.Proofs.YtkjneemcledfjaaGreatDoor.PBookCases
open Go.RowKit Go.Proofs.YtkjneemcledfjaaGreatDoorW.PrintWords Go.Proofs.YtkjneemcledfjaaGreatDoorW.PrintLast Go.Proofs.YtkjneemcledfjaaGreatDoorW.PrintMore
set_option linter.unusedVariables false
set_option linter.unusedSimpArgs false
set_option maxHeartbeats 8000000
set_option maxRecDepth 100000
attribute [local go_sem] fld46_1
def dgOne (s c : Int) : Int := IntKind.u64.wrap (bits .xor .u64 s c * 1099511628211)
def dgFrom (t : ByteArray) : Nat → Int → Int → Int
 | 0, _, s => s
 | k + 1, i, s => dgFrom t k (i + 1) (dgOne s (rd (bytesOf t) i))
def book_Digest.f (a0 : Int) (a1 : ByteArray) : Option (Int) := if a1.size ≤ 1000000 then some (dgOne (dgFrom a1 a1.size 0 a0) 256) else none
theorem book_Digest.calls (a0 : Int) (a1 : ByteArray) (r : Int) (w : World) (h : book_Digest.f a0 a1 = some r) :
  Calls Tryz.prog 10 #[.int .u64 a0, .string a1] w fun e w' => e = .returned (.int .u64 r) ∧ Below w.heap.size w w' := by
 unfold book_Digest.f at h; by_cases hs : a1.size ≤ 1000000
 case neg => rw [if_neg hs] at h; cases h
 rw [if_pos hs] at h; obtain rfl := Option.some.inj h; clear h; have kb := fun W => print_bytes (P := Tryz.prog) 9 35 5 Tryz.underlying9 Tryz.underlying35 Tryz.underlying5 a1 W; obtain ⟨G, hG⟩ : ∃ G, G = dgFrom a1 a1.size 0 a0 := ⟨_, rfl⟩; rw [← hG]; have HG := Aside0.mk hG; have HS := Aside0.mk hs; clear hG hs; go_enter Tryz.func10, Tryz.ntmps10; go_wp2; have hB : Below w.heap.size w (Lib.bytesWorld w 5 a1) := bytes_below (Below.refl _ _) (Nat.le_refl _) _ _; go_loopg [0, 10] a1.size (fun kq v0 v10 w' => ∃ (s i : Int), v0 = .int .u64 s ∧ v10 = .int .i64 i ∧ Aside0 (0 ≤ i ∧ (kq : Int) + i = (a1.size : Int)) ∧ Aside0 (G = dgFrom a1 kq i s) ∧ w' = Lib.bytesWorld w 5 a1)
 case atStart => exact ⟨a0, 0, rfl, rfl, ⟨by omega⟩, HG, rfl⟩
 case round =>
  obtain ⟨s, i, rfl, rfl, HI, HN, rfl⟩ := hrel; clear HG
  cases gk with
  | zero =>
   have c3 : decide (i < (a1.size : Int)) = false := decide_eq_false (by have := HI.out; omega); clear HI; go_wp2; go_ret; exact ⟨by rw [HN.out]; rfl, hB⟩
  | succ k1 =>
   have hi := HI.out; have hsz := HS.out; have c3 : decide (i < (a1.size : Int)) = true := decide_eq_true (by omega); have hv : rd (bytesOf a1) i = ((a1.data.toList.getD i.toNat 0).toNat : Int) := by
    unfold rd bytesOf; simp only [List.getD_eq_getElem?_getD, List.getElem?_map]
    cases a1.data.toList[i.toNat]? <;> rfl
   have hx := Lib.bytesWorld_cell w 5 a1 i.toNat (by omega); rw [← hv] at hx; have hw : wrap64 (i + 1) = i + 1 := by unfold wrap64; omega
   have hc0 : 0 ≤ rd (bytesOf a1) i ∧ rd (bytesOf a1) i < 256 := by rw [hv]; have := (a1.data.toList.getD i.toNat 0).toNat_lt; omega
   have hcw : IntKind.u64.wrap (rd (bytesOf a1) i) = rd (bytesOf a1) i := by rw [IntKind.wrap_u64]; omega
   have p1 : (0 ≤ i) = True := eq_true (by omega); have q1 : (i < (a1.size : Int)) = True := eq_true (by omega); have HN' := Aside0.mk (show G = dgFrom a1 k1 (i + 1) (dgOne s (rd (bytesOf a1) i)) from HN.out); clear hi hv hc0 hsz HN; go_wp2; go_roundg k1
   case measure => omega
   case rel => exact ⟨dgOne s (rd (bytesOf a1) i), i + 1, by first | rfl | (unfold dgOne; rw [hcw]) | (unfold dgOne; simp [hcw]), by rw [hw], ⟨by have := HI.out; omega⟩, HN', rfl⟩
def nameByte (x : Int) : Bool := (decide (x ≥ 97) && decide (x ≤ 122)) || (decide (x ≥ 48) && decide (x ≤ 57)) || (x == 45)
def nameFrom (s : ByteArray) : Nat → Int → Bool
 | 0, _ => true
 | k + 1, i => nameByte (rd (bytesOf s) i) && nameFrom s k (i + 1)
def nameOk (s : ByteArray) : Bool := decide (0 < s.size) && decide (s.size ≤ 20) && decide (97 ≤ bt s 0) && nameFrom s s.size 0
def fact_Name.f (a0 : ByteArray) : Option (Bool) := some (nameOk a0)
theorem name_cases (x : Int) : (nameByte x = true ∧ decide (x ≥ 97) = true ∧ decide (x ≤ 122) = true) ∨
  (nameByte x = true ∧ decide (x ≥ 97) = false ∧ decide (x ≥ 48) = true ∧ decide (x ≤ 57) = true) ∨
  (nameByte x = true ∧ decide (x ≥ 97) = false ∧ decide (x ≥ 48) = false ∧ (x == 45) = true) ∨
  (nameByte x = false ∧ decide (x ≥ 97) = true ∧ decide (x ≤ 122) = false ∧ decide (x ≥ 48) = true ∧ decide (x ≤ 57) = false ∧ (x == 45) = false) ∨
  (nameByte x = false ∧ decide (x ≥ 97) = false ∧ decide (x ≥ 48) = true ∧ decide (x ≤ 57) = false ∧ (x == 45) = false) ∨
  (nameByte x = false ∧ decide (x ≥ 97) = false ∧ decide (x ≥ 48) = false ∧ (x == 45) = false) := by
 unfold nameByte; by_cases h1 : x ≥ 97 <;> by_cases h2 : x ≤ 122 <;> by_cases h3 : x ≥ 48 <;> by_cases h4 : x ≤ 57 <;> by_cases h5 : x = 45 <;> simp [h1, h2, h3, h4, h5] <;> omega
theorem name_step (s : ByteArray) (k : Nat) (i : Int) (b : Bool) (h : nameByte (rd (bytesOf s) i) = b) : nameFrom s (k + 1) i = (b && nameFrom s k (i + 1)) := by
 rw [nameFrom, h]
theorem fact_Name.calls (a0 : ByteArray) (r : Bool) (w : World) (h : fact_Name.f a0 = some r) :
  Calls Tryz.prog 63 #[.string a0] w fun e w' => e = .returned (.bool r) ∧ Below w.heap.size w w' := by
 obtain rfl := Option.some.inj h; clear h; unfold nameOk; by_cases h0 : a0.size = 0
 ·have e0 : a0 = (⟨#[]⟩ : ByteArray) := by
   apply ByteArray.ext; exact Array.eq_empty_of_size_eq_zero h0
  subst e0; go_enter Tryz.func63, Tryz.ntmps63; go_wp2_with fail; go_ret; exact ⟨rfl, Below.refl _ _⟩
 ·have e0 : a0.toList.isEmpty = false := by
   rw [ByteArray.toList_eq, List.isEmpty_eq_false_iff]; intro hh; have := congrArg List.length hh; rw [Array.length_toList] at this; exact h0 this
  have e1 : (a0.toList == ([] : List UInt8)) = false := by
   rw [← e0]
   cases a0.toList <;> rfl
  rw [decide_eq_true (show 0 < a0.size by omega), Bool.true_and]; by_cases h1 : a0.size ≤ 20
  ·have c1 : decide ((a0.size : Int) > 20) = false := decide_eq_false (by omega); rw [decide_eq_true h1, Bool.true_and]; have q0 : 0 < a0.size := by omega
   have hx0 : ∀ h : 0 < a0.size, ((a0[0]'h).toNat : Int) = bt a0 0 := bt_at a0 0; have qi0 : (0 < (a0.size : Int)) = True := eq_true (by omega); replace q0 := eq_true q0; by_cases c2 : bt a0 0 < 97
   ·have c2b : decide (bt a0 0 < 97) = true := decide_eq_true c2; rw [decide_eq_false (show ¬ 97 ≤ bt a0 0 by omega), Bool.false_and]; clear c2 h0; go_enter Tryz.func63, Tryz.ntmps63; go_wp2; go_ret; exact ⟨rfl, Below.refl _ _⟩
   ·have c2b : decide (bt a0 0 < 97) = false := decide_eq_false c2; rw [decide_eq_true (show 97 ≤ bt a0 0 by omega), Bool.true_and]; clear c2 h0; have kb := fun W => print_bytes (P := Tryz.prog) 9 35 5 Tryz.underlying9 Tryz.underlying35 Tryz.underlying5 a0 W; go_enter Tryz.func63, Tryz.ntmps63; go_wp2; have hB : Below w.heap.size w (Lib.bytesWorld w 5 a0) := bytes_below (Below.refl _ _) (Nat.le_refl _) _ _; go_loopg [20] a0.size (fun kq v20 w' => ∃ (i : Int), v20 = .int .i64 i ∧ Aside0 (0 ≤ i ∧ (kq : Int) + i = (a0.size : Int)) ∧ Aside0 (nameFrom a0 a0.size 0 = nameFrom a0 kq i) ∧ w' = Lib.bytesWorld w 5 a0)
    case atStart => exact ⟨0, rfl, ⟨by omega⟩, ⟨rfl⟩, rfl⟩
    case round =>
     obtain ⟨i, rfl, HI, HN, rfl⟩ := hrel
     cases gk with
     | zero =>
      have c3 : decide (i < (a0.size : Int)) = false := decide_eq_false (by have := HI.out; omega); clear HI; go_wp2; go_ret; exact ⟨by rw [HN.out, nameFrom]; rfl, hB⟩
     | succ k1 =>
      have hi := HI.out; have c3 : decide (i < (a0.size : Int)) = true := decide_eq_true (by omega); have hv : rd (bytesOf a0) i = ((a0.data.toList.getD i.toNat 0).toNat : Int) := by
       unfold rd bytesOf; simp only [List.getD_eq_getElem?_getD, List.getElem?_map]
       cases a0.data.toList[i.toNat]? <;> rfl
      have hx := Lib.bytesWorld_cell w 5 a0 i.toNat (by omega); rw [← hv] at hx; have hw : wrap64 (i + 1) = i + 1 := by unfold wrap64; omega
      have p1 : (0 ≤ i) = True := eq_true (by omega); have q1 : (i < (a0.size : Int)) = True := eq_true (by omega); have HN := HN.out; clear hi hv; rcases name_cases (rd (bytesOf a0) i) with ⟨nb, d1, d2⟩ | ⟨nb, d1, d2, d3⟩ | ⟨nb, d1, d2, d3⟩ | ⟨nb, d1, d2, d3, d4, d5⟩ | ⟨nb, d1, d2, d3, d4⟩ | ⟨nb, d1, d2, d3⟩
      ·rw [name_step _ _ _ _ nb, Bool.true_and] at HN; have HN' := Aside0.mk HN; clear HN nb; go_wp2; go_roundg k1
       case measure => omega
       case rel => exact ⟨i + 1, by rw [hw], ⟨by have := HI.out; omega⟩, HN', rfl⟩
      ·rw [name_step _ _ _ _ nb, Bool.true_and] at HN; have HN' := Aside0.mk HN; clear HN nb; go_wp2; go_roundg k1
       case measure => omega
       case rel => exact ⟨i + 1, by rw [hw], ⟨by have := HI.out; omega⟩, HN', rfl⟩
      ·rw [name_step _ _ _ _ nb, Bool.true_and] at HN; have HN' := Aside0.mk HN; clear HN nb; go_wp2; go_roundg k1
       case measure => omega
       case rel => exact ⟨i + 1, by rw [hw], ⟨by have := HI.out; omega⟩, HN', rfl⟩
      ·rw [name_step _ _ _ _ nb, Bool.false_and] at HN; have HN' := Aside0.mk HN; clear HN nb; go_wp2; go_ret; exact ⟨by rw [HN'.out]; rfl, hB⟩
      ·rw [name_step _ _ _ _ nb, Bool.false_and] at HN; have HN' := Aside0.mk HN; clear HN nb; go_wp2; go_ret; exact ⟨by rw [HN'.out]; rfl, hB⟩
      ·rw [name_step _ _ _ _ nb, Bool.false_and] at HN; have HN' := Aside0.mk HN; clear HN nb; go_wp2; go_ret; exact ⟨by rw [HN'.out]; rfl, hB⟩
  ·have c1 : decide ((a0.size : Int) > 20) = true := decide_eq_true (by omega); rw [decide_eq_false h1, Bool.false_and, Bool.false_and]; clear h1 h0; go_enter Tryz.func63, Tryz.ntmps63; go_wp2_with fail; go_ret; exact ⟨rfl, Below.refl _ _⟩
def unit_Range.f (a0 : Int) : Option (Int × Int) := if a0 = 1 then (some (0, 1)) else (if a0 = 2 then (some ((-1099511627776), 1099511627776)) else (if a0 = 3 then (some ((-1048576), 1048576)) else (if a0 = 4 then (some (0, 1048575)) else (if a0 = 5 then (some ((-1048576), 1048576)) else (if a0 = 6 then (some ((-1000000000), 1000000000)) else (some (0, 0)))))))
theorem unit_Range.calls (a0 : Int) (r1 : Int) (r2 : Int) (w : World) (h : unit_Range.f a0 = some (r1, r2)) :
  Calls Tryz.prog 92 #[.int .i64 a0] w fun e w' => e = .returned (.tuple #[.int .i64 r1, .int .i64 r2]) ∧ Drawn0 w w' := by
 unfold unit_Range.f at h; have H := h; clear h; by_cases c2 : a0 = 1
 ·rw [if_pos c2] at H; have c2b0 := beq_iff_eq.mpr c2; have c2b1 := bne_eq_false_iff_eq.mpr c2; clear c2; simp only [Option.some.injEq, Prod.mk.injEq] at H; obtain ⟨rfl, rfl⟩ := H; go_enter Tryz.func92, Tryz.ntmps92; go_wp2; go_ret2; exact ⟨rf_, dr_⟩
 ·rw [if_neg c2] at H; have c2b0 := beq_eq_false_iff_ne.mpr c2; have c2b1 := bne_iff_ne.mpr c2; by_cases c3 : a0 = 2
  ·rw [if_pos c3] at H; have c3b0 := beq_iff_eq.mpr c3; have c3b1 := bne_eq_false_iff_eq.mpr c3; clear c3; simp only [Option.some.injEq, Prod.mk.injEq] at H; obtain ⟨rfl, rfl⟩ := H; go_enter Tryz.func92, Tryz.ntmps92; go_wp2; go_ret2; exact ⟨rf_, dr_⟩
  ·rw [if_neg c3] at H; have c3b0 := beq_eq_false_iff_ne.mpr c3; have c3b1 := bne_iff_ne.mpr c3; by_cases c4 : a0 = 3
   ·rw [if_pos c4] at H; have c4b0 := beq_iff_eq.mpr c4; have c4b1 := bne_eq_false_iff_eq.mpr c4; clear c4; simp only [Option.some.injEq, Prod.mk.injEq] at H; obtain ⟨rfl, rfl⟩ := H; go_enter Tryz.func92, Tryz.ntmps92; go_wp2; go_ret2; exact ⟨rf_, dr_⟩
   ·rw [if_neg c4] at H; have c4b0 := beq_eq_false_iff_ne.mpr c4; have c4b1 := bne_iff_ne.mpr c4; by_cases c5 : a0 = 4
    ·rw [if_pos c5] at H; have c5b0 := beq_iff_eq.mpr c5; have c5b1 := bne_eq_false_iff_eq.mpr c5; clear c5; simp only [Option.some.injEq, Prod.mk.injEq] at H; obtain ⟨rfl, rfl⟩ := H; go_enter Tryz.func92, Tryz.ntmps92; go_wp2; go_ret2; exact ⟨rf_, dr_⟩
    ·rw [if_neg c5] at H; have c5b0 := beq_eq_false_iff_ne.mpr c5; have c5b1 := bne_iff_ne.mpr c5; by_cases c6 : a0 = 5
     ·rw [if_pos c6] at H; have c6b0 := beq_iff_eq.mpr c6; have c6b1 := bne_eq_false_iff_eq.mpr c6; clear c6; simp only [Option.some.injEq, Prod.mk.injEq] at H; obtain ⟨rfl, rfl⟩ := H; go_enter Tryz.func92, Tryz.ntmps92; go_wp2; go_ret2; exact ⟨rf_, dr_⟩
     ·rw [if_neg c6] at H; have c6b0 := beq_eq_false_iff_ne.mpr c6; have c6b1 := bne_iff_ne.mpr c6; by_cases c7 : a0 = 6
      ·rw [if_pos c7] at H; have c7b0 := beq_iff_eq.mpr c7; have c7b1 := bne_eq_false_iff_eq.mpr c7; clear c7; simp only [Option.some.injEq, Prod.mk.injEq] at H; obtain ⟨rfl, rfl⟩ := H; go_enter Tryz.func92, Tryz.ntmps92; go_wp2; go_ret2; exact ⟨rf_, dr_⟩
      ·rw [if_neg c7] at H; have c7b0 := beq_eq_false_iff_ne.mpr c7; have c7b1 := bne_iff_ne.mpr c7; simp only [Option.some.injEq, Prod.mk.injEq] at H; obtain ⟨rfl, rfl⟩ := H; go_enter Tryz.func92, Tryz.ntmps92; go_wp2; go_ret2; exact ⟨rf_, dr_⟩
def unit_known.f (a0 : Int) : Option (Bool) := if a0 ≥ 0 then (some (decide (a0 ≤ 6))) else (some false)
theorem unit_known.calls (a0 : Int) (r : Bool) (w : World) (h : unit_known.f a0 = some r) :
  Calls Tryz.prog 93 #[.int .i64 a0] w fun e w' => e = .returned (.bool r) ∧ Drawn0 w w' := by
 unfold unit_known.f at h; have H := h; clear h; by_cases c2 : a0 ≥ 0
 ·rw [if_pos c2] at H; have c2b0 := decide_eq_true c2; clear c2; obtain rfl := Option.some.inj H; go_enter Tryz.func93, Tryz.ntmps93; go_wp2; go_ret; exact ⟨rf_, dr_⟩
 ·rw [if_neg c2] at H; have c2b0 := decide_eq_false c2; clear c2; obtain rfl := Option.some.inj H; go_enter Tryz.func93, Tryz.ntmps93; go_wp2; go_ret; exact ⟨rf_, dr_⟩
def unit_Check.f (a0_0 : Int) (a0_1 : Int) : Option (Int) := (unit_Range.f a0_0).bind fun bt102 => ((unit_known.f a0_0).bind fun t104 => (if t104 = true then (if a0_1 < bt102.1 then (none) else (if a0_1 > bt102.2 then (none) else (some 0))) else (none)))
theorem unit_Check.calls (a0_0 : Int) (a0_1 : Int) (r : Int) (w : World) (h : unit_Check.f a0_0 a0_1 = some r) :
  Calls Tryz.prog 64 #[.agg #[.int .i64 a0_0, .int .i64 a0_1]] w fun e w' => e = .returned (.int .i64 r) ∧ Below w.heap.size w w' := by
 have hu46 := Tryz.underlying46; have HB := Aside0.mk (Below.refl w.heap.size w); unfold unit_Check.f at h; have H := h; clear h; replace H := Option.bind_eq_some_iff.mp H; obtain ⟨⟨t102, t103⟩, A20, H⟩ := H; (try dsimp only at H); have A2 := Aside0.mk A20; clear A20; replace H := Option.bind_eq_some_iff.mp H; obtain ⟨t104, A30, H⟩ := H; (try dsimp only at H); have A3 := Aside0.mk A30; clear A30; by_cases c4 : t104 = true
 ·subst c4; rw [if_pos rfl] at H; by_cases c5 : a0_1 < t102
  ·rw [if_pos c5] at H; exact absurd H (by simp)
  ·rw [if_neg c5] at H; have c5b0 := decide_eq_false c5; clear c5; by_cases c6 : a0_1 > t103
   ·rw [if_pos c6] at H; exact absurd H (by simp)
   ·rw [if_neg c6] at H; have c6b0 := decide_eq_false c6; clear c6; obtain rfl := Option.some.inj H; go_enter Tryz.func64, Tryz.ntmps64; go_wp2_with (first | ((with_reducible refine gate_dst (N := 1) rfl ?_); refine bx_ (#[.int .i64 a0_0, .int .i64 a0_1]) 46 ?_; intro gb101 hg w7 hbox hb; have BK101 := Aside0.mk (hbox); have GW101 := Aside0.mk ((gs_ : w.heap.size ≤ gb101)); have GE101 := Aside0.mk ((gs_ : w.heap.size ≤ gb101)); replace HB := Aside0.mk (below_step b_ hb); clear hb hbox hg; obtain ⟨hcz8_0, hcz8_1, hfz8_0, hfz8_1⟩ := z2_ BK101.out) | ((with_reducible refine gate_callee (f := 92) rfl ?_); refine goesL_ (some 8) rfl rfl Tryz.func92 kl_ rfl #[.int .i64 a0_0] rfl ar_ ?_; (with_reducible refine (unit_Range.calls a0_0 t102 t103 _ A2.out).mono ?_); rintro e w' ⟨rfl, ⟨nd, rfl⟩⟩; refine ⟨_, rfl, ?_⟩) | ((with_reducible refine gate_callee (f := 93) rfl ?_); refine goesL_ (some 14) rfl rfl Tryz.func93 kl_ rfl #[.int .i64 a0_0] rfl ar_ ?_; (with_reducible refine (unit_known.calls a0_0 true _ A3.out).mono ?_); rintro e w' ⟨rfl, ⟨nd, rfl⟩⟩; refine ⟨_, rfl, ?_⟩)); go_ret; exact ⟨re_, b_⟩
 ·replace c4 := Bool.eq_false_iff.mpr c4; subst c4; rw [if_neg (show ¬ (false = true) by decide)] at H; exact absurd H (by simp)
def fact_One.j0 : Nat → Bool → Int → ByteArray → Int → Int → Int → Int → Int → Option (Int)
 | 0, _, _, _, _, _, _, _, _ => none
 | k + 1, x19, x106000, x106001, x106002, x106003, x106004, x106005, x106006 => if x19 = true then (none) else (if x106006 < 0 then (none) else (if x106006 > 1048575 then (none) else (some 0)))
def fact_One.f (k : Nat) (a0_0 : Int) (a0_1 : ByteArray) (a0_2 : Int) (a0_3 : Int) (a0_4 : Int) (a0_5 : Int) (a0_6 : Int) : Option (Int) := if a0_0 < 0 then (none) else ((fact_Name.f a0_1).bind fun t106 => (if t106 = true then ((unit_Check.f a0_2 a0_3).bind fun t107 => (if t107 = 0 then (if a0_4 < 0 then (fact_One.j0 k true a0_0 a0_1 a0_2 a0_3 a0_4 a0_5 a0_6) else (if a0_4 ≥ a0_5 then (fact_One.j0 k true a0_0 a0_1 a0_2 a0_3 a0_4 a0_5 a0_6) else (fact_One.j0 k (decide (a0_5 > 1048576)) a0_0 a0_1 a0_2 a0_3 a0_4 a0_5 a0_6))) else (some t107))) else (none)))
theorem fact_One.calls (k : Nat) (a0_0 : Int) (a0_1 : ByteArray) (a0_2 : Int) (a0_3 : Int) (a0_4 : Int) (a0_5 : Int) (a0_6 : Int) (r : Int) (w : World) (h : fact_One.f k a0_0 a0_1 a0_2 a0_3 a0_4 a0_5 a0_6 = some r) :
  Calls Tryz.prog 42 #[.agg #[.int .i64 a0_0, .string a0_1, .int .i64 a0_2, .int .i64 a0_3, .int .i64 a0_4, .int .i64 a0_5, .int .i64 a0_6]] w fun e w' => e = .returned (.int .i64 r) ∧ Below w.heap.size w w' := by
 have hu48 := Tryz.underlying48; have hu46 := Tryz.underlying46; have HB := Aside0.mk (Below.refl w.heap.size w); unfold fact_One.f at h; have H := h; clear h; by_cases c2 : a0_0 < 0
 ·rw [if_pos c2] at H; exact absurd H (by simp)
 ·rw [if_neg c2] at H; have c2b0 := decide_eq_false c2; clear c2; replace H := Option.bind_eq_some_iff.mp H; obtain ⟨t106, A30, H⟩ := H; (try dsimp only at H); have A3 := Aside0.mk A30; clear A30; by_cases c4 : t106 = true
  ·subst c4; rw [if_pos rfl] at H; replace H := Option.bind_eq_some_iff.mp H; obtain ⟨t107, A50, H⟩ := H; (try dsimp only at H); have A5 := Aside0.mk A50; clear A50; by_cases c6 : t107 = 0
   ·rw [if_pos c6] at H; have c6b0 := beq_iff_eq.mpr c6; have c6b1 := bne_eq_false_iff_eq.mpr c6; clear c6; have HC7 := Aside0.mk H; clear H; go_enter Tryz.func42, Tryz.ntmps42; go_upto_region 8 with (first | ((with_reducible refine gate_dst (N := 1) rfl ?_); refine bx_ (#[.int .i64 a0_0, .string a0_1, .int .i64 a0_2, .int .i64 a0_3, .int .i64 a0_4, .int .i64 a0_5, .int .i64 a0_6]) 48 ?_; intro gb105 hg w8 hbox hb; have BK105 := Aside0.mk (hbox); have GW105 := Aside0.mk ((gs_ : w.heap.size ≤ gb105)); have GE105 := Aside0.mk ((gs_ : w.heap.size ≤ gb105)); replace HB := Aside0.mk (below_step b_ hb); clear hb hbox hg; obtain ⟨hcz9_0, hcz9_1, hcz9_2, hcz9_3, hcz9_4, hcz9_5, hcz9_6, hfz9_0, hfz9_1, hfz9_2, hfz9_3, hfz9_4, hfz9_5, hfz9_6⟩ := z7_ BK105.out) | ((with_reducible refine gate_callee (f := 63) rfl ?_); refine goesL_ (some 11) rfl rfl Tryz.func63 kl_ rfl #[.string a0_1] rfl ar_ ?_; (with_reducible refine (fact_Name.calls a0_1 true _ A3.out).mono ?_); rintro e w10 ⟨rfl, hb⟩; refine ⟨_, rfl, ?_⟩; replace BK105 := Aside0.mk (bb_ BK105.out hb); replace HB := Aside0.mk (below_step b_ hb); obtain ⟨hcz11_0, hcz11_1, hcz11_2, hcz11_3, hcz11_4, hcz11_5, hcz11_6, hfz11_0, hfz11_1, hfz11_2, hfz11_3, hfz11_4, hfz11_5, hfz11_6⟩ := z7_ BK105.out) | ((with_reducible refine gate_callee (f := 64) rfl ?_); refine goesL_ (some 15) rfl rfl Tryz.func64 kl_ rfl #[.agg #[.int .i64 a0_2, .int .i64 a0_3]] rfl ar_ ?_; (with_reducible refine (unit_Check.calls a0_2 a0_3 t107 _ A5.out).mono ?_); rintro e w12 ⟨rfl, hb⟩; refine ⟨_, rfl, ?_⟩; replace BK105 := Aside0.mk (bb_ BK105.out hb); replace HB := Aside0.mk (below_step b_ hb))); (try simp only [Act.put, List.setIfInBounds_toArray, List.set_cons_zero, List.set_cons_succ]); go_cut [19] (fun v19 wc => ∃ (kq : Nat) (x19_6 : Bool), v19 = .bool x19_6 ∧ Aside0 (fact_One.j0 kq x19_6 a0_0 a0_1 a0_2 a0_3 a0_4 a0_5 a0_6 = some r) ∧ Aside0 (kq ≤ k) ∧ Aside0 (wc.heap[gb105]? = some (.cells #[.int .i64 a0_0, .string a0_1, .int .i64 a0_2, .int .i64 a0_3, .int .i64 a0_4, .int .i64 a0_5, .int .i64 a0_6] 48 (0, 0))) ∧ Aside0 (Below w.heap.size w wc))
    case first =>
     have H := HC7.out; clear HC7; by_cases c13 : a0_4 < 0
     ·rw [if_pos c13] at H; have c13b0 := decide_eq_true c13; clear c13; (first | rw [c13b0] | (simp only [i64_w, i32_w]; rw [c13b0]) | skip); have H' := Aside0.mk H; clear H; obtain ⟨hcz14_0, hcz14_1, hcz14_2, hcz14_3, hcz14_4, hcz14_5, hcz14_6, hfz14_0, hfz14_1, hfz14_2, hfz14_3, hfz14_4, hfz14_5, hfz14_6⟩ := z7_ BK105.out; go_wp2; go_meet
      case rel => exact ⟨_, (true), rf_, H', ⟨by first | omega | exact Nat.le_refl _⟩, ⟨kb_ BK105.out⟩, ⟨b_⟩⟩
     ·rw [if_neg c13] at H; have c13b0 := decide_eq_false c13; clear c13; (first | rw [c13b0] | (simp only [i64_w, i32_w]; rw [c13b0]) | skip); by_cases c15 : a0_4 ≥ a0_5
      ·rw [if_pos c15] at H; have c15b0 := decide_eq_true c15; clear c15; have H' := Aside0.mk H; clear H; obtain ⟨hcz16_0, hcz16_1, hcz16_2, hcz16_3, hcz16_4, hcz16_5, hcz16_6, hfz16_0, hfz16_1, hfz16_2, hfz16_3, hfz16_4, hfz16_5, hfz16_6⟩ := z7_ BK105.out; go_wp2; go_meet
       case rel => exact ⟨_, (true), rf_, H', ⟨by first | omega | exact Nat.le_refl _⟩, ⟨kb_ BK105.out⟩, ⟨b_⟩⟩
      ·rw [if_neg c15] at H; have c15b0 := decide_eq_false c15; clear c15; have H' := Aside0.mk H; clear H; obtain ⟨hcz17_0, hcz17_1, hcz17_2, hcz17_3, hcz17_4, hcz17_5, hcz17_6, hfz17_0, hfz17_1, hfz17_2, hfz17_3, hfz17_4, hfz17_5, hfz17_6⟩ := z7_ BK105.out; go_wp2; go_meet
       case rel => exact ⟨_, (decide (a0_5 > 1048576)), rf_, H', ⟨by first | omega | exact Nat.le_refl _⟩, ⟨kb_ BK105.out⟩, ⟨b_⟩⟩
    case rest =>
     clear HC7; (try clear c1); (try clear c2); (try clear c2b0); (try clear p2); (try clear c4); (try clear c6); (try clear c6b0); (try clear c6b1); (try clear c13); (try clear c13b0); (try clear c15); (try clear c15b0); obtain ⟨kq, x19_6, rfl, HA, HJ6, BK105, HB⟩ := hcut
     cases kq with
     | zero => exact absurd HA.out (by simp [fact_One.j0])
     | succ kj6 =>
      have H := HA.out; clear HA; simp only [fact_One.j0] at H; by_cases c18 : x19_6 = true
      ·subst c18; rw [if_pos rfl] at H; exact absurd H (by simp)
      ·replace c18 := Bool.eq_false_iff.mpr c18; subst c18; rw [if_neg (show ¬ (false = true) by decide)] at H; by_cases c19 : a0_6 < 0
       ·rw [if_pos c19] at H; exact absurd H (by simp)
       ·rw [if_neg c19] at H; have c19b0 := decide_eq_false c19; clear c19; by_cases c20 : a0_6 > 1048575
        ·rw [if_pos c20] at H; exact absurd H (by simp)
        ·rw [if_neg c20] at H; have c20b0 := decide_eq_false c20; clear c20; obtain rfl := Option.some.inj H; obtain ⟨hcz21_0, hcz21_1, hcz21_2, hcz21_3, hcz21_4, hcz21_5, hcz21_6, hfz21_0, hfz21_1, hfz21_2, hfz21_3, hfz21_4, hfz21_5, hfz21_6⟩ := z7_ BK105.out; go_wp2; go_ret; exact ⟨re_, b_⟩
   ·rw [if_neg c6] at H; have c6b0 := beq_eq_false_iff_ne.mpr c6; have c6b1 := bne_iff_ne.mpr c6; obtain rfl := Option.some.inj H; go_enter Tryz.func42, Tryz.ntmps42; go_wp2_with (first | ((with_reducible refine gate_dst (N := 1) rfl ?_); refine bx_ (#[.int .i64 a0_0, .string a0_1, .int .i64 a0_2, .int .i64 a0_3, .int .i64 a0_4, .int .i64 a0_5, .int .i64 a0_6]) 48 ?_; intro gb105 hg w22 hbox hb; have BK105 := Aside0.mk (hbox); have GW105 := Aside0.mk ((gs_ : w.heap.size ≤ gb105)); have GE105 := Aside0.mk ((gs_ : w.heap.size ≤ gb105)); replace HB := Aside0.mk (below_step b_ hb); clear hb hbox hg; obtain ⟨hcz23_0, hcz23_1, hcz23_2, hcz23_3, hcz23_4, hcz23_5, hcz23_6, hfz23_0, hfz23_1, hfz23_2, hfz23_3, hfz23_4, hfz23_5, hfz23_6⟩ := z7_ BK105.out) | ((with_reducible refine gate_callee (f := 63) rfl ?_); refine goesL_ (some 11) rfl rfl Tryz.func63 kl_ rfl #[.string a0_1] rfl ar_ ?_; (with_reducible refine (fact_Name.calls a0_1 true _ A3.out).mono ?_); rintro e w24 ⟨rfl, hb⟩; refine ⟨_, rfl, ?_⟩; replace BK105 := Aside0.mk (bb_ BK105.out hb); replace HB := Aside0.mk (below_step b_ hb); obtain ⟨hcz25_0, hcz25_1, hcz25_2, hcz25_3, hcz25_4, hcz25_5, hcz25_6, hfz25_0, hfz25_1, hfz25_2, hfz25_3, hfz25_4, hfz25_5, hfz25_6⟩ := z7_ BK105.out) | ((with_reducible refine gate_callee (f := 64) rfl ?_); refine goesL_ (some 15) rfl rfl Tryz.func64 kl_ rfl #[.agg #[.int .i64 a0_2, .int .i64 a0_3]] rfl ar_ ?_; (with_reducible refine (unit_Check.calls a0_2 a0_3 t107 _ A5.out).mono ?_); rintro e w26 ⟨rfl, hb⟩; refine ⟨_, rfl, ?_⟩; replace BK105 := Aside0.mk (bb_ BK105.out hb); replace HB := Aside0.mk (below_step b_ hb))); go_ret; exact ⟨re_, b_⟩
  ·replace c4 := Bool.eq_false_iff.mpr c4; subst c4; rw [if_neg (show ¬ (false = true) by decide)] at H; exact absurd H (by simp)
def strconv_Itoa.f (n : Int) : Option (ByteArray) := if -9223372036854775808 ≤ n ∧ n ≤ 9223372036854775807 then some ⟨(Lib.itoa n).toArray⟩ else none
theorem strconv_Itoa.calls (a0 : Int) (r : ByteArray) (w : World) (henv : StrEnv w) (h : strconv_Itoa.f a0 = some r) :
  Calls Tryz.prog 60 #[.int .i64 a0] w fun e w' => e = .returned (.string r) ∧ Below w.heap.size w w' := by
 unfold strconv_Itoa.f at h; by_cases hc : -9223372036854775808 ≤ a0 ∧ a0 ≤ 9223372036854775807
 case neg => rw [if_neg hc] at h; cases h
 rw [if_pos hc] at h; obtain rfl := Option.some.inj h; refine (Tryz.strconv_Itoa a0 hc.1 hc.2 w henv.tab).mono ?_; rintro e w' ⟨rfl, k, os, rfl⟩; exact ⟨rfl, below_grow w k os⟩
def unit_Fit.f (a0_0 : Int) (a0_1 : Int) : Option (Int × Int) := (unit_known.f a0_0).bind fun t110 => (if t110 = true then ((unit_Range.f a0_0).bind fun bt111 => (some (a0_0, mx bt111.1 (mn a0_1 bt111.2)))) else (some (0, 0)))
theorem unit_Fit.calls (a0_0 : Int) (a0_1 : Int) (r1 : Int) (r2 : Int) (w : World) (h : unit_Fit.f a0_0 a0_1 = some (r1, r2)) :
  Calls Tryz.prog 71 #[.agg #[.int .i64 a0_0, .int .i64 a0_1]] w fun e w' => e = .returned (.agg #[.int .i64 r1, .int .i64 r2]) ∧ Below w.heap.size w w' := by
 have hu46 := Tryz.underlying46; have HB := Aside0.mk (Below.refl w.heap.size w); unfold unit_Fit.f at h; have H := h; clear h; replace H := Option.bind_eq_some_iff.mp H; obtain ⟨t110, A20, H⟩ := H; (try dsimp only at H); have A2 := Aside0.mk A20; clear A20; by_cases c3 : t110 = true
 ·subst c3; rw [if_pos rfl] at H; replace H := Option.bind_eq_some_iff.mp H; obtain ⟨⟨t111, t112⟩, A40, H⟩ := H; (try dsimp only at H); have A4 := Aside0.mk A40; clear A40; obtain ⟨ji5, hji5⟩ : ∃ j_ : Int, (mn a0_1 t112) = j_ := ⟨_, rfl⟩; replace H : (some (a0_0, mx t111 (ji5))) = some (r1, r2) := by first | (rw [hji5] at H; exact H) | (simp only [hji5] at H ⊢; exact H)
  (try rw [hji5] at A2); (try rw [hji5] at A4); have hji5_ : (if t112 < a0_1 then t112 else a0_1) = ji5 := hji5; obtain ⟨ji6, hji6⟩ : ∃ j_ : Int, (mx t111 (ji5)) = j_ := ⟨_, rfl⟩; replace H : (some (a0_0, ji6)) = some (r1, r2) := by first | (rw [hji6] at H; exact H) | (simp only [hji6] at H ⊢; exact H)
  (try rw [hji6] at A2); (try rw [hji6] at A4); have hji6_ : (if t111 < (ji5) then (ji5) else t111) = ji6 := hji6; simp only [Option.some.injEq, Prod.mk.injEq] at H; obtain ⟨rfl, rfl⟩ := H; go_enter Tryz.func71, Tryz.ntmps71; go_wp2_with (first | ((with_reducible refine gate_dst (N := 1) rfl ?_); refine bx_ (#[.int .i64 a0_0, .int .i64 a0_1]) 46 ?_; intro gb108 hg w7 hbox hb; have BK108 := Aside0.mk (hbox); have GW108 := Aside0.mk ((gs_ : w.heap.size ≤ gb108)); have GE108 := Aside0.mk ((gs_ : w.heap.size ≤ gb108)); replace HB := Aside0.mk (below_step b_ hb); clear hb hbox hg) | ((with_reducible refine gate_dst (N := 2) rfl ?_); refine bx_ (#[.int .i64 0, .int .i64 0]) 46 ?_; intro gb109 hg w8 hbox hb; have BK109 := Aside0.mk (hbox); have GW109 := Aside0.mk ((gs_ : w.heap.size ≤ gb109)); have GE109 := Aside0.mk ((gs_ : w.heap.size ≤ gb109)); replace HB := Aside0.mk (below_step b_ hb); have NB108_109 := Aside0.mk ((nl_ BK108.out : gb108 ≠ gb109)); have NB109_108 := Aside0.mk ((ng_ BK108.out : gb109 ≠ gb108)); replace BK108 := Aside0.mk (bb_ BK108.out hb); clear hb hbox hg; have hnb9 := NB108_109.out; have hnc9 := NB109_108.out; obtain ⟨hcz10_0, hcz10_1, hfz10_0, hfz10_1⟩ := z2_ BK108.out) | ((with_reducible refine gate_callee (f := 93) rfl ?_); refine goesL_ (some 7) rfl rfl Tryz.func93 kl_ rfl #[.int .i64 a0_0] rfl ar_ ?_; (with_reducible refine (unit_known.calls a0_0 true _ A2.out).mono ?_); rintro e w' ⟨rfl, ⟨nd, rfl⟩⟩; refine ⟨_, rfl, ?_⟩; (try (rw [drewN_self w8]; generalize hq_ : World.drewN w8 _ = w8; replace BK108 : Aside0 (w8.heap[gb108]? = some (.cells #[.int .i64 a0_0, .int .i64 a0_1] 46 (0, 0))) := ⟨by rw [← hq_]; exact (kb_ BK108.out)⟩; replace BK109 : Aside0 (w8.heap[gb109]? = some (.cells #[.int .i64 0, .int .i64 0] 46 (0, 0))) := ⟨by rw [← hq_]; exact (kb_ BK109.out)⟩; replace HB : Aside0 (Below w.heap.size w w8) := ⟨by rw [← hq_]; exact b_⟩; clear hq_)); obtain ⟨hcz11_0, hcz11_1, hfz11_0, hfz11_1⟩ := z2_ BK108.out) | ((with_reducible refine gate_callee (f := 92) rfl ?_); refine goesL_ (some 13) rfl rfl Tryz.func92 kl_ rfl #[.int .i64 a0_0] rfl ar_ ?_; (with_reducible refine (unit_Range.calls a0_0 t111 t112 _ A4.out).mono ?_); rintro e w' ⟨rfl, ⟨nd, rfl⟩⟩; refine ⟨_, rfl, ?_⟩; (try (rw [drewN_self w8]; generalize hq_ : World.drewN w8 _ = w8; replace BK108 : Aside0 (w8.heap[gb108]? = some (.cells #[.int .i64 a0_0, .int .i64 a0_1] 46 (0, 0))) := ⟨by rw [← hq_]; exact (kb_ BK108.out)⟩; replace BK109 : Aside0 (w8.heap[gb109]? = some (.cells #[.int .i64 0, .int .i64 0] 46 (0, 0))) := ⟨by rw [← hq_]; exact (kb_ BK109.out)⟩; replace HB : Aside0 (Below w.heap.size w w8) := ⟨by rw [← hq_]; exact b_⟩; clear hq_)); have hcz12_0 := c0_ BK108.out; have hcz12_1 := c1_ BK108.out; have hfz12_0 := blk_frozen BK108.out 0; have hfz12_1 := blk_frozen BK108.out 1; have hcz13_0 := c0_ BK109.out; have hcz13_1 := c1_ BK109.out; have hfz13_0 := blk_frozen BK109.out 0; have hfz13_1 := blk_frozen BK109.out 1)); refine bodyPost_ret (results_cell_row rfl _ _ gb109 46 #[.int .i64 a0_0, .int .i64 ji6] (0, 0) _ rfl (bp_ BK109.out) Tryz.underlying46 rfl kl_) rfl ?_; exact ⟨by first | rfl | (simp [errW_none, errW_some] <;> rfl) | (simp only [← hji5, ← hji6]; first | rfl | (simp [errW_none, errW_some] <;> rfl)) | (simp [*, errW_none, errW_some] <;> rfl), b_⟩
 ·replace c3 := Bool.eq_false_iff.mpr c3; subst c3; rw [if_neg (show ¬ (false = true) by decide)] at H; simp only [Option.some.injEq, Prod.mk.injEq] at H; obtain ⟨rfl, rfl⟩ := H; go_enter Tryz.func71, Tryz.ntmps71; go_wp2_with (first | ((with_reducible refine gate_dst (N := 1) rfl ?_); refine bx_ (#[.int .i64 a0_0, .int .i64 a0_1]) 46 ?_; intro gb108 hg w14 hbox hb; have BK108 := Aside0.mk (hbox); have GW108 := Aside0.mk ((gs_ : w.heap.size ≤ gb108)); have GE108 := Aside0.mk ((gs_ : w.heap.size ≤ gb108)); replace HB := Aside0.mk (below_step b_ hb); clear hb hbox hg) | ((with_reducible refine gate_dst (N := 2) rfl ?_); refine bx_ (#[.int .i64 0, .int .i64 0]) 46 ?_; intro gb109 hg w15 hbox hb; have BK109 := Aside0.mk (hbox); have GW109 := Aside0.mk ((gs_ : w.heap.size ≤ gb109)); have GE109 := Aside0.mk ((gs_ : w.heap.size ≤ gb109)); replace HB := Aside0.mk (below_step b_ hb); have NB108_109 := Aside0.mk ((nl_ BK108.out : gb108 ≠ gb109)); have NB109_108 := Aside0.mk ((ng_ BK108.out : gb109 ≠ gb108)); replace BK108 := Aside0.mk (bb_ BK108.out hb); clear hb hbox hg; have hnb16 := NB108_109.out; have hnc16 := NB109_108.out; obtain ⟨hcz17_0, hcz17_1, hfz17_0, hfz17_1⟩ := z2_ BK108.out) | ((with_reducible refine gate_callee (f := 93) rfl ?_); refine goesL_ (some 7) rfl rfl Tryz.func93 kl_ rfl #[.int .i64 a0_0] rfl ar_ ?_; (with_reducible refine (unit_known.calls a0_0 false _ A2.out).mono ?_); rintro e w' ⟨rfl, ⟨nd, rfl⟩⟩; refine ⟨_, rfl, ?_⟩; (try (rw [drewN_self w15]; generalize hq_ : World.drewN w15 _ = w15; replace BK108 : Aside0 (w15.heap[gb108]? = some (.cells #[.int .i64 a0_0, .int .i64 a0_1] 46 (0, 0))) := ⟨by rw [← hq_]; exact (kb_ BK108.out)⟩; replace BK109 : Aside0 (w15.heap[gb109]? = some (.cells #[.int .i64 0, .int .i64 0] 46 (0, 0))) := ⟨by rw [← hq_]; exact (kb_ BK109.out)⟩; replace HB : Aside0 (Below w.heap.size w w15) := ⟨by rw [← hq_]; exact b_⟩; clear hq_)); obtain ⟨hcz18_0, hcz18_1, hfz18_0, hfz18_1⟩ := z2_ BK109.out)); refine bodyPost_ret (results_cell_row rfl _ _ gb109 46 #[.int .i64 0, .int .i64 0] (0, 0) _ rfl (bp_ BK109.out) Tryz.underlying46 rfl kl_) rfl ?_; exact ⟨re_, b_⟩
def strconv_FormatBool_145.f (a0 : Bool) : Option (ByteArray) := if a0 = true then (some (⟨#[116, 114, 117, 101]⟩ : ByteArray)) else (some (⟨#[102, 97, 108, 115, 101]⟩ : ByteArray))
theorem strconv_FormatBool_145.calls (a0 : Bool) (r : ByteArray) (w : World) (h : strconv_FormatBool_145.f a0 = some r) :
  Calls Tryz.prog 145 #[.bool a0] w fun e w' => e = .returned (.string r) ∧ Drawn0 w w' := by
 unfold strconv_FormatBool_145.f at h; have H := h; clear h; by_cases c2 : a0 = true
 ·subst c2; rw [if_pos rfl] at H; obtain rfl := Option.some.inj H; go_enter Tryz.func145, Tryz.ntmps145; go_wp2; go_ret; exact ⟨rf_, dr_⟩
 ·replace c2 := Bool.eq_false_iff.mpr c2; subst c2; rw [if_neg (show ¬ (false = true) by decide)] at H; obtain rfl := Option.some.inj H; go_enter Tryz.func145, Tryz.ntmps145; go_wp2; go_ret; exact ⟨rf_, dr_⟩
def strconv_FormatBool_86.f (a0 : Bool) : Option (ByteArray) := (strconv_FormatBool_145.f a0).bind fun t113 => (some t113)
theorem strconv_FormatBool_86.calls (a0 : Bool) (r : ByteArray) (w : World) (h : strconv_FormatBool_86.f a0 = some r) :
  Calls Tryz.prog 86 #[.bool a0] w fun e w' => e = .returned (.string r) ∧ Drawn0 w w' := by
 unfold strconv_FormatBool_86.f at h; have H := h; clear h; replace H := Option.bind_eq_some_iff.mp H; obtain ⟨t113, A20, H⟩ := H; (try dsimp only at H); have A2 := Aside0.mk A20; clear A20; obtain rfl := Option.some.inj H; go_enter Tryz.func86, Tryz.ntmps86; go_wp2_with (first | ((with_reducible refine gate_callee (f := 145) rfl ?_); refine goesL_ (some 4) rfl rfl Tryz.func145 kl_ rfl #[.bool a0] rfl ar_ ?_; (with_reducible refine (strconv_FormatBool_145.calls a0 t113 _ A2.out).mono ?_); rintro e w' ⟨rfl, ⟨nd, rfl⟩⟩; refine ⟨_, rfl, ?_⟩)); go_ret; exact ⟨rf_, dr_⟩
def strings_Repeat.f (s : ByteArray) (n : Int) : Option (ByteArray) := if 0 ≤ n ∧ n ≤ 1000 ∧ s.size ≤ 1000 then some ⟨(Lib.repeatL s.data.toList n.toNat).toArray⟩ else none
theorem strings_Repeat.calls (a0 : ByteArray) (a1 : Int) (r : ByteArray) (w : World) (h : strings_Repeat.f a0 a1 = some r) :
  Calls Tryz.prog 128 #[.string a0, .int .i64 a1] w fun e w' => e = .returned (.string r) ∧ Below w.heap.size w w' := by
 unfold strings_Repeat.f at h; by_cases hc : 0 ≤ a1 ∧ a1 ≤ 1000 ∧ a0.size ≤ 1000
 case neg => rw [if_neg hc] at h; cases h
 rw [if_pos hc] at h; obtain rfl := Option.some.inj h; obtain ⟨n, rfl⟩ := Int.eq_ofNat_of_zero_le hc.1; have h1 : a0.size * n ≤ 1000 * 1000 := Nat.mul_le_mul hc.2.2 (by omega); exact Tryz.strings_Repeat a0 n w (by omega) (by omega)
def unit_pad.f (a0 : Int) (a1 : Int) : Option (ByteArray) := (strconv_Itoa.f a0).bind fun t114 => ((strings_Repeat.f (⟨#[48]⟩ : ByteArray) (mx 0 (wrap64 (a1 - (t114.size : Int))))).bind fun t115 => (if t115.size + t114.size ≤ 9223372036854775807 then (some (t115 ++ t114)) else (none)))
theorem unit_pad.calls (a0 : Int) (a1 : Int) (r : ByteArray) (w : World) (henv : StrEnv w) (h : unit_pad.f a0 a1 = some r) :
  Calls Tryz.prog 146 #[.int .i64 a0, .int .i64 a1] w fun e w' => e = .returned (.string r) ∧ Below w.heap.size w w' := by
 have HENV := Aside0.mk henv; clear henv; have HB := Aside0.mk (Below.refl w.heap.size w); unfold unit_pad.f at h; have H := h; clear h; replace H := Option.bind_eq_some_iff.mp H; obtain ⟨t114, A30, H⟩ := H; (try dsimp only at H); have A3 := Aside0.mk A30; clear A30; obtain ⟨ji4, hji4⟩ : ∃ j_ : Int, (mx 0 (wrap64 (a1 - (t114.size : Int)))) = j_ := ⟨_, rfl⟩; replace H : ((strings_Repeat.f (⟨#[48]⟩ : ByteArray) (ji4)).bind fun t115 => (if t115.size + t114.size ≤ 9223372036854775807 then (some (t115 ++ t114)) else (none))) = some r := by first | (rw [hji4] at H; exact H) | (simp only [hji4] at H ⊢; exact H)
 (try rw [hji4] at A3); (try (have hji4l : 0 ≤ ji4 := by (rw [← hji4]; unfold mx; (repeat' split) <;> omega))); (try (have hji4m : 0 ≤ ji4 := by omega)); have hji4_ : (if 0 < (wrap64 (a1 - (t114.size : Int))) then (wrap64 (a1 - (t114.size : Int))) else 0) = ji4 := hji4; replace H := Option.bind_eq_some_iff.mp H; obtain ⟨t115, A50, H⟩ := H; (try dsimp only at H); have A5 := Aside0.mk A50; clear A50; by_cases c6 : t115.size + t114.size ≤ 9223372036854775807
 ·rw [if_pos c6] at H; have c6b0 := eq_true c6; have c6b1 := decide_eq_true c6; (try have c6b2 : (9223372036854775807 < t115.size + t114.size) = False := eq_false (Nat.not_lt.2 c6)); obtain rfl := Option.some.inj H; go_enter Tryz.func146, Tryz.ntmps146; go_wp2_with (first | ((with_reducible refine gate_callee (f := 60) rfl ?_); refine goesL_ (some 7) rfl rfl Tryz.func60 kl_ rfl #[.int .i64 a0] rfl ar_ ?_; (with_reducible refine (strconv_Itoa.calls a0 t114 _ ?sideE A3.out).mono ?_); (case sideE => exact HENV.out.below b_); rintro e w7 ⟨rfl, hb⟩; refine ⟨_, rfl, ?_⟩; replace HB := Aside0.mk (below_step b_ hb)) | ((with_reducible refine gate_callee (f := 128) rfl ?_); refine goesL_ (some 13) rfl rfl Tryz.func128 kl_ rfl #[.string (⟨#[48]⟩ : ByteArray), .int .i64 ji4] rfl (by (try simp only [List.map_toArray, List.map_cons, List.map_nil]); first | done | (simp only [hji4]; rfl) | rfl | (simp only [List.length_drop, List.length_take]; rfl)) ?_; (with_reducible refine (strings_Repeat.calls (⟨#[48]⟩ : ByteArray) ji4 t115 _ A5.out).mono ?_); rintro e w8 ⟨rfl, hb⟩; refine ⟨_, rfl, ?_⟩; replace HB := Aside0.mk (below_step b_ hb))); go_ret; exact ⟨by first | rfl | (simp [errW_none, errW_some] <;> rfl) | (simp only [← hji4]; first | rfl | (simp [errW_none, errW_some] <;> rfl)) | (simp [*, errW_none, errW_some] <;> rfl), b_⟩
 ·rw [if_neg c6] at H; exact absurd H (by simp)
end Go.Proofs.YtkjneemcledfjaaGreatDoor.PBookCases
