import Derived.Laws.IdiomCopy
import Derived.Test.YtkjneemcledfjaaGreatDoorPBookCasesx0
import Derived.Test.YtkjneemcledfjaaGreatDoorPBookCasesx2
import Derived.Test.YtkjneemcledfjaaGreatDoorPBookCasesx3
import Derived.Test.YtkjneemcledfjaaGreatDoorPBookCasesx15
namespace Go.Proofs.YtkjneemcledfjaaGreatDoor.PBookCases
open Go.RowKit Go.Proofs.YtkjneemcledfjaaGreatDoorW.PrintWords Go.Proofs.YtkjneemcledfjaaGreatDoorW.PrintLast Go.Proofs.YtkjneemcledfjaaGreatDoorW.PrintMore
set_option linter.unusedVariables false
set_option linter.unusedSimpArgs false
set_option maxHeartbeats 8000000
set_option maxRecDepth 100000
attribute [local go_sem high] eqA68 eqA73
attribute [local go_sem] fld46_1
theorem clear_two (w : World) (ty : TypeId) (g o n c : Nat) (cs : Array Value) (hb : w.heap[g]? = some (.cells cs 68 (0, 0))) (hl : o + n * 2 ≤ cs.size) :
  ∃ vs : List Value, (Builtin.clear_ #[65] ty #[.slice (some ⟨g, o, none⟩) n c]).run Tryz.prog w = .ok (.tuple #[]) (w.setCells g o vs) := by
 rcases Nat.eq_zero_or_pos n with rfl | hn
 ·exact ⟨[], by simp [Builtin.clear_, run_underlying Tryz.underlying65, World.setCells]⟩
 ·obtain ⟨m, rfl⟩ : ∃ m, n = m + 1 := ⟨n - 1, by omega⟩; refine ⟨(Builtin.zeroCells (Value.agg #[.int .i64 0, .string ⟨#[]⟩]).cells (m + 1)).toList, ?_⟩; have hcells : (Value.agg #[.int .i64 0, .string ⟨#[]⟩]).cells = #[.int .i64 0, .string ⟨#[]⟩] := rfl; have hlen : (Builtin.zeroCells (Value.agg #[.int .i64 0, .string ⟨#[]⟩]).cells (m + 1)).toList.length = (m + 1) * 2 := by
   rw [hcells]; simp [Builtin.zeroCells]
  have h1 : ∀ v ∈ (Builtin.zeroCells (Value.agg #[.int .i64 0, .string ⟨#[]⟩]).cells (m + 1)).toList, v.oneCell' = true := by
   intro v hv; rw [hcells] at hv; simp only [Builtin.zeroCells, Array.toList_map, List.mem_map, Array.toList_range, List.mem_range] at hv; obtain ⟨i, _, rfl⟩ := hv; have hi : i % 2 = 0 ∨ i % 2 = 1 := by omega
   show ((#[Value.int .i64 0, .string ⟨#[]⟩] : Array Value)[i % 2]!).oneCell' = true; rcases hi with e | e <;> rw [e] <;> rfl
  have hst := run_storeCells_cells (P := Tryz.prog) g o (Builtin.zeroCells (Value.agg #[.int .i64 0, .string ⟨#[]⟩]).cells (m + 1)).toList 0 w
   (fun j hj => by
    have : o + 0 + j < cs.size := by rw [hlen] at hj; omega
    rw [blk_cell hb, Array.getElem?_eq_getElem this]; rfl)
   (fun j hj => blk_frozen hb _) h1
  simp only [Nat.add_zero] at hst; have hv : (zeroValue 68).run Tryz.prog w = .ok (Value.agg #[.int .i64 0, .string ⟨#[]⟩]) w := Tryz.zeroValue68 w; simp [Builtin.clear_, run_underlying Tryz.underlying65, hv, hst]
theorem clear_event {ops : Array Oper} {rest : List Oper} {o : Oper} {a : Act} {Q : Exit → Act → World → Prop} {W W1 : World} (hgd : o.guard = none) (hd : o.dst = none) (x : Operand) (ho : o.op = .call { callee := .builtin .clear, args := #[x], argTypes := #[65] }) (v : Value) (hx : a.eval x = v)
  (hrun : (Builtin.clear_ #[65] o.type #[v]).run Tryz.prog W = .ok (.tuple #[]) W1) (h : wpList Tryz.prog ops Q rest a W1) : wpList Tryz.prog ops Q (o :: rest) a W := by
 refine Kd.event_run (v := .tuple #[]) (w1 := W1) hgd ?_ (by rw [hd]; exact h); unfold execOp; simp only [ho, resolve, invoke, builtin, Sem.run_bind, Sem.run_pure, Result.andThen_ok, List.map_toArray, List.map_cons, List.map_nil, hx, hrun]
theorem far_list (k : Nat) : ∀ (vs : List Value) (g o : Nat) (W : World) (cs : Array Value), W.heap[g]? = some (.cells cs 68 (0, 0)) → k ≤ o → ∃ ds, (W.setCells g o vs).heap[g]? = some (.cells ds 68 (0, 0)) ∧ ds.size = cs.size ∧ ds.toList.take k = cs.toList.take k
 | [], _, _, _, cs, h, _ => ⟨cs, h, rfl, rfl⟩
 | v :: vs, g, o, W, cs, h, hk => by
  have h1 : (W.setCell ⟨g, o, none⟩ v).heap[g]? = some (.cells (cs.setIfInBounds o v) 68 (0, 0)) := blk_set h o v
  obtain ⟨ds, h2, h3, h4⟩ := far_list k vs g (o + 1) _ _ h1 (by omega)
  refine ⟨ds, h2, by simpa using h3, h4.trans ?_⟩
  rw [Array.toList_setIfInBounds, List.take_set_of_le hk]
theorem sets_other (g i : Nat) (hi : i ≠ g) : ∀ (vs : List Value) (j : Nat) (W : World), (W.setCells g j vs).heap[i]? = W.heap[i]?
 | [], _, _ => rfl
 | v :: vs, j, W => (sets_other g i hi vs (j + 1) _).trans (Below.heap_setCell W ⟨g, j, none⟩ v i hi)
theorem sets_grown (g : Nat) : ∀ (vs : List Value) (j : Nat) (W : World), W.grownBy (W.setCells g j vs) (some g)
 | [], _, _ => ⟨rfl, rfl, rfl, Nat.le_refl _, fun _ _ _ => rfl⟩
 | v :: vs, j, W => by
  obtain ⟨h1, h2, h3, h4, _⟩ := sets_grown g vs (j + 1) (W.setCell ⟨g, j, none⟩ v)
  exact ⟨h1, h2, h3, Nat.le_trans (Nat.le_of_eq (by simp [World.setCell])) h4, fun k _ hk => sets_other g k (fun e => hk (by rw [e])) (v :: vs) j W⟩
theorem take_far {W : World} {base g m c o : Nat} {ok : Nat → Prop} {xs : List S68} (h : Kd.R k68 68 W base ok (.slice (some ⟨g, 0, none⟩) m c) xs) (hm : 0 < m) (hk : m * 2 ≤ o) (vs : List Value) : Kd.R k68 68 (W.setCells g o vs) base ok (.slice (some ⟨g, 0, none⟩) m c) xs := by
 obtain ⟨h0, inner, hown, hreps⟩ := h; have hxl : xs.length = m := by
  obtain ⟨A, c', e, _⟩ := Kd.R_reads (⟨h0, inner, hown, hreps⟩ : Kd.R k68 68 W base ok (.slice (some ⟨g, 0, none⟩) m c) xs); injection e with _ e _; exact e.symm
 refine ⟨h0, inner, ⟨hown.1, ?_⟩, hreps⟩; rcases hown.2 with ⟨hn, _⟩ | ⟨g', cap, cur, hu, hbase, hb, h1, h2, h3, h4⟩
 ·cases hn
 ·injection hu with e1 e2 e3; injection e1 with e1; injection e1 with e1; subst e1; subst e3; obtain ⟨ds, q1, q2, q3⟩ := far_list (m * 2) vs g o W cur hb hk; have h4' : cur.toList.take (xs.length * 2) = inner := h4; refine .inr ⟨g, c, ds, by rw [hxl], hbase, q1, h1, h2, q2.trans h3, ?_⟩; show ds.toList.take (xs.length * 2) = inner; rw [hxl] at h4' ⊢; rw [q3, h4']
structure Tail (x y : List S68) (k0 j k : Int) : Prop where
 p0 : 0 ≤ k0
 j1 : 1 ≤ j
 k1 : 1 ≤ k
 kj : k ≤ k0 + j - 1
 len : (y.length : Int) + k0 = x.length
 eq : ∀ m : Nat, j - 1 ≤ m → m < y.length → x.getD (k0.toNat + m) z68 = y.getD m z68
theorem addN (G n m : Nat) : Addr.add ⟨G, n, none⟩ m = ⟨G, n + m, none⟩ := by
 unfold Addr.add; split
 ·rename_i h0; rw [h0]; simp
 ·simp
theorem tail_at {W : World} {base n c : Nat} {ok : Nat → Prop} {A A13 : Option Addr} {x y : List S68} {k0 j k : Int} (h : Kd.R k68 68 W base ok (.slice A n c) x) (ht : Tail x y k0 j k) (hA : A13 = (if c = k0.toNat then A else A.map (·.add (k0.toNat * 2)))) (i : Int) (hj : j - 1 ≤ i) (h0 : 0 ≤ i) (h1 : i < (y.length : Int)) :
  ∃ ad, A13 = some ad ∧ W.cell? (ad.add (i.toNat * 2)) = some (.int .i64 (rd_T68 y i).f0) ∧ W.cell? ⟨(ad.add (i.toNat * 2)).block, (ad.add (i.toNat * 2)).off + 1, none⟩ = some (.string (rd_T68 y i).f1) := by
 obtain ⟨hn, hc, hC⟩ := Kd.R_reads' h; subst hn; have hl := ht.len; have hk := ht.p0; obtain ⟨g, cap, e, _⟩ := Kd.R_form h (by omega); injection e with e1 _ e3; subst e1; obtain ⟨ad, ea, c0, c1⟩ := at_T68 hC (k0 + i) (by omega) (by omega); obtain rfl := Option.some.inj ea; have he : rd_T68 x (k0 + i) = rd_T68 y i := by
  have := ht.eq i.toNat (by omega) (by omega); unfold rd_T68; rw [show (k0 + i).toNat = k0.toNat + i.toNat from by omega]; exact this
 have hx : Addr.add ⟨g, 0, none⟩ ((k0 + i).toNat * 2) = Addr.add (Addr.add ⟨g, 0, none⟩ (k0.toNat * 2)) (i.toNat * 2) := by
  rw [addN, addN, addN]; congr 1; omega
 rw [he, hx] at c0 c1; rw [if_neg (by omega)] at hA; exact ⟨_, hA, c0, c1⟩
theorem Tail.start {x y : List S68} {k0 : Int} (h0 : 1 ≤ k0) (h1 : k0 ≤ (x.length : Int)) (hy : y = x.drop k0.toNat) : Tail x y k0 1 k0 := by
 subst hy; refine ⟨by omega, by omega, by omega, by omega, by rw [List.length_drop]; omega, fun m _ hm => ?_⟩; simp only [List.getD_eq_getElem?_getD, List.getElem?_drop]
theorem Tail.skip {x y : List S68} {k0 j k : Int} (h : Tail x y k0 j k) : Tail x y k0 (j + 1) k := ⟨h.p0, by have := h.j1; omega, h.k1, by have := h.kj; omega, h.len, fun m hm => h.eq m (by omega)⟩
theorem Tail.put {x y : List S68} {k0 j k : Int} (h : Tail x y k0 j k) (hk : 0 ≤ k) (v : S68) : Tail (x.set k.toNat v) y k0 (j + 1) (k + 1) := by
 have := h.kj; have := h.p0; refine ⟨h.p0, by have := h.j1; omega, by have := h.k1; omega, by omega, by rw [List.length_set]; exact h.len, fun m hm hl => ?_⟩; have e := h.eq m (by omega) hl; rw [← e]; simp only [List.getD_eq_getElem?_getD]; rw [List.getElem?_set_ne (by omega)]
theorem tail_ji {x y : List S68} {k0 j k i : Int} (h : Tail x y k0 j k) (hx : x.length ≤ maxLen) (hj : j < (y.length : Int)) (e : wrap64 (j - 1) = i) : j - 1 ≤ i := by
 have := h.len; have := h.p0; have := h.j1; simp only [maxLen] at hx; rw [← e]; unfold wrap64; omega
theorem Tail.skip' {x y : List S68} {k0 j k : Int} (h : Tail x y k0 j k) (hx : x.length ≤ maxLen) (hj : j < (y.length : Int)) : Tail x y k0 (wrap64 (j + 1)) k := by
 have := h.len; have := h.p0; have := h.j1; simp only [maxLen] at hx; rw [show wrap64 (j + 1) = j + 1 from by unfold wrap64; omega]; exact h.skip
theorem Tail.put' {x y z : List S68} {k0 j k : Int} (h : Tail x y k0 j k) (hx : x.length ≤ maxLen) (hj : j < (y.length : Int)) {v : S68} (e : z = x.set k.toNat v) : Tail z y k0 (wrap64 (j + 1)) (wrap64 (k + 1)) := by
 have := h.len; have := h.p0; have := h.j1; have := h.k1; have := h.kj; simp only [maxLen] at hx; rw [show wrap64 (j + 1) = j + 1 from by unfold wrap64; omega, show wrap64 (k + 1) = k + 1 from by unfold wrap64; omega, e]; exact h.put (by omega) v
theorem clear_cut {W : World} {base n c m : Nat} {ok : Nat → Prop} {A A28 : Option Addr} {x : List S68} (c28 : Nat) (k : Int) (h : Kd.R k68 68 W base ok (.slice A n c) x) (h1 : 1 ≤ k) (hk : k ≤ (n : Int)) (hm : m = n - k.toNat) (hA : A28 = (if c = k.toNat then A else A.map (·.add (k.toNat * 2)))) :
  ∃ W1 g, (∀ ty, (Builtin.clear_ #[65] ty #[.slice A28 m c28]).run Tryz.prog W = .ok (.tuple #[]) W1) ∧ W.grownBy W1 (some g) ∧ (Value.slice A n c).ownBlock = some g ∧ ∀ (xs : List S68) (mm cc : Nat), 0 < mm → mm ≤ k.toNat → Kd.R k68 68 W base ok (.slice A mm cc) xs → Kd.R k68 68 W1 base ok (.slice A mm cc) xs := by
 have hn : n = x.length := (Kd.R_reads' h).1; obtain ⟨g, cap, e, _⟩ := Kd.R_form h (by omega); injection e with e1 _ e3; subst e1; subst e3; by_cases hc : c = k.toNat
 ·rw [if_pos hc] at hA; have hcn := (Kd.R_reads' h).2.1; have hm0 : m = 0 := by omega
  subst hm0; subst hA; exact ⟨W, g, fun ty => by simp [Builtin.clear_, run_underlying Tryz.underlying65], ⟨rfl, rfl, rfl, Nat.le_refl _, fun _ _ _ => rfl⟩, rfl, fun xs mm cc _ _ hR => hR⟩
 ·rw [if_neg hc] at hA; have hA' : A28 = some ⟨g, k.toNat * 2, none⟩ := by rw [hA]; show some (Addr.add ⟨g, 0, none⟩ (k.toNat * 2)) = _; rw [addN, Nat.zero_add]
  obtain ⟨_, inner, hown, _⟩ := h; rcases hown.2 with ⟨hnn, _⟩ | ⟨g', cap', cur, hu, hbase, hb, q1, q2, q3, q4⟩
  ·cases hnn
  ·injection hu with u1 u2 u3; injection u1 with u1; injection u1 with u1; subst u1; subst u3; have q3' : cur.size = c * 2 := q3; have hcn : x.length ≤ c := q1; obtain ⟨vs, hr⟩ : ∃ vs : List Value, ∀ ty, (Builtin.clear_ #[65] ty #[.slice (some ⟨g, k.toNat * 2, none⟩) m c28]).run Tryz.prog W = .ok (.tuple #[]) (W.setCells g (k.toNat * 2) vs) := by
    obtain ⟨vs, hr⟩ := clear_two W 0 g (k.toNat * 2) m c28 cur hb (by omega); exact ⟨vs, fun ty => by rw [show (Builtin.clear_ #[65] ty #[.slice (some ⟨g, k.toNat * 2, none⟩) m c28]) = (Builtin.clear_ #[65] 0 #[.slice (some ⟨g, k.toNat * 2, none⟩) m c28]) from rfl]; exact hr⟩
   exact ⟨_, g, fun ty => by rw [hA']; exact hr ty, sets_grown g vs (k.toNat * 2) W, rfl, fun xs mm cc h0 hle hR => take_far hR h0 (by omega) vs⟩
theorem kept_row {w W W1 : World} {g : Nat} {P0 : Nat → Prop} (h : Kept w W P0) (hg : W.grownBy W1 (some g)) (hp : P0 g ∨ w.heap.size ≤ g) : Kept w W1 P0 :=
 ⟨Nat.le_trans h.1 hg.size, fun i hi hn => (hg.block i (Nat.lt_of_lt_of_le hi h.1) (fun e => by
  obtain rfl := Option.some.inj e
  rcases hp with hp | hp
  ·exact hn hp
  ·omega)).trans (h.2 i hi hn)⟩
mutual
def fact_Key_49.l0 : Nat → List (S68) → Int → Option ((List (S68)))
 | 0, _, _ => none
 | k + 1, x0, x3 => if x3 < (x0.length : Int) then (if 0 ≤ x3 then (if 0 ≤ (wrap64 (x3 - 1)) then (if (wrap64 (x3 - 1)) < (x0.length : Int) then (if (((rd_T68 x0 x3).f0) == ((rd_T68 x0 (wrap64 (x3 - 1))).f0) && ((((rd_T68 x0 x3).f1).toList) == (((rd_T68 x0 (wrap64 (x3 - 1))).f1).toList))) = true then (if x3 ≤ (x0.length : Int) then (fact_Key_49.l1 k x0 x3 (x0.drop (x3 : Int).toNat) 1) else (none)) else (fact_Key_49.l0 k x0 (wrap64 (x3 + 1)))) else (none)) else (none)) else (none)) else (some x0)
def fact_Key_49.l1 : Nat → List (S68) → Int → List (S68) → Int → Option ((List (S68)))
 | 0, _, _, _, _ => none
 | k + 1, x0, x3, x4, x5 => if x5 < (x4.length : Int) then (if 0 ≤ x5 then (if 0 ≤ (wrap64 (x5 - 1)) then (if (wrap64 (x5 - 1)) < (x4.length : Int) then (if (!(((rd_T68 x4 x5).f0) == ((rd_T68 x4 (wrap64 (x5 - 1))).f0)) || (!((((rd_T68 x4 x5).f1).toList) == (((rd_T68 x4 (wrap64 (x5 - 1))).f1).toList)))) = true then (if 0 ≤ x3 then (if x3 < (x0.length : Int) then (fact_Key_49.l1 k (x0.set (x3 : Int).toNat (⟨(rd_T68 x4 x5).f0, (rd_T68 x4 x5).f1⟩ : S68)) (wrap64 (x3 + 1)) x4 (wrap64 (x5 + 1))) else (none)) else (none)) else (fact_Key_49.l1 k x0 x3 x4 (wrap64 (x5 + 1)))) else (none)) else (none)) else (none)) else (if 0 ≤ x3 then (if x3 ≤ (x0.length : Int) then (some (x0.take (x3 : Int).toNat)) else (none)) else (none))
end
def fact_Key_49.f (k : Nat) (l0 : List (S68)) : Option ((List (S68))) := if (l0.length : Int) < 2 then (some l0) else (fact_Key_49.l0 k l0 1)
theorem fact_Key_49.calls (k : Nat) (P0_ : Nat → Prop) (u9000_ : Value) (l0 : List (S68)) (r : List (S68)) (w0 w : World) (hB : Below w0.heap.size w0 w) (ho0 : Kd.R k68 68 w w0.heap.size P0_ u9000_ l0) (h : fact_Key_49.f k l0 = some r) :
  Calls Tryz.prog 49 #[u9000_] w fun e w' => ∃ v0_ : Value, e = .returned (v0_) ∧ Kd.R k68 68 w' w0.heap.size (fun k_ => (P0_ k_ ∨ w.heap.size ≤ k_)) v0_ r ∧ Below w0.heap.size w0 w' ∧ Kept w w' (fun k_ => P0_ k_) := by
 have hu68 := Tryz.underlying68; have HO0 := Aside0.mk (show Kd.R k68 68 w w0.heap.size (fun k_ => (P0_ k_ ∨ w.heap.size ≤ k_)) u9000_ l0 from Kd.R_mono ho0 (fun k_ hk => (.inl hk))); have HK := Aside0.mk (Kept.refl w (fun k_ => P0_ k_)); have HW0 := Aside0.mk hB.size; have HB := Aside0.mk hB; clear hB; unfold fact_Key_49.f at h; have H := h; clear h; by_cases c2 : (l0.length : Int) < 2
 ·rw [if_pos c2] at H; have c2b0 := decide_eq_true c2; have c2b1 : decide (l0.length < 2) = true := decide_eq_true (by omega); clear c2; obtain rfl := Option.some.inj H; obtain ⟨Ao3, co3, eo3⟩ := Kd.R_slice HO0.out; subst eo3; go_enter Tryz.func49, Tryz.ntmps49; go_wp2; repeat (go_quiet (fail); try go_wp2)
  go_ret; exact ⟨_, re_, kr_ HO0.out, b_, by repeat (first | (with_reducible first | exact HK.out | apply Kept.alloc | apply Kept.drewN | apply Kept.drew) | exact HK.out)⟩
 ·rw [if_neg c2] at H; have c2b0 := decide_eq_false c2; have c2b1 : decide (l0.length < 2) = false := decide_eq_false (by omega); clear c2; have H' := Aside0.mk H; clear H; obtain ⟨Ao4, co4, eo4⟩ := Kd.R_slice HO0.out; subst eo4; go_enter Tryz.func49, Tryz.ntmps49; go_wp2; repeat (go_quiet (fail); try go_wp2)
  go_loopg [3] k (fun kq v3 w' => ∃ (x0_1 : List (S68)) (x3_1 : Int), v3 = .int .i64 x3_1 ∧ Aside0 (fact_Key_49.l0 kq x0_1 x3_1 = some r) ∧ Aside0 (kq ≤ k) ∧ Aside0 (Kd.R k68 68 w' w0.heap.size (fun k_ => (P0_ k_ ∨ w.heap.size ≤ k_)) (.slice Ao4 l0.length co4) x0_1) ∧ Aside0 (Kept w w' (fun k_ => P0_ k_)) ∧ Aside0 (Below w0.heap.size w0 w'))
  case atStart => exact ⟨(l0), (1), rf_, H', ⟨Nat.le_refl _⟩, ⟨kr_ HO0.out⟩, ⟨by repeat (first | (with_reducible first | exact HK.out | apply Kept.alloc | apply Kept.drewN | apply Kept.drew) | exact HK.out)⟩, ⟨b_⟩⟩
  case round =>
   clear H'; (try clear c2); (try clear c2b0); (try clear c2b1); (try clear p2); (try clear c4); obtain ⟨x0_1, x3_1, rfl, HA, HK1, HO_0, HK, HB⟩ := hrel; have hl0_1 := (Kd.R_reads' HO_0.out).1; rw [hl0_1] at HO_0; (try simp only [hl0_1])
   cases gk with
   | zero => exact absurd HA.out (by simp [fact_Key_49.l0])
   | succ k1 =>
    have H := HA.out; clear HA; simp only [fact_Key_49.l0] at H; by_cases c5 : x3_1 < (x0_1.length : Int)
    ·rw [if_pos c5] at H; have c5b0 := decide_eq_true c5; clear c5; by_cases c6 : 0 ≤ x3_1
     ·rw [if_pos c6] at H; have c6b0 := decide_eq_true c6; clear c6; obtain ⟨ji7, hji7⟩ : ∃ j_ : Int, (wrap64 (x3_1 - 1)) = j_ := ⟨_, rfl⟩; replace H : (if 0 ≤ (ji7) then (if (ji7) < (x0_1.length : Int) then (if (((rd_T68 x0_1 x3_1).f0) == ((rd_T68 x0_1 (ji7)).f0) && ((((rd_T68 x0_1 x3_1).f1).toList) == (((rd_T68 x0_1 (ji7)).f1).toList))) = true then (if x3_1 ≤ (x0_1.length : Int) then (fact_Key_49.l1 k1 x0_1 x3_1 (x0_1.drop (x3_1 : Int).toNat) 1) else (none)) else (fact_Key_49.l0 k1 x0_1 (wrap64 (x3_1 + 1)))) else (none)) else (none)) = some r := by first | (rw [hji7] at H; exact H) | (simp only [hji7] at H ⊢; exact H)
      have hji7w : (IntKind.i64.wrap (x3_1 - 1)) = ji7 := (i64_w _).trans hji7; by_cases c8 : 0 ≤ (ji7)
      ·rw [if_pos c8] at H; have c8b0 := decide_eq_true c8; clear c8; by_cases c9 : (ji7) < (x0_1.length : Int)
       ·rw [if_pos c9] at H; have c9b0 := decide_eq_true c9; clear c9; by_cases c10 : (((rd_T68 x0_1 x3_1).f0) == ((rd_T68 x0_1 (ji7)).f0) && ((((rd_T68 x0_1 x3_1).f1).toList) == (((rd_T68 x0_1 (ji7)).f1).toList))) = true
        ·rw [if_pos c10] at H; have c10b0 : (((rd_T68 x0_1 x3_1).f0) == ((rd_T68 x0_1 (ji7)).f0) && ((((rd_T68 x0_1 x3_1).f1).toList) == (((rd_T68 x0_1 (ji7)).f1).toList))) = true := c10; (try (have c10b1 : decide (((rd_T68 x0_1 x3_1).f0) = ((rd_T68 x0_1 (ji7)).f0) && ((((rd_T68 x0_1 x3_1).f1).toList) == (((rd_T68 x0_1 (ji7)).f1).toList))) = true := by simpa using c10)); (try (have c10b2 : (((rd_T68 x0_1 x3_1).f0) == ((rd_T68 x0_1 (ji7)).f0) && ((((rd_T68 x0_1 x3_1).f1).toList) == (((rd_T68 x0_1 (ji7)).f1).toList))) = true := by simpa using c10)); clear c10; have c11b0 := eq_true (of_decide_eq_true as_ : 0 ≤ x3_1); by_cases c12 : x3_1 ≤ (x0_1.length : Int)
         ·rw [if_pos c12] at H; have c12b0 := eq_true c12; have c12b1 := decide_eq_true c12; clear c12; obtain ⟨y438, hy438⟩ : ∃ y_ : List (S68), y_ = (x0_1.drop (x3_1 : Int).toNat) := ⟨_, rfl⟩; replace H : (fact_Key_49.l1 k1 x0_1 x3_1 y438 1) = some r := rb_ hy438 H; have Ny438 := Aside0.mk hy438; clear hy438; have H' := Aside0.mk H; clear H; have p436 : 0 ≤ (x3_1 : Int) := of_decide_eq_true as_; have q436 : x3_1 < (x0_1.length : Int) := of_decide_eq_true as_; obtain ⟨ad436, e436, hx436_0, hx436_1⟩ := at_T68 (Kd.R_reads' HO_0.out).2.2 x3_1 p436 q436
          cases e436; replace p436 := eq_true p436; replace q436 := eq_true q436; have p437 : 0 ≤ ((ji7) : Int) := of_decide_eq_true as_; have q437 : (ji7) < (x0_1.length : Int) := of_decide_eq_true as_; have HGE := Aside0.mk (show 1 ≤ x3_1 by
           by_cases hz_ : x3_1 = 0
           ·rw [hz_] at hji7; have e_ : wrap64 ((0 : Int) - 1) = -1 := by simp [wrap64]
            omega
           ·have h1_ : 0 ≤ x3_1 := by simpa using p436
            omega)
          have KLE := Aside0.mk (show x3_1 ≤ (x0_1.length : Int) by have h1_ : x3_1 < (x0_1.length : Int) := (by simpa using q436); omega); obtain ⟨ad437, e437, hx437_0, hx437_1⟩ := at_T68 (Kd.R_reads' HO_0.out).2.2 (ji7) p437 q437; obtain rfl : ad436 = ad437 := (by injection e437); replace p437 := eq_true p437; replace q437 := eq_true q437; have q13 : (x3_1 : Int) ≤ ((x0_1.length : Int) : Int) := of_decide_eq_true as_; obtain ⟨i013, hi013, _, hsz13, _⟩ := info_parts info68; have hroom13 : x0_1.length ≤ co4 := (Kd.R_reads' HO_0.out).2.1; have hC13 : Kd.C k68 _ (some ad436) x0_1.length x0_1 := (Kd.R_reads' HO_0.out).2.2; have q013 : (0 : Int) ≤ (x3_1 : Int) := of_decide_eq_true as_; have hcut13 := cut_from (P := Tryz.prog) 65 68 .i64 Tryz.underlying65 hi013 2 hsz13 (some ad436) x0_1.length co4 x3_1 q013 q13; have hr13 := Kd.C_drop (m := (x3_1 : Int).toNat) (c := co4) hC13 (by omega) hroom13; obtain ⟨A13, hA13⟩ : ∃ A1, A1 = (if co4 = (x3_1 : Int).toNat then (some ad436) else ((some ad436) : Option Addr).map (·.add ((x3_1 : Int).toNat * 2))) := ⟨_, rfl⟩; obtain ⟨c13, hc13⟩ : ∃ c1, c1 = co4 - (x3_1 : Int).toNat := ⟨_, rfl⟩; have hy13 : y438.length = x0_1.length - (x3_1 : Int).toNat := (by rw [Ny438.out, List.length_drop] <;> omega); rw [show (x0_1).drop (x3_1 : Int).toNat = y438 from Ny438.out.symm] at hr13; replace hr13 : Kd.C k68 _ A13 y438.length y438 := (by rw [hA13]; exact hr13); rw [← hy13, ← hA13, ← hc13] at hcut13; have HR441 := Aside0.mk hr13; have HC441 := Aside0.mk (show y438.length ≤ c13 from by rw [hy13, hc13]; exact Nat.sub_le_sub_right hroom13 _); clear hr13 hC13 hroom13 hi013 hsz13 hc13; have KY13 := Aside0.mk hy13; have KA13 := Aside0.mk hA13; clear hy13 hA13; have KL13 := Aside0.mk (show (x3_1 : Int).toNat ≤ x0_1.length from by omega); replace q13 := eq_true q13; go_wp2; repeat (go_quiet (fail); try go_wp2)
          have HTL := Aside0.mk (Tail.start (x := x0_1) (y := y438) (k0 := x3_1) HGE.out KLE.out Ny438.out); generalize Value.pointer (some (ad436.add (x3_1.toNat * 2))) = pz18_; generalize Value.pointer (some (ad436.add (ji7.toNat * 2))) = pz23_; go_loopg [3, 5] k1 (fun kq v3 v5 w' => ∃ (x0_2 : List (S68)) (x3_2 : Int) (x5_2 : Int), v3 = .int .i64 x3_2 ∧ v5 = .int .i64 x5_2 ∧ Aside0 (fact_Key_49.l1 kq x0_2 x3_2 y438 x5_2 = some r) ∧ Aside0 (kq ≤ k1) ∧ Aside0 (Tail x0_2 y438 x3_1 x5_2 x3_2) ∧ Aside0 (Kd.R k68 68 w' w0.heap.size (fun k_ => (P0_ k_ ∨ w.heap.size ≤ k_)) (.slice (some ad436) x0_1.length co4) x0_2) ∧ Aside0 (Kept w w' (fun k_ => P0_ k_)) ∧ Aside0 (Below w0.heap.size w0 w'))
          case atStart => exact ⟨(x0_1), (x3_1), (1), rf_, rf_, H', ⟨Nat.le_refl _⟩, HTL, ⟨by (try simp only [hl0_1]); (with_reducible repeat (first | apply Kd.R_alloc | apply Kd.R_drewN | apply Kd.R_drew)); exact HO_0.out⟩, ⟨by repeat (first | (with_reducible first | exact HK.out | apply Kept.alloc | apply Kept.drewN | apply Kept.drew) | exact HK.out)⟩, ⟨b_⟩⟩
          case round =>
           clear H'; (try clear c1); (try clear q1); (try clear c2); (try clear c2b0); (try clear c2b1); (try clear p2); (try clear c4); (try clear p4); (try clear q4); (try clear hx4); (try clear c5); (try clear c5b0); (try clear c6); (try clear c6b0); (try clear p6); (try clear c8); (try clear c8b0); (try clear c9); (try clear c9b0); (try clear c10); (try clear c10b0); (try clear c10b1); (try clear c10b2); (try clear c11); (try clear c11b0); (try clear c12); (try clear c12b0); (try clear c12b1); (try clear c13); (try clear q13); (try clear hx436_0); (try clear hx436_1); (try clear hx437_0); (try clear hx437_1); (try clear p2); (try clear p436); (try clear p437); (try clear q013); (try clear q13); (try clear q436); (try clear q437); obtain ⟨x0_2, x3_2, x5_2, rfl, rfl, HA, HK2, HTL, HO_0, HK, HB⟩ := hrel; have hl0_2 := (Kd.R_reads' HO_0.out).1; rw [hl0_2] at HO_0; (try simp only [hl0_2])
           cases gk with
           | zero => exact absurd HA.out (by simp [fact_Key_49.l1])
           | succ k2 =>
            have H := HA.out; clear HA; simp only [fact_Key_49.l1] at H; by_cases c14 : x5_2 < (y438.length : Int)
            ·rw [if_pos c14] at H; have c14b0 := decide_eq_true c14; clear c14; by_cases c15 : 0 ≤ x5_2
             ·rw [if_pos c15] at H; have c15b0 := decide_eq_true c15; clear c15; obtain ⟨ji16, hji16⟩ : ∃ j_ : Int, (wrap64 (x5_2 - 1)) = j_ := ⟨_, rfl⟩; replace H : (if 0 ≤ (ji16) then (if (ji16) < (y438.length : Int) then (if (!(((rd_T68 y438 x5_2).f0) == ((rd_T68 y438 (ji16)).f0)) || (!((((rd_T68 y438 x5_2).f1).toList) == (((rd_T68 y438 (ji16)).f1).toList)))) = true then (if 0 ≤ x3_2 then (if x3_2 < (x0_2.length : Int) then (fact_Key_49.l1 k2 (x0_2.set (x3_2 : Int).toNat (⟨(rd_T68 y438 x5_2).f0, (rd_T68 y438 x5_2).f1⟩ : S68)) (wrap64 (x3_2 + 1)) y438 (wrap64 (x5_2 + 1))) else (none)) else (none)) else (fact_Key_49.l1 k2 x0_2 x3_2 y438 (wrap64 (x5_2 + 1)))) else (none)) else (none)) = some r := by first | (rw [hji16] at H; exact H) | (simp only [hji16] at H ⊢; exact H)
              have hji16w : (IntKind.i64.wrap (x5_2 - 1)) = ji16 := (i64_w _).trans hji16; by_cases c17 : 0 ≤ (ji16)
              ·rw [if_pos c17] at H; have c17b0 := decide_eq_true c17; clear c17; by_cases c18 : (ji16) < (y438.length : Int)
               ·rw [if_pos c18] at H; have c18b0 := decide_eq_true c18; clear c18; by_cases c19 : (!(((rd_T68 y438 x5_2).f0) == ((rd_T68 y438 (ji16)).f0)) || (!((((rd_T68 y438 x5_2).f1).toList) == (((rd_T68 y438 (ji16)).f1).toList)))) = true
                ·rw [if_pos c19] at H; have c19b0 : (!(((rd_T68 y438 x5_2).f0) == ((rd_T68 y438 (ji16)).f0)) || (!((((rd_T68 y438 x5_2).f1).toList) == (((rd_T68 y438 (ji16)).f1).toList)))) = true := c19; clear c19; by_cases c20 : 0 ≤ x3_2
                 ·rw [if_pos c20] at H; have c20b0 := decide_eq_true c20; clear c20; by_cases c21 : x3_2 < (x0_2.length : Int)
                  ·rw [if_pos c21] at H; have c21b0 := decide_eq_true c21; clear c21; obtain ⟨y445, hy445⟩ : ∃ y_ : List (S68), y_ = (x0_2.set (x3_2 : Int).toNat (⟨(rd_T68 y438 x5_2).f0, (rd_T68 y438 x5_2).f1⟩ : S68)) := ⟨_, rfl⟩; replace H : (fact_Key_49.l1 k2 y445 (wrap64 (x3_2 + 1)) y438 (wrap64 (x5_2 + 1))) = some r := rb_ hy445 H; have Ny445 := Aside0.mk hy445; have HTP := Aside0.mk (Tail.put' HTL.out (Kd.R_reads' HO_0.out).2.2.2.1 (of_decide_eq_true c14b0) Ny445.out); clear hy445; have H' := Aside0.mk H; clear H; have p442 : 0 ≤ (x5_2 : Int) := of_decide_eq_true as_; have q442 : x5_2 < (y438.length : Int) := of_decide_eq_true as_; obtain ⟨ad442, e442, hx442_0, hx442_1⟩ := tail_at HO_0.out HTL.out KA13.out x5_2 (by omega) p442 q442
                   cases e442; replace p442 := eq_true p442; replace q442 := eq_true q442; have p443 : 0 ≤ ((ji16) : Int) := of_decide_eq_true as_; have q443 : (ji16) < (y438.length : Int) := of_decide_eq_true as_; obtain ⟨ad443, e443, hx443_0, hx443_1⟩ := tail_at HO_0.out HTL.out KA13.out (ji16) (tail_ji HTL.out (Kd.R_reads' HO_0.out).2.2.2.1 (of_decide_eq_true c14b0) hji16) p443 q443; obtain rfl : ad442 = ad443 := (by injection e443); replace p443 := eq_true p443; replace q443 := eq_true q443; have p444 : 0 ≤ (x5_2 : Int) := of_decide_eq_true as_; have q444 : x5_2 < (y438.length : Int) := of_decide_eq_true as_; obtain ⟨ad444, e444, hx444_0, hx444_1⟩ := tail_at HO_0.out HTL.out KA13.out x5_2 (by omega) p444 q444; obtain rfl : ad442 = ad444 := (by injection e444); replace p444 := eq_true p444; replace q444 := eq_true q444; have p22 : 0 ≤ (x3_2 : Int) := of_decide_eq_true as_; have q22 : (x3_2 : Int) < ((x0_2.length : Int) : Int) := of_decide_eq_true as_; obtain ⟨go22, co22, eo22, gb22, gl22, cl22, HG22⟩ := Kd.R_form HO_0.out (by omega); (first | cases eo22 | (injection eo22 with ea_ en_ ec_; (first | subst ea_ | (injection ea_ with ea_; subst ea_)); subst ec_; clear en_)); have GB22 := Aside0.mk gb22; have GG22 := Aside0.mk HG22; clear gb22 gl22 HG22; have HMgo22 := Aside0.mk (show (P0_ go22 ∨ w.heap.size ≤ go22) from (HO_0.out.1 _ rfl)); (first | simp only [add_plain] at hx436_0 | skip); (first | simp only [add_plain] at hx436_1 | skip); (first | simp only [add_plain] at hx437_0 | skip); (first | simp only [add_plain] at hx437_1 | skip); obtain ⟨ce22, hcl22, hM22, hcc22, hfr22⟩ := Kd.R_elem HO_0.out z68 (x3_2 : Int) p22 q22; obtain rfl := k68_openM hM22; have hx22_0 : wr.cell? ⟨go22, (x3_2 : Int).toNat * 2, none⟩ = some (.int .i64 ((rd_T68 x0_2 x3_2).f0)) := hcc22 0 _ rfl; have hx22_1 : wr.cell? ⟨go22, (x3_2 : Int).toNat * 2 + 1, none⟩ = some (.string ((rd_T68 x0_2 x3_2).f1)) := hcc22 1 _ rfl; have hf22_0 : wr.frozen? ⟨go22, (x3_2 : Int).toNat * 2, none⟩ = false := hfr22 0; have hf22_1 : wr.frozen? ⟨go22, (x3_2 : Int).toNat * 2 + 1, none⟩ = false := hfr22 1; clear hcl22 hcc22 hfr22 hM22; replace p22 := eq_true p22; replace q22 := eq_true q22; have HX23 := Aside0.mk (show Kd.R k68 68 wr w0.heap.size (fun k_ => (P0_ k_ ∨ w.heap.size ≤ k_)) (.slice (some ⟨go22, 0, none⟩) x0_2.length co4) x0_2 from (kr_ HO_0.out)); obtain ⟨ce23, hcl23, hM23, hcc23, hfr23⟩ := Kd.R_elem HX23.out z68 (x3_2 : Int) (of_decide_eq_true as_) (by have h_ : (x3_2 : Int) < ((x0_2.length : Int) : Int) := of_decide_eq_true as_; first | exact h_ | (have e_ := (Kd.R_reads' HO_0.out).1; omega) | simpa using h_); obtain rfl := k68_openM hM23; have HP23 := Kd.R_seg HX23.out (x3_2 : Int) (of_decide_eq_true as_) (by have h_ : (x3_2 : Int) < ((x0_2.length : Int) : Int) := of_decide_eq_true as_; first | exact h_ | (have e_ := (Kd.R_reads' HO_0.out).1; omega) | simpa using h_) (seg := [.int .i64 ((rd_T68 y438 x5_2).f0), .string ((rd_T68 y438 x5_2).f1)]) (j := 0) hcl23 hcc23 (show 2 ≤ 2 from by decide) (x' := (⟨(rd_T68 y438 x5_2).f0, (rd_T68 y438 x5_2).f1⟩ : S68)) (k68_mkM _ _ _ (⟨(rd_T68 y438 x5_2).f0, (rd_T68 y438 x5_2).f1⟩ : S68) ) (fun _ hk => hk); have hx23_0 := hcc23 0 _ rfl; (try simp only [show (k68).sz = 2 from rfl, Nat.mul_one, Nat.add_zero] at hx23_0); have hf23_0 := hfr23 0; (try simp only [show (k68).sz = 2 from rfl, Nat.mul_one, Nat.add_zero] at hf23_0); have hx23_1 := hcc23 1 _ rfl; (try simp only [show (k68).sz = 2 from rfl, Nat.mul_one, Nat.add_zero] at hx23_1); have hf23_1 := hfr23 1; (try simp only [show (k68).sz = 2 from rfl, Nat.mul_one, Nat.add_zero] at hf23_1); clear hcl23 hcc23 hfr23 hM23; go_wp2_with (first | ((with_reducible refine gate_store (t := 68) (p := 51) rfl ?_); (try (rw [drewN_self wr]; generalize hq_ : World.drewN wr _ = wr; replace HO_0 := Aside0.mk (Kd.R_at hq_ HO_0.out); replace HK := Aside0.mk (kept_at hq_ HK.out); replace HB := Aside0.mk (below_at hq_ HB.out); clear hq_; (try (have HX23 := Aside0.mk (show Kd.R k68 68 wr w0.heap.size (fun k_ => (P0_ k_ ∨ w.heap.size ≤ k_)) (.slice (some ⟨go22, 0, none⟩) x0_2.length co4) x0_2 from (kr_ HO_0.out)))); (try (obtain ⟨ce23, hcl23, hM23, hcc23, hfr23⟩ := Kd.R_elem HX23.out z68 (x3_2 : Int) (of_decide_eq_true as_) (by have h_ : (x3_2 : Int) < ((x0_2.length : Int) : Int) := of_decide_eq_true as_; first | exact h_ | (have e_ := (Kd.R_reads' HO_0.out).1; omega) | simpa using h_))); (try (obtain rfl := k68_openM hM23)); (try (have HP23 := Kd.R_seg HX23.out (x3_2 : Int) (of_decide_eq_true as_) (by have h_ : (x3_2 : Int) < ((x0_2.length : Int) : Int) := of_decide_eq_true as_; first | exact h_ | (have e_ := (Kd.R_reads' HO_0.out).1; omega) | simpa using h_) (seg := [.int .i64 ((rd_T68 y438 x5_2).f0), .string ((rd_T68 y438 x5_2).f1)]) (j := 0) hcl23 hcc23 (show 2 ≤ 2 from by decide) (x' := (⟨(rd_T68 y438 x5_2).f0, (rd_T68 y438 x5_2).f1⟩ : S68)) (k68_mkM _ _ _ (⟨(rd_T68 y438 x5_2).f0, (rd_T68 y438 x5_2).f1⟩ : S68) ) (fun _ hk => hk))); (try (have hx23_0 := hcc23 0 _ rfl)); (try (try simp only [show (k68).sz = 2 from rfl, Nat.mul_one, Nat.add_zero] at hx23_0)); (try (have hf23_0 := hfr23 0)); (try (try simp only [show (k68).sz = 2 from rfl, Nat.mul_one, Nat.add_zero] at hf23_0)); (try (have hx23_1 := hcc23 1 _ rfl)); (try (try simp only [show (k68).sz = 2 from rfl, Nat.mul_one, Nat.add_zero] at hx23_1)); (try (have hf23_1 := hfr23 1)); (try (try simp only [show (k68).sz = 2 from rfl, Nat.mul_one, Nat.add_zero] at hf23_1)); (try (clear hcl23 hcc23 hfr23 hM23)))); refine store_event (t := 68) (p := 51) (v := ?vo_w24) (w1 := ((wr.setCell ⟨go22, (x3_2 : Int).toNat * 2, none⟩ (.int .i64 ((rd_T68 y438 x5_2).f0))).setCell ⟨go22, (x3_2 : Int).toNat * 2 + 1, none⟩ (.string ((rd_T68 y438 x5_2).f1)))) ?hg ?ho ?hn ?hr ?_; (case ho => rfl); (case hg => rfl); (case hn => rfl); (case hr => first | (go_simp; done) | (go_simp; rfl)); intro w24 hw; have hg : wr.grownBy w24 (some go22) := (by rw [hw]; exact HP23.2); have hp_ : Kd.R k68 68 w24 w0.heap.size (fun k_ => (P0_ k_ ∨ w.heap.size ≤ k_)) (.slice (some ⟨go22, 0, none⟩) x0_2.length co4) y445 := (by rw [hw, Ny445.out]; exact HP23.1); clear HP23; replace HB := Aside0.mk ((by rw [hw]; exact below_set (below_set (HB.out) GB22.out) GB22.out : Below w0.heap.size w0 w24)); replace HK := Aside0.mk (Kept.of_grown (S := (fun k_ => P0_ k_)) hg s8_ (fun k_ e_ => (HO_0.out.1 k_ e_))); replace HO_0 := Aside0.mk (hp_); clear hg hw hp_)); repeat (go_quiet (first | ((with_reducible refine gate_store (t := 68) (p := 51) rfl ?_); (try (rw [drewN_self wr]; generalize hq_ : World.drewN wr _ = wr; replace HO_0 := Aside0.mk (Kd.R_at hq_ HO_0.out); replace HK := Aside0.mk (kept_at hq_ HK.out); replace HB := Aside0.mk (below_at hq_ HB.out); clear hq_; (try (have HX23 := Aside0.mk (show Kd.R k68 68 wr w0.heap.size (fun k_ => (P0_ k_ ∨ w.heap.size ≤ k_)) (.slice (some ⟨go22, 0, none⟩) x0_2.length co4) x0_2 from (kr_ HO_0.out)))); (try (obtain ⟨ce23, hcl23, hM23, hcc23, hfr23⟩ := Kd.R_elem HX23.out z68 (x3_2 : Int) (of_decide_eq_true as_) (by have h_ : (x3_2 : Int) < ((x0_2.length : Int) : Int) := of_decide_eq_true as_; first | exact h_ | (have e_ := (Kd.R_reads' HO_0.out).1; omega) | simpa using h_))); (try (obtain rfl := k68_openM hM23)); (try (have HP23 := Kd.R_seg HX23.out (x3_2 : Int) (of_decide_eq_true as_) (by have h_ : (x3_2 : Int) < ((x0_2.length : Int) : Int) := of_decide_eq_true as_; first | exact h_ | (have e_ := (Kd.R_reads' HO_0.out).1; omega) | simpa using h_) (seg := [.int .i64 ((rd_T68 y438 x5_2).f0), .string ((rd_T68 y438 x5_2).f1)]) (j := 0) hcl23 hcc23 (show 2 ≤ 2 from by decide) (x' := (⟨(rd_T68 y438 x5_2).f0, (rd_T68 y438 x5_2).f1⟩ : S68)) (k68_mkM _ _ _ (⟨(rd_T68 y438 x5_2).f0, (rd_T68 y438 x5_2).f1⟩ : S68) ) (fun _ hk => hk))); (try (have hx23_0 := hcc23 0 _ rfl)); (try (try simp only [show (k68).sz = 2 from rfl, Nat.mul_one, Nat.add_zero] at hx23_0)); (try (have hf23_0 := hfr23 0)); (try (try simp only [show (k68).sz = 2 from rfl, Nat.mul_one, Nat.add_zero] at hf23_0)); (try (have hx23_1 := hcc23 1 _ rfl)); (try (try simp only [show (k68).sz = 2 from rfl, Nat.mul_one, Nat.add_zero] at hx23_1)); (try (have hf23_1 := hfr23 1)); (try (try simp only [show (k68).sz = 2 from rfl, Nat.mul_one, Nat.add_zero] at hf23_1)); (try (clear hcl23 hcc23 hfr23 hM23)))); refine store_event (t := 68) (p := 51) (v := ?vo_w24) (w1 := ((wr.setCell ⟨go22, (x3_2 : Int).toNat * 2, none⟩ (.int .i64 ((rd_T68 y438 x5_2).f0))).setCell ⟨go22, (x3_2 : Int).toNat * 2 + 1, none⟩ (.string ((rd_T68 y438 x5_2).f1)))) ?hg ?ho ?hn ?hr ?_; (case ho => rfl); (case hg => rfl); (case hn => rfl); (case hr => first | (go_simp; done) | (go_simp; rfl)); intro w24 hw; have hg : wr.grownBy w24 (some go22) := (by rw [hw]; exact HP23.2); have hp_ : Kd.R k68 68 w24 w0.heap.size (fun k_ => (P0_ k_ ∨ w.heap.size ≤ k_)) (.slice (some ⟨go22, 0, none⟩) x0_2.length co4) y445 := (by rw [hw, Ny445.out]; exact HP23.1); clear HP23; replace HB := Aside0.mk ((by rw [hw]; exact below_set (below_set (HB.out) GB22.out) GB22.out : Below w0.heap.size w0 w24)); replace HK := Aside0.mk (Kept.of_grown (S := (fun k_ => P0_ k_)) hg s8_ (fun k_ e_ => (HO_0.out.1 k_ e_))); replace HO_0 := Aside0.mk (hp_); clear hg hw hp_)); try go_wp2_with (first | ((with_reducible refine gate_store (t := 68) (p := 51) rfl ?_); (try (rw [drewN_self wr]; generalize hq_ : World.drewN wr _ = wr; replace HO_0 := Aside0.mk (Kd.R_at hq_ HO_0.out); replace HK := Aside0.mk (kept_at hq_ HK.out); replace HB := Aside0.mk (below_at hq_ HB.out); clear hq_; (try (have HX23 := Aside0.mk (show Kd.R k68 68 wr w0.heap.size (fun k_ => (P0_ k_ ∨ w.heap.size ≤ k_)) (.slice (some ⟨go22, 0, none⟩) x0_2.length co4) x0_2 from (kr_ HO_0.out)))); (try (obtain ⟨ce23, hcl23, hM23, hcc23, hfr23⟩ := Kd.R_elem HX23.out z68 (x3_2 : Int) (of_decide_eq_true as_) (by have h_ : (x3_2 : Int) < ((x0_2.length : Int) : Int) := of_decide_eq_true as_; first | exact h_ | (have e_ := (Kd.R_reads' HO_0.out).1; omega) | simpa using h_))); (try (obtain rfl := k68_openM hM23)); (try (have HP23 := Kd.R_seg HX23.out (x3_2 : Int) (of_decide_eq_true as_) (by have h_ : (x3_2 : Int) < ((x0_2.length : Int) : Int) := of_decide_eq_true as_; first | exact h_ | (have e_ := (Kd.R_reads' HO_0.out).1; omega) | simpa using h_) (seg := [.int .i64 ((rd_T68 y438 x5_2).f0), .string ((rd_T68 y438 x5_2).f1)]) (j := 0) hcl23 hcc23 (show 2 ≤ 2 from by decide) (x' := (⟨(rd_T68 y438 x5_2).f0, (rd_T68 y438 x5_2).f1⟩ : S68)) (k68_mkM _ _ _ (⟨(rd_T68 y438 x5_2).f0, (rd_T68 y438 x5_2).f1⟩ : S68) ) (fun _ hk => hk))); (try (have hx23_0 := hcc23 0 _ rfl)); (try (try simp only [show (k68).sz = 2 from rfl, Nat.mul_one, Nat.add_zero] at hx23_0)); (try (have hf23_0 := hfr23 0)); (try (try simp only [show (k68).sz = 2 from rfl, Nat.mul_one, Nat.add_zero] at hf23_0)); (try (have hx23_1 := hcc23 1 _ rfl)); (try (try simp only [show (k68).sz = 2 from rfl, Nat.mul_one, Nat.add_zero] at hx23_1)); (try (have hf23_1 := hfr23 1)); (try (try simp only [show (k68).sz = 2 from rfl, Nat.mul_one, Nat.add_zero] at hf23_1)); (try (clear hcl23 hcc23 hfr23 hM23)))); refine store_event (t := 68) (p := 51) (v := ?vo_w24) (w1 := ((wr.setCell ⟨go22, (x3_2 : Int).toNat * 2, none⟩ (.int .i64 ((rd_T68 y438 x5_2).f0))).setCell ⟨go22, (x3_2 : Int).toNat * 2 + 1, none⟩ (.string ((rd_T68 y438 x5_2).f1)))) ?hg ?ho ?hn ?hr ?_; (case ho => rfl); (case hg => rfl); (case hn => rfl); (case hr => first | (go_simp; done) | (go_simp; rfl)); intro w24 hw; have hg : wr.grownBy w24 (some go22) := (by rw [hw]; exact HP23.2); have hp_ : Kd.R k68 68 w24 w0.heap.size (fun k_ => (P0_ k_ ∨ w.heap.size ≤ k_)) (.slice (some ⟨go22, 0, none⟩) x0_2.length co4) y445 := (by rw [hw, Ny445.out]; exact HP23.1); clear HP23; replace HB := Aside0.mk ((by rw [hw]; exact below_set (below_set (HB.out) GB22.out) GB22.out : Below w0.heap.size w0 w24)); replace HK := Aside0.mk (Kept.of_grown (S := (fun k_ => P0_ k_)) hg s8_ (fun k_ e_ => (HO_0.out.1 k_ e_))); replace HO_0 := Aside0.mk (hp_); clear hg hw hp_)))
                   (try simp only [← hl0_2]); go_roundg k2
                   case measure => have := HK1.out; have := HK2.out; omega
                   case rel => exact ⟨(y445), (wrap64 (x3_2 + 1)), (wrap64 (x5_2 + 1)), rf_, rf_, H', ⟨by have := HK1.out; have := HK2.out; omega⟩, HTP, ⟨by (try simp only [hl0_1]); (try simp only [hl0_2]); (with_reducible repeat (first | apply Kd.R_alloc | apply Kd.R_drewN | apply Kd.R_drew)); exact HO_0.out⟩, ⟨by repeat (first | (with_reducible first | exact HK.out | apply Kept.alloc | apply Kept.drewN | apply Kept.drew) | exact HK.out)⟩, ⟨b_⟩⟩
                  ·rw [if_neg c21] at H; exact absurd H (by simp)
                 ·rw [if_neg c20] at H; exact absurd H (by simp)
                ·rw [if_neg c19] at H; have c19b0 : (!(((rd_T68 y438 x5_2).f0) == ((rd_T68 y438 (ji16)).f0)) || (!((((rd_T68 y438 x5_2).f1).toList) == (((rd_T68 y438 (ji16)).f1).toList)))) = false := by simpa using c19
                 have HTP := Aside0.mk (Tail.skip' HTL.out (Kd.R_reads' HO_0.out).2.2.2.1 (of_decide_eq_true c14b0)); clear c19; have H' := Aside0.mk H; clear H; have p442 : 0 ≤ (x5_2 : Int) := of_decide_eq_true as_; have q442 : x5_2 < (y438.length : Int) := of_decide_eq_true as_; obtain ⟨ad442, e442, hx442_0, hx442_1⟩ := tail_at HO_0.out HTL.out KA13.out x5_2 (by omega) p442 q442
                 cases e442; replace p442 := eq_true p442; replace q442 := eq_true q442; have p443 : 0 ≤ ((ji16) : Int) := of_decide_eq_true as_; have q443 : (ji16) < (y438.length : Int) := of_decide_eq_true as_; obtain ⟨ad443, e443, hx443_0, hx443_1⟩ := tail_at HO_0.out HTL.out KA13.out (ji16) (tail_ji HTL.out (Kd.R_reads' HO_0.out).2.2.2.1 (of_decide_eq_true c14b0) hji16) p443 q443; obtain rfl : ad442 = ad443 := (by injection e443); replace p443 := eq_true p443; replace q443 := eq_true q443; go_wp2; repeat (go_quiet (fail); try go_wp2)
                 (try simp only [← hl0_2]); go_roundg k2
                 case measure => have := HK1.out; have := HK2.out; omega
                 case rel => exact ⟨(x0_2), (x3_2), (wrap64 (x5_2 + 1)), rf_, rf_, H', ⟨by have := HK1.out; have := HK2.out; omega⟩, HTP, ⟨by (try simp only [hl0_1]); (try simp only [hl0_2]); (with_reducible repeat (first | apply Kd.R_alloc | apply Kd.R_drewN | apply Kd.R_drew)); exact HO_0.out⟩, ⟨by repeat (first | (with_reducible first | exact HK.out | apply Kept.alloc | apply Kept.drewN | apply Kept.drew) | exact HK.out)⟩, ⟨b_⟩⟩
               ·rw [if_neg c18] at H; exact absurd H (by simp)
              ·rw [if_neg c17] at H; exact absurd H (by simp)
             ·rw [if_neg c15] at H; exact absurd H (by simp)
            ·rw [if_neg c14] at H; have c14b0 := decide_eq_false c14; clear c14; by_cases c25 : 0 ≤ x3_2
             ·rw [if_pos c25] at H; have c25b0 := eq_true c25; have c25b1 := decide_eq_true c25; clear c25; by_cases c26 : x3_2 ≤ (x0_2.length : Int)
              ·rw [if_pos c26] at H; have c26b0 := eq_true c26; have c26b1 := decide_eq_true c26; clear c26; obtain ⟨y446, hy446⟩ : ∃ y_ : List (S68), y_ = (x0_2.drop (x3_2 : Int).toNat) := ⟨_, rfl⟩; replace H : (some (x0_2.take (x3_2 : Int).toNat)) = some r := rb_ hy446 H; have Ny446 := Aside0.mk hy446; clear hy446; have c27b0 := eq_true (of_decide_eq_true as_ : x3_2 ≤ (x0_2.length : Int)); obtain ⟨y450, hy450⟩ : ∃ y_ : List (S68), y_ = (x0_2.take (x3_2 : Int).toNat) := ⟨_, rfl⟩; replace H : (some y450) = some r := rb_ hy450 H; have Ny450 := Aside0.mk hy450; clear hy450; obtain rfl := Option.some.inj H; have q28 : (x3_2 : Int) ≤ ((x0_2.length : Int) : Int) := of_decide_eq_true as_; obtain ⟨i028, hi028, _, hsz28, _⟩ := info_parts info68; have hroom28 : x0_2.length ≤ co4 := (Kd.R_reads' HO_0.out).2.1; have hC28 : Kd.C k68 _ (some ad436) x0_2.length x0_2 := (Kd.R_reads' HO_0.out).2.2; have q028 : (0 : Int) ≤ (x3_2 : Int) := of_decide_eq_true as_; have hcut28 := cut_from (P := Tryz.prog) 65 68 .i64 Tryz.underlying65 hi028 2 hsz28 (some ad436) x0_2.length co4 x3_2 q028 q28; have hr28 := Kd.C_drop (m := (x3_2 : Int).toNat) (c := co4) hC28 (by omega) hroom28; obtain ⟨A28, hA28⟩ : ∃ A1, A1 = (if co4 = (x3_2 : Int).toNat then (some ad436) else ((some ad436) : Option Addr).map (·.add ((x3_2 : Int).toNat * 2))) := ⟨_, rfl⟩; obtain ⟨c28, hc28⟩ : ∃ c1, c1 = co4 - (x3_2 : Int).toNat := ⟨_, rfl⟩; have hy28 : y446.length = x0_2.length - (x3_2 : Int).toNat := (by rw [Ny446.out, List.length_drop] <;> omega); rw [show (x0_2).drop (x3_2 : Int).toNat = y446 from Ny446.out.symm] at hr28; replace hr28 : Kd.C k68 _ A28 y446.length y446 := (by rw [hA28]; exact hr28); rw [← hy28, ← hA28, ← hc28] at hcut28; have HR449 := Aside0.mk hr28; have HC449 := Aside0.mk (show y446.length ≤ c28 from by rw [hy28, hc28]; exact Nat.sub_le_sub_right hroom28 _); clear hr28 hC28 hroom28 hi028 hsz28 hc28; have KY28 := Aside0.mk hy28; have KA28 := Aside0.mk hA28; clear hy28 hA28; have KL28 := Aside0.mk (show (x3_2 : Int).toNat ≤ x0_2.length from by omega); replace q28 := eq_true q28; have q29 : (x3_2 : Int) ≤ ((x0_2.length : Int) : Int) := of_decide_eq_true as_; obtain ⟨i029, hi029, _, hsz29, _⟩ := info_parts info68; have hcut29 := cut_to (P := Tryz.prog) 65 68 .i64 Tryz.underlying65 hi029 (some ad436) x0_2.length co4 x3_2 (of_decide_eq_true as_) q29 (Kd.R_reads' HO_0.out).2.1; have hr29 := Kd.R_take (m := (x3_2 : Int).toNat) HO_0.out (by omega); have hy29 : y450.length = (x3_2 : Int).toNat := (by rw [Ny450.out, List.length_take]; omega); rw [← Ny450.out] at hr29; rw [← hy29] at hr29 hcut29; obtain ⟨wc_, gc_, hrc_, hgc_, hoc_, hkc_⟩ := clear_cut (m := y446.length) c28 x3_2 HO_0.out HTL.out.k1 (of_decide_eq_true c26b1) KY28.out KA28.out; have HRC := Aside0.mk hrc_; have HBC := Aside0.mk (HB.out.grown hgc_ HB.out.size (fun k_ e_ => by cases e_; exact Kd.R_base HO_0.out _ hoc_)); have HKC := Aside0.mk (kept_row HK.out hgc_ (HO_0.out.1 _ hoc_)); have HOC := Aside0.mk (hkc_ _ _ _ (by rw [hy29]; have := HTL.out.k1; omega) (Nat.le_of_eq hy29) hr29); clear hrc_ hgc_ hoc_ hkc_; clear hy29 hi029 hsz29 HO_0; have HO452 := Aside0.mk hr29; clear hr29; replace q29 := eq_true q29; go_wp2_with ((with_reducible refine gate_builtin (b := .clear) (xs := #[.tmp 56]) rfl ?_); refine clear_event rfl rfl (.tmp 56) rfl (.slice A28 y446.length c28) rfl (HRC.out _) ?_; clear HO452 HB HK; have HO452 := HOC; have HB := HBC; have HK := HKC; clear HOC HBC HKC HRC); go_ret; exact ⟨_, by first | rfl | (simp [errW_none, errW_some] <;> rfl) | (simp only [← hji7]; first | rfl | (simp [errW_none, errW_some] <;> rfl)) | (simp [*, errW_none, errW_some] <;> rfl), kr_ HO452.out, b_, by repeat (first | (with_reducible first | exact HK.out | apply Kept.alloc | apply Kept.drewN | apply Kept.drew) | exact HK.out)⟩
              ·rw [if_neg c26] at H; exact absurd H (by simp)
             ·rw [if_neg c25] at H; exact absurd H (by simp)
         ·rw [if_neg c12] at H; exact absurd H (by simp)
        ·rw [if_neg c10] at H; have c10b0 : (((rd_T68 x0_1 x3_1).f0) == ((rd_T68 x0_1 (ji7)).f0) && ((((rd_T68 x0_1 x3_1).f1).toList) == (((rd_T68 x0_1 (ji7)).f1).toList))) = false := by simpa using c10
         (try (have c10b1 : decide (((rd_T68 x0_1 x3_1).f0) = ((rd_T68 x0_1 (ji7)).f0) && ((((rd_T68 x0_1 x3_1).f1).toList) == (((rd_T68 x0_1 (ji7)).f1).toList))) = false := by simpa using c10)); (try (have c10b2 : (((rd_T68 x0_1 x3_1).f0) == ((rd_T68 x0_1 (ji7)).f0) && ((((rd_T68 x0_1 x3_1).f1).toList) == (((rd_T68 x0_1 (ji7)).f1).toList))) = false := by simpa using c10)); (try (have c10b3 : ¬ (((rd_T68 x0_1 x3_1).f0) = ((rd_T68 x0_1 (ji7)).f0) && ((((rd_T68 x0_1 x3_1).f1).toList) == (((rd_T68 x0_1 (ji7)).f1).toList))) := by simpa using c10)); clear c10; have H' := Aside0.mk H; clear H; have p436 : 0 ≤ (x3_1 : Int) := of_decide_eq_true as_; have q436 : x3_1 < (x0_1.length : Int) := of_decide_eq_true as_; obtain ⟨ad436, e436, hx436_0, hx436_1⟩ := at_T68 (Kd.R_reads' HO_0.out).2.2 x3_1 p436 q436
         cases e436; replace p436 := eq_true p436; replace q436 := eq_true q436; have p437 : 0 ≤ ((ji7) : Int) := of_decide_eq_true as_; have q437 : (ji7) < (x0_1.length : Int) := of_decide_eq_true as_; obtain ⟨ad437, e437, hx437_0, hx437_1⟩ := at_T68 (Kd.R_reads' HO_0.out).2.2 (ji7) p437 q437; obtain rfl : ad436 = ad437 := (by injection e437); replace p437 := eq_true p437; replace q437 := eq_true q437; go_wp2; repeat (go_quiet (fail); try go_wp2)
         (try simp only [← hl0_1]); go_roundg k1
         case measure => have := HK1.out; omega
         case rel => exact ⟨(x0_1), (wrap64 (x3_1 + 1)), rf_, H', ⟨by have := HK1.out; omega⟩, ⟨by (try simp only [hl0_1]); (with_reducible repeat (first | apply Kd.R_alloc | apply Kd.R_drewN | apply Kd.R_drew)); exact HO_0.out⟩, ⟨by repeat (first | (with_reducible first | exact HK.out | apply Kept.alloc | apply Kept.drewN | apply Kept.drew) | exact HK.out)⟩, ⟨b_⟩⟩
       ·rw [if_neg c9] at H; exact absurd H (by simp)
      ·rw [if_neg c8] at H; exact absurd H (by simp)
     ·rw [if_neg c6] at H; exact absurd H (by simp)
    ·rw [if_neg c5] at H; have c5b0 := decide_eq_false c5; clear c5; obtain rfl := Option.some.inj H; go_wp2; repeat (go_quiet (fail); try go_wp2)
     go_ret; exact ⟨_, re_, kr_ HO_0.out, b_, by repeat (first | (with_reducible first | exact HK.out | apply Kept.alloc | apply Kept.drewN | apply Kept.drew) | exact HK.out)⟩
def fact_Keys.l0 : Nat → List (S68) → List (S48) → Int → Int → Option ((List (S68)))
 | 0, _, _, _, _ => none
 | k + 1, x3, x6, x7, x8 => if x8 < x7 then (if 0 ≤ x8 then (if x8 < (x6.length : Int) then (if x3.length < 5864062014805 then (fact_Keys.l0 k (x3 ++ [(⟨(rd_T48 x6 x8).f0, (rd_T48 x6 x8).f1⟩ : S68)]) x6 x7 (wrap64 (x8 + 1))) else (none)) else (none)) else (none)) else ((key_Sort.f x3).bind fun t458 => ((fact_Key_49.f k t458).bind fun t459 => (some t459)))
def fact_Keys.f (k : Nat) (l0 : List (S48)) : Option ((List (S68))) := fact_Keys.l0 k ([] : List (S68)) l0 (l0.length : Int) 0
theorem fact_Keys.calls (k : Nat) (A0 : Option Addr) (c0 : Nat) (l0 : List (S48)) (r : List (S68)) (w : World) (hr0 : Kd.C k48 w A0 l0.length l0) (hc0 : l0.length ≤ c0) (h : fact_Keys.f k l0 = some r) :
  Calls Tryz.prog 23 #[.slice A0 l0.length c0] w fun e w' => ∃ v0_ : Value, e = .returned (v0_) ∧ Kd.R k68 68 w' w.heap.size (fun _ => True) v0_ r ∧ Below w.heap.size w w' := by
 have hu48 := Tryz.underlying48; have hu68 := Tryz.underlying68; have HR0 := Aside0.mk hr0; have HC0 := Aside0.mk hc0; clear hr0 hc0; have HB := Aside0.mk (Below.refl w.heap.size w); unfold fact_Keys.f at h; have H := h; clear h; have H' := Aside0.mk H; clear H; go_enter Tryz.func23, Tryz.ntmps23; go_wp2; go_loopg [3, 8] k (fun kq v3 v8 w' => ∃ (x3_1 : List (S68)) (x8_1 : Int), v8 = .int .i64 x8_1 ∧ Aside0 (fact_Keys.l0 kq x3_1 l0 (l0.length : Int) x8_1 = some r) ∧ Aside0 (kq ≤ k) ∧ Aside0 (Kd.R k68 68 w' w.heap.size (fun _ => True) v3 x3_1) ∧ Aside0 (Below w.heap.size w w'))
 case atStart => exact ⟨(([] : List (S68))), (0), rf_, H', ⟨Nat.le_refl _⟩, ⟨by first | exact Kd.R_nil _ _ _ _ _ | exact Kd.N_nil _ _ _ _ _ | exact Kd.V_nil _ _ _ _ _ | exact Kd.Q_nil _ _ _ _ _ | exact Kd.S_nil _ _ _ _ _⟩, ⟨b_⟩⟩
 case round =>
  clear H'; obtain ⟨x3_1, x8_1, rfl, HA, HK1, HO_3, HB⟩ := hrel
  cases gk with
  | zero => exact absurd HA.out (by simp [fact_Keys.l0])
  | succ k1 =>
   have H := HA.out; clear HA; simp only [fact_Keys.l0] at H; by_cases c2 : x8_1 < (l0.length : Int)
   ·rw [if_pos c2] at H; have c2b0 := decide_eq_true c2; clear c2; by_cases c3 : 0 ≤ x8_1
    ·rw [if_pos c3] at H; have c3b0 := decide_eq_true c3; clear c3; by_cases c4 : x8_1 < (l0.length : Int)
     ·rw [if_pos c4] at H; have c4b0 := decide_eq_true c4; clear c4; by_cases c5 : x3_1.length < 5864062014805
      ·rw [if_pos c5] at H; have LMc5 := Aside0.mk c5; clear c5; obtain ⟨y455, hy455⟩ : ∃ y_ : List (S68), y_ = (x3_1 ++ [(⟨(rd_T48 l0 x8_1).f0, (rd_T48 l0 x8_1).f1⟩ : S68)]) := ⟨_, rfl⟩; replace H : (fact_Keys.l0 k1 y455 l0 (l0.length : Int) (wrap64 (x8_1 + 1))) = some r := rb_ hy455 H; have Ny455 := Aside0.mk hy455; clear hy455; have H' := Aside0.mk H; clear H; have p453 : 0 ≤ (x8_1 : Int) := of_decide_eq_true as_; have q453 : x8_1 < (l0.length : Int) := of_decide_eq_true as_; obtain ⟨ad453, e453, hx453_0, hx453_1, hx453_2, hx453_3, hx453_4, hx453_5, hx453_6⟩ := at_T48 HR0.out x8_1 p453 q453
       cases e453; replace hx453_0 := (HB.out.cell (World.block_lt_of_cell? w _ hx453_0)).trans hx453_0; replace hx453_1 := (HB.out.cell (World.block_lt_of_cell? w _ hx453_1)).trans hx453_1; replace hx453_2 := (HB.out.cell (World.block_lt_of_cell? w _ hx453_2)).trans hx453_2; replace hx453_3 := (HB.out.cell (World.block_lt_of_cell? w _ hx453_3)).trans hx453_3; replace hx453_4 := (HB.out.cell (World.block_lt_of_cell? w _ hx453_4)).trans hx453_4; replace hx453_5 := (HB.out.cell (World.block_lt_of_cell? w _ hx453_5)).trans hx453_5; replace hx453_6 := (HB.out.cell (World.block_lt_of_cell? w _ hx453_6)).trans hx453_6; replace p453 := eq_true p453; replace q453 := eq_true q453; go_wp2_with (first | ((with_reducible refine gate_dst (N := 5) rfl ?_); refine bx_ (#[.int .i64 0, .string (⟨#[]⟩ : ByteArray), .int .i64 0, .int .i64 0, .int .i64 0, .int .i64 0, .int .i64 0]) 48 ?_; intro gb454 hg w6 hbox hb; replace HO_3 := Aside0.mk (Kd.R_below (kr_ HO_3.out) hb); have BK454 := Aside0.mk (hbox); have GW454 := Aside0.mk ((gs_ : w.heap.size ≤ gb454)); have GE454 := Aside0.mk ((gs_ : w.heap.size ≤ gb454)); replace HB := Aside0.mk (below_step b_ hb); clear hb hbox hg; obtain ⟨hcz7_0, hcz7_1, hcz7_2, hcz7_3, hcz7_4, hcz7_5, hcz7_6, hfz7_0, hfz7_1, hfz7_2, hfz7_3, hfz7_4, hfz7_5, hfz7_6⟩ := z7_ BK454.out) | ((with_reducible refine gate_builtin (b := .append) (xs := #[.tmp 12, .tmp 18]) rfl ?_); at_builtin; refine Kd.R_append k68 (w0 := w) w.heap.size rfl (.tmp 12) (.tmp 18) 65 68 (.agg #[(.int .i64 0), (.string ⟨#[]⟩)]) 24 rfl Tryz.underlying65 info68 rfl (by decide) (by omega) u3 x3_1 (⟨(rd_T48 l0 x8_1).f0, (rd_T48 l0 x8_1).f1⟩ : S68) [.int .i64 ((rd_T48 l0 x8_1).f0), .string ((rd_T48 l0 x8_1).f1)] (fun _ => True) (fun _ => False) rfl (by first | (go_simp; done) | (go_simp; rfl)) ?aP (fun _ hk => hk.elim) ?aF ?aO ?aB ?aS ?aL ?_; (case aP => exact k68_mkM _ _ _ (⟨(rd_T48 l0 x8_1).f0, (rd_T48 l0 x8_1).f1⟩ : S68)); (case aB => exact b_); (case aF => exact (fun _ _ => trivial)); (case aO => exact (by exact Kd.R_mono (rz_ HO_3.out BK454.out) (fun _ hk => trivial))); (case aS => exact (below_size b_)); (case aL => have := LMc5.out; omega); intro v456 w8 ho hb hg hat; rw [← Ny455.out] at ho; replace BK454 := Aside0.mk (blk_grown (g := gb454) (o := .cells #[.int .i64 ((rd_T48 l0 x8_1).f0), .string ((rd_T48 l0 x8_1).f1), .int .i64 ((rd_T48 l0 x8_1).f2.f0), .int .i64 ((rd_T48 l0 x8_1).f2.f1), .int .i64 ((rd_T48 l0 x8_1).f3), .int .i64 ((rd_T48 l0 x8_1).f4), .int .i64 ((rd_T48 l0 x8_1).f5)] 48 (0, 0)) (bp_ BK454.out) hg (Kd.R_ne HO_3.out BK454.out (by decide))); replace HB := Aside0.mk (hb); have HO457 := Aside0.mk (ho); clear HO_3; clear ho hb hg hat)); go_roundg k1
       case measure => have := HK1.out; omega
       case rel => exact ⟨(y455), (wrap64 (x8_1 + 1)), rf_, H', ⟨by have := HK1.out; omega⟩, ⟨kr_ HO457.out⟩, ⟨b_⟩⟩
      ·rw [if_neg c5] at H; exact absurd H (by simp)
     ·rw [if_neg c4] at H; exact absurd H (by simp)
    ·rw [if_neg c3] at H; exact absurd H (by simp)
   ·rw [if_neg c2] at H; have c2b0 := decide_eq_false c2; clear c2; replace H := Option.bind_eq_some_iff.mp H; obtain ⟨t458, A90, H⟩ := H; (try dsimp only at H); have A9 := Aside0.mk A90; clear A90; replace H := Option.bind_eq_some_iff.mp H; obtain ⟨t459, A100, H⟩ := H; (try dsimp only at H); have A10 := Aside0.mk A100; clear A100; obtain rfl := Option.some.inj H; obtain ⟨Ao11, co11, eo11⟩ := Kd.R_slice HO_3.out; subst eo11; go_wp2_with (first | ((with_reducible refine gate_callee (f := 44) rfl ?_); refine goesL_ (some 22) rfl rfl Tryz.func44 kl_ rfl #[.slice Ao11 x3_1.length co11, .func (.func 45) #[] #[]] rfl ar_ ?_; (with_reducible refine (key_Sort.calls (fun k_ => some k_ = (.slice Ao11 x3_1.length co11 : Value).ownBlock) (.slice Ao11 x3_1.length co11) x3_1 t458 w _ ?side1 ?side2 A9.out).mono ?_); (case side1 => exact b_); (case side2 => exact Kd.R_tight rfl HO_3.out); rintro e w12 ⟨rfl, hy0, hb, hkp⟩; refine ⟨_, rfl, ?_⟩; replace HO_3 := Aside0.mk (Kd.R_reok rfl hy0 (fun k_ e_ => HO_3.out.1 k_ e_)); replace HB := Aside0.mk (hb); (try clear hb); (try clear hkp); (try clear hy0)) | ((with_reducible refine gate_callee (f := 49) rfl ?_); refine goesL_ (some 24) rfl rfl Tryz.func49 kl_ rfl #[.slice Ao11 x3_1.length co11] rfl ar_ ?_; (with_reducible refine (fact_Key_49.calls k1 (fun k_ => some k_ = (.slice Ao11 x3_1.length co11 : Value).ownBlock) (.slice Ao11 x3_1.length co11) t458 t459 w _ ?side1 ?side2 A10.out).mono ?_); (case side1 => exact b_); (case side2 => exact Kd.R_tight rfl HO_3.out); rintro e w13 ⟨v460, rfl, ho0, hb, hkp⟩; refine ⟨_, rfl, ?_⟩; have HO461 := Aside0.mk (Kd.R_mono (ok' := fun k_ => True) ho0 (fun k_ hk_ => trivial)); replace HB := Aside0.mk (hb); clear HO_3; (try clear hb); (try clear hkp); (try clear ho0))); go_ret; exact ⟨_, re_, kr_ HO461.out, b_⟩
def fact_Span.l0 : Nat → List (S73) → List (S73) → Int → Int → Option (Bool)
 | 0, _, _, _, _ => none
 | k + 1, x0, x1, x12, x13 => if x13 < x12 then (if 0 ≤ x13 then (if x13 < (x0.length : Int) then (if x13 < (x1.length : Int) then (if (!(((rd_T73 x0 x13).f0) == ((rd_T73 x1 x13).f0)) || (!(((rd_T73 x0 x13).f1) == ((rd_T73 x1 x13).f1)) || ((!(((rd_T73 x0 x13).f2.f0) == ((rd_T73 x1 x13).f2.f0)) || (!(((rd_T73 x0 x13).f2.f1) == ((rd_T73 x1 x13).f2.f1))))))) = true then (some false) else (fact_Span.l0 k x0 x1 x12 (wrap64 (x13 + 1)))) else (none)) else (none)) else (none)) else (some true)
def fact_Span.f (k : Nat) (l0 : List (S73)) (l1 : List (S73)) : Option (Bool) := if (l0.length : Int) = (l1.length : Int) then (fact_Span.l0 k l0 l1 (l0.length : Int) 0) else (some false)
theorem fact_Span.calls (k : Nat) (A0 : Option Addr) (c0 : Nat) (l0 : List (S73)) (A1 : Option Addr) (c1 : Nat) (l1 : List (S73)) (r : Bool) (w : World) (hr0 : Kd.C k73 w A0 l0.length l0) (hc0 : l0.length ≤ c0) (hr1 : Kd.C k73 w A1 l1.length l1) (hc1 : l1.length ≤ c1) (h : fact_Span.f k l0 l1 = some r) :
  Calls Tryz.prog 25 #[.slice A0 l0.length c0, .slice A1 l1.length c1] w fun e w' => e = .returned (.bool r) ∧ Drawn0 w w' := by
 have hu73 := Tryz.underlying73; have HR0 := Aside0.mk hr0; have HC0 := Aside0.mk hc0; clear hr0 hc0; have HR1 := Aside0.mk hr1; have HC1 := Aside0.mk hc1; clear hr1 hc1; unfold fact_Span.f at h; have H := h; clear h; by_cases c3 : (l0.length : Int) = (l1.length : Int)
 ·rw [if_pos c3] at H; have c3b0 := beq_iff_eq.mpr c3; have c3b1 := bne_eq_false_iff_eq.mpr c3; have c3b2 : (l0.length == l1.length) = true := by first | simpa using c3 | (simp at c3 ⊢; omega)
  clear c3; have H' := Aside0.mk H; clear H; go_enter Tryz.func25, Tryz.ntmps25; go_wp2; repeat (go_quiet (fail); try go_wp2)
  go_loopg [13] k (fun kq v13 w' => ∃ (x13_1 : Int), v13 = .int .i64 x13_1 ∧ Aside0 (fact_Span.l0 kq l0 l1 (l0.length : Int) x13_1 = some r) ∧ Aside0 (kq ≤ k) ∧ Drawn0 w w')
  case atStart => exact ⟨(0), rf_, H', ⟨Nat.le_refl _⟩, dr_⟩
  case round =>
   clear H'; (try clear c1); (try clear c2); (try clear p2); (try clear c3); (try clear c3b0); (try clear c3b1); (try clear c3b2); obtain ⟨x13_1, rfl, HA, HK1, ⟨m1, rfl⟩⟩ := hrel
   cases gk with
   | zero => exact absurd HA.out (by simp [fact_Span.l0])
   | succ k1 =>
    have H := HA.out; clear HA; simp only [fact_Span.l0] at H; by_cases c4 : x13_1 < (l0.length : Int)
    ·rw [if_pos c4] at H; have c4b0 := decide_eq_true c4; clear c4; by_cases c5 : 0 ≤ x13_1
     ·rw [if_pos c5] at H; have c5b0 := decide_eq_true c5; clear c5; by_cases c6 : x13_1 < (l0.length : Int)
      ·rw [if_pos c6] at H; have c6b0 := decide_eq_true c6; clear c6; by_cases c7 : x13_1 < (l1.length : Int)
       ·rw [if_pos c7] at H; have c7b0 := decide_eq_true c7; clear c7; by_cases c8 : (!(((rd_T73 l0 x13_1).f0) == ((rd_T73 l1 x13_1).f0)) || (!(((rd_T73 l0 x13_1).f1) == ((rd_T73 l1 x13_1).f1)) || ((!(((rd_T73 l0 x13_1).f2.f0) == ((rd_T73 l1 x13_1).f2.f0)) || (!(((rd_T73 l0 x13_1).f2.f1) == ((rd_T73 l1 x13_1).f2.f1))))))) = true
        ·rw [if_pos c8] at H; have c8b0 : (!(((rd_T73 l0 x13_1).f0) == ((rd_T73 l1 x13_1).f0)) || (!(((rd_T73 l0 x13_1).f1) == ((rd_T73 l1 x13_1).f1)) || ((!(((rd_T73 l0 x13_1).f2.f0) == ((rd_T73 l1 x13_1).f2.f0)) || (!(((rd_T73 l0 x13_1).f2.f1) == ((rd_T73 l1 x13_1).f2.f1))))))) = true := c8; clear c8; obtain rfl := Option.some.inj H; have p462 : 0 ≤ (x13_1 : Int) := of_decide_eq_true as_; have q462 : x13_1 < (l0.length : Int) := of_decide_eq_true as_; obtain ⟨ad462, e462, hx462_0, hx462_1, hx462_2, hx462_3⟩ := at_T73 HR0.out x13_1 p462 q462
         cases e462; replace p462 := eq_true p462; replace q462 := eq_true q462; have p463 : 0 ≤ (x13_1 : Int) := of_decide_eq_true as_; have q463 : x13_1 < (l1.length : Int) := of_decide_eq_true as_; obtain ⟨ad463, e463, hx463_0, hx463_1, hx463_2, hx463_3⟩ := at_T73 HR1.out x13_1 p463 q463
         cases e463; replace p463 := eq_true p463; replace q463 := eq_true q463; go_wp2; repeat (go_quiet (fail); try go_wp2)
         go_ret; exact ⟨rf_, dr_⟩
        ·rw [if_neg c8] at H; have c8b0 : (!(((rd_T73 l0 x13_1).f0) == ((rd_T73 l1 x13_1).f0)) || (!(((rd_T73 l0 x13_1).f1) == ((rd_T73 l1 x13_1).f1)) || ((!(((rd_T73 l0 x13_1).f2.f0) == ((rd_T73 l1 x13_1).f2.f0)) || (!(((rd_T73 l0 x13_1).f2.f1) == ((rd_T73 l1 x13_1).f2.f1))))))) = false := by simpa using c8
         clear c8; have H' := Aside0.mk H; clear H; have p462 : 0 ≤ (x13_1 : Int) := of_decide_eq_true as_; have q462 : x13_1 < (l0.length : Int) := of_decide_eq_true as_; obtain ⟨ad462, e462, hx462_0, hx462_1, hx462_2, hx462_3⟩ := at_T73 HR0.out x13_1 p462 q462
         cases e462; replace p462 := eq_true p462; replace q462 := eq_true q462; have p463 : 0 ≤ (x13_1 : Int) := of_decide_eq_true as_; have q463 : x13_1 < (l1.length : Int) := of_decide_eq_true as_; obtain ⟨ad463, e463, hx463_0, hx463_1, hx463_2, hx463_3⟩ := at_T73 HR1.out x13_1 p463 q463
         cases e463; replace p463 := eq_true p463; replace q463 := eq_true q463; go_wp2; repeat (go_quiet (fail); try go_wp2)
         go_roundg k1
         case measure => have := HK1.out; omega
         case rel => exact ⟨(wrap64 (x13_1 + 1)), rf_, H', ⟨by have := HK1.out; omega⟩, dr_⟩
       ·rw [if_neg c7] at H; exact absurd H (by simp)
      ·rw [if_neg c6] at H; exact absurd H (by simp)
     ·rw [if_neg c5] at H; exact absurd H (by simp)
    ·rw [if_neg c4] at H; have c4b0 := decide_eq_false c4; clear c4; obtain rfl := Option.some.inj H; go_wp2; repeat (go_quiet (fail); try go_wp2)
     go_ret; exact ⟨rf_, dr_⟩
 ·rw [if_neg c3] at H; have c3b0 := beq_eq_false_iff_ne.mpr c3; have c3b1 := bne_iff_ne.mpr c3; have c3b2 : (l0.length == l1.length) = false := by first | simpa using c3 | (simp at c3 ⊢; omega)
  obtain rfl := Option.some.inj H; go_enter Tryz.func25, Tryz.ntmps25; go_wp2; repeat (go_quiet (fail); try go_wp2)
  go_ret; exact ⟨rf_, dr_⟩
def slices_Sort_int_int.f (l0 : List Int) : Option (List Int) := if l0.length ≤ 1000000 then some (l0.mergeSort fun x y => decide (x ≤ y)) else none
def slices_Sort_int_int.ren : Go.Shelf.Ren := ⟨fun | 189 => 50 | 125 => 73 | 257 => 76 | 128 => 104 | 129 => 105 | 294 => 106 | 295 => 107 | 296 => 108 | 297 => 109 | 298 => 110 | 299 => 111 | 216 => 112 | 300 => 113 | 301 => 114 | 328 => 156 | 329 => 152 | 330 => 153 | 331 => 157 | 332 => 158 | 215 => 74 | 343 => 186 | n => n, fun | 28 => 22 | 3 => 3 | 46 => 154 | 0 => 0 | 51 => 182 | 53 => 27 | 4 => 4 | 183 => 176 | 182 => 175 | 131 => 160 | 5 => 5 | 9 => 9 | 218 => 215 | 222 => 219 | 228 => 247 | 229 => 57 | n => n, fun | n => n⟩
theorem slices_Sort_int_int.lays : Go.Proofs.Lays.n189 Tryz.prog slices_Sort_int_int.ren := {
 mixed := kl_
 f125 := Tryz.func73.trans (congrArg some kl_)
 f128 := Tryz.func104.trans (congrArg some kl_)
 f129 := Tryz.func105.trans (congrArg some kl_)
 f189 := Tryz.func50.trans (congrArg some kl_)
 f215 := Tryz.func74.trans (congrArg some kl_)
 f216 := Tryz.func112.trans (congrArg some kl_)
 f257 := Tryz.func76.trans (congrArg some kl_)
 f294 := Tryz.func106.trans (congrArg some kl_)
 f295 := Tryz.func107.trans (congrArg some kl_)
 f296 := Tryz.func108.trans (congrArg some kl_)
 f297 := Tryz.func109.trans (congrArg some kl_)
 f298 := Tryz.func110.trans (congrArg some kl_)
 f299 := Tryz.func111.trans (congrArg some kl_)
 f300 := Tryz.func113.trans (congrArg some kl_)
 f301 := Tryz.func114.trans (congrArg some kl_)
 f328 := Tryz.func156.trans (congrArg some kl_)
 f329 := Tryz.func152.trans (congrArg some kl_)
 f330 := Tryz.func153.trans (congrArg some kl_)
 f331 := Tryz.func157.trans (congrArg some kl_)
 f332 := Tryz.func158.trans (congrArg some kl_)
 f343 := Tryz.func186.trans (congrArg some kl_)
 t0 := Tryz.underlying0
 a0 := Tryz.isAgg0
 z0 := Tryz.sizeOf0
 v0 := Tryz.zeroValue0
 t3 := Tryz.underlying3
 a3 := Tryz.isAgg3
 z3 := Tryz.sizeOf3
 v3 := Tryz.zeroValue3
 t4 := Tryz.underlying4
 a4 := Tryz.isAgg4
 z4 := Tryz.sizeOf4
 v4 := Tryz.zeroValue4
 t5 := Tryz.underlying5
 a5 := Tryz.isAgg5
 z5 := Tryz.sizeOf5
 v5 := Tryz.zeroValue5
 t9 := Tryz.underlying9
 a9 := Tryz.isAgg9
 z9 := Tryz.sizeOf9
 v9 := Tryz.zeroValue9
 t28 := Tryz.underlying22
 a28 := Tryz.isAgg22
 z28 := Tryz.sizeOf22
 v28 := Tryz.zeroValue22
 t46 := Tryz.underlying154
 a46 := Tryz.isAgg154
 z46 := Tryz.sizeOf154
 v46 := Tryz.zeroValue154
 t51 := Tryz.underlying182
 a51 := Tryz.isAgg182
 z51 := Tryz.sizeOf182
 v51 := Tryz.zeroValue182
 t53 := Tryz.underlying27
 a53 := Tryz.isAgg27
 z53 := Tryz.sizeOf27
 v53 := Tryz.zeroValue27
 t131 := Tryz.underlying160
 a131 := Tryz.isAgg160
 z131 := Tryz.sizeOf160
 v131 := Tryz.zeroValue160
 t182 := Tryz.underlying175
 a182 := Tryz.isAgg175
 z182 := Tryz.sizeOf175
 v182 := Tryz.zeroValue175
 t183 := Tryz.underlying176
 a183 := Tryz.isAgg176
 z183 := Tryz.sizeOf176
 v183 := Tryz.zeroValue176
 t218 := Tryz.underlying215
 a218 := Tryz.isAgg215
 z218 := Tryz.sizeOf215
 v218 := Tryz.zeroValue215
 t222 := Tryz.underlying219
 a222 := Tryz.isAgg219
 z222 := Tryz.sizeOf219
 v222 := Tryz.zeroValue219
 t228 := Tryz.underlying247
 a228 := Tryz.isAgg247
 z228 := Tryz.sizeOf247
 v228 := Tryz.zeroValue247
 t229 := Tryz.underlying57
 a229 := Tryz.isAgg57
 z229 := Tryz.sizeOf57
 v229 := Tryz.zeroValue57 }
theorem slices_Sort_int_int.calls (P0_ : Nat → Prop) (u9000_ : Value) (l0 : List Int) (r : List Int) (w0 w : World) (hB : Below w0.heap.size w0 w) (ho0 : Kd.R (Kd.int .i64) 3 w w0.heap.size P0_ u9000_ l0) (h : slices_Sort_int_int.f l0 = some r) :
  Calls Tryz.prog 50 #[u9000_] w fun e w' => e = .returned (.tuple #[]) ∧ Kd.R (Kd.int .i64) 3 w' w0.heap.size (fun k_ => (P0_ k_ ∨ w.heap.size ≤ k_)) u9000_ r ∧ Below w0.heap.size w0 w' ∧ Kept w w' (fun k_ => P0_ k_) := by
 unfold slices_Sort_int_int.f at h; by_cases hl : l0.length ≤ 1000000
 ·rw [if_pos hl] at h; obtain rfl := Option.some.inj h; have hown := Kd.own_of_R (enc := Value.int .i64) (h1 := fun _ => rfl) ho0; rcases hown.2 with ⟨_, hn0⟩ | ⟨g, cap, cur, hu, hbase, hb, h1, h2, h3, h4⟩
  ·obtain rfl := List.eq_nil_of_length_eq_zero hn0; have hro := Kd.R_mono (ok' := fun k_ => (P0_ k_ ∨ w.heap.size ≤ k_)) ho0 (fun k hk => .inl hk); obtain ⟨A, c, rfl⟩ := Kd.R_slice ho0; refine (Any.slices_Sort_int_none slices_Sort_int_int.lays A c w).mono ?_; rintro e w' ⟨rfl, rfl⟩; have e0 : ([] : List Int).mergeSort (fun x y => decide (x ≤ y)) = [] := by simp [List.mergeSort]
   rw [e0]; exact ⟨rfl, hro, hB, Kept.refl _ _⟩
  ·subst hu; have hP : P0_ g := ho0.1 g rfl; have hgs : g < w.heap.size := (Array.getElem?_eq_some_iff.1 hb).1; have hH : Sort.Holds (Value.int .i64) w g 0 l0.toArray := holds_of_blockI hb (by rw [← Nat.mul_one l0.length, h4]; rfl); have hlen : (l0.mergeSort fun x y => decide (x ≤ y)).length = l0.length := List.length_mergeSort ..; refine (Any.slices_Sort_int slices_Sort_int_int.lays g 0 cap l0 w hH hgs (by omega)).mono ?_; rintro e w' ⟨rfl, n, os, rfl⟩; refine ⟨rfl, ?_, hB.grown (grownBy_sortedI _) hB.size (fun k hk => by cases hk; exact hbase), ⟨(grownBy_sortedI _).size, fun i hi hn => (grownBy_sortedI _).block i hi (fun e => hn (by rw [Option.some.inj e]; exact hP))⟩⟩; refine Kd.R_mono (ok := P0_) (Kd.R_of_own (enc := Value.int .i64) (h1 := fun _ => rfl) ?_ (fun k hk => by cases hk; exact hP)) (fun k hk => .inl hk); have hq := ownsRow_sortedI (os := os) (n := n) hlen hbase hb h1 h2 h3; rw [hlen]; exact hq
 ·rw [if_neg hl] at h
  cases h
end Go.Proofs.YtkjneemcledfjaaGreatDoor.PBookCases
