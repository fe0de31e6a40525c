/- The machine side of a law, written by a program of this session (wip/mp). -/
import Derived.Test.YtkcmjdbeiclbkaaPPartWholex0
namespace Go.Proofs.Ytkcmjdbeiclbkaa.PPartWhole
open Go.RowKit Go.Proofs.YtkcmjdbeiclbkaaW.PrintWords Go.Proofs.YtkcmjdbeiclbkaaW.PrintLast Go.Proofs.YtkcmjdbeiclbkaaW.PrintMore
attribute [local go_sem] max2_int min2_int max_two min_two max_three min_three max_four min_four   -- for this text's walks alone
set_option linter.unusedVariables false
set_option linter.unusedSimpArgs false

/-! ### slices_SortStableFunc_int_int: function 54 (by hand) -/

/-- a place within the weights -/
def slices_SortStableFunc_int_int.nm (m : Nat) (z : Int) : Int := if 0 ≤ z ∧ z < m then z else 0
/-- what the closure answers -/
def slices_SortStableFunc_int_int.cf (n : Int) (ws : List Int) (s : Int) (x y : Int) : Int := wrap64 (Int.tmod (wrap64 (n * rd ws (slices_SortStableFunc_int_int.nm ws.length y))) s - Int.tmod (wrap64 (n * rd ws (slices_SortStableFunc_int_int.nm ws.length x))) s)
def slices_SortStableFunc_int_int.srt (n : Int) (ws : List Int) (s : Int) (l : List Int) : List Int := (Sort.insertionSort (ltOf (slices_SortStableFunc_int_int.cf n ws s)) l.toArray 0 l.length).toList.map (slices_SortStableFunc_int_int.nm ws.length)
def slices_SortStableFunc_int_int.f (l0 : List Int) (a1 : Int) (l2 : List Int) (a3 : Int) : Option (List Int) := if 1 ≤ l2.length ∧ l0.length ≤ 19 ∧ 1 ≤ l0.length ∧ a3 ≠ 0 ∧ (l0.all fun z => decide (0 ≤ z ∧ z < l2.length)) = true then some (slices_SortStableFunc_int_int.srt a1 l2 a3 l0) else none
def slices_SortStableFunc_int_int.ren : Go.Shelf.Ren := ⟨fun | 20 => 102 | n => n, fun | 24 => 3 | 22 => 22 | 3 => 3 | 25 => 39 | 4 => 4 | 0 => 0 | n => n, fun | n => n⟩
theorem slices_SortStableFunc_int_int.lays : Go.Proofs.SlLaysF.n20 Try.prog slices_SortStableFunc_int_int.ren := {
  mixed := by kernel_rfl
  f20 := ⟨Try.f102.name, by decide, Try.func102.trans (congrArg some (by kernel_rfl))⟩
  t0 := Try.underlying0
  a0 := Try.isAgg0
  z0 := Try.sizeOf0
  v0 := Try.zeroValue0
  t3 := Try.underlying3
  a3 := Try.isAgg3
  z3 := Try.sizeOf3
  v3 := Try.zeroValue3
  t4 := Try.underlying4
  a4 := Try.isAgg4
  z4 := Try.sizeOf4
  v4 := Try.zeroValue4
  t22 := Try.underlying22
  a22 := Try.isAgg22
  z22 := Try.sizeOf22
  v22 := Try.zeroValue22
  a24 := Try.isAgg3
  z24 := Try.sizeOf3
  t25 := Try.underlying39
  a25 := Try.isAgg39
  z25 := Try.sizeOf39
  v25 := Try.zeroValue39 }
theorem slices_SortStableFunc_int_int.nm_lo (m : Nat) (z : Int) (hm : 1 ≤ m) : 0 ≤ slices_SortStableFunc_int_int.nm m z ∧ slices_SortStableFunc_int_int.nm m z < m := by
  unfold slices_SortStableFunc_int_int.nm
  split <;> omega
set_option maxHeartbeats 8000000 in
set_option maxRecDepth 100000 in
theorem slices_SortStableFunc_int_int.cl (n s : Int) (ws : List Int) (x y : Int) (A2 : Option Addr) (c2 : Nat) (g1 g2 g3 : Nat) (W : World) (c1 : W.cell? ⟨g1, 0, none⟩ = some (.int .i64 n)) (cw : W.cell? ⟨g2, 0, none⟩ = some (.slice A2 ws.length c2)) (cs : W.cell? ⟨g3, 0, none⟩ = some (.int .i64 s)) (hr : Kd.C (Kd.int .i64) W A2 ws.length ws) (hx0 : 0 ≤ x) (hx1 : x < ws.length) (hy0 : 0 ≤ y) (hy1 : y < ws.length) (hs : s ≠ 0) :
    Calls Try.prog 55 #[.int .i64 x, .int .i64 y, .pointer (some ⟨g1, 0, none⟩), .pointer (some ⟨g2, 0, none⟩), .pointer (some ⟨g3, 0, none⟩)] W fun e w' => e = .returned (.int .i64 (wrap64 (Int.tmod (wrap64 (n * rd ws y)) s - Int.tmod (wrap64 (n * rd ws x)) s))) ∧ ∃ q, w' = W.drewN q := by
  obtain ⟨ad, e, hcx⟩ := Kd.at_int hr x hx0 hx1
  obtain ⟨ad', e', hcy⟩ := Kd.at_int hr y hy0 hy1
  subst e
  cases e'
  have p1 := eq_true hx0
  have p2 := eq_true hx1
  have p3 := eq_true hy0
  have p4 := eq_true hy1
  have hz : (s == 0) = false := beq_eq_false_iff_ne.mpr hs
  have hz2 : (s = 0) = False := eq_false hs
  clear hr hx0 hx1 hy0 hy1 hs
  go_enter Try.func55, Try.ntmps55
  go_wp2
  go_quiet (fail)
  go_wp2
  go_ret
  exact ⟨rfl, _, rfl⟩
set_option maxHeartbeats 8000000 in
set_option maxRecDepth 100000 in
theorem slices_SortStableFunc_int_int.stb (sl fv : Value) (N : Int) (hN : N < 20) (w X : World) (C : Calls Try.prog 102 #[sl, .int .i64 0, .int .i64 N, fv] w fun e w' => e = .returned (.tuple #[]) ∧ ∃ n, w' = X.drewN n) :
    Calls Try.prog 86 #[sl, .int .i64 N, fv] w fun e w' => e = .returned (.tuple #[]) ∧ ∃ n, w' = X.drewN n := by
  have c1 : decide ((20 : Int) ≤ N) = false := decide_eq_false (by omega)
  have c2 : decide ((20 : Int) < N) = false := decide_eq_false (by omega)
  clear hN
  go_enter Try.func86, Try.ntmps86
  go_wp2
  go_loopg [7, 8] 0 (fun kq v7 v8 w' => v7 = .int .i64 0 ∧ v8 = .int .i64 20 ∧ w' = w)
  case atStart => exact ⟨rfl, rfl, rfl⟩
  case round =>
    obtain ⟨rfl, rfl, rfl⟩ := hrel
    go_wp2_with (first | ((with_reducible refine gate_callee (f := 102) rfl ?_); refine goesL_ (some 27) rfl rfl Try.func102 (by kernel_rfl) rfl #[sl, .int .i64 0, .int .i64 N, fv] rfl (by (try simp only [List.map_toArray, List.map_cons, List.map_nil]); first | done | rfl) ?_; refine C.mono ?_; rintro e w6 ⟨rfl, hw⟩; refine ⟨_, rfl, ?_⟩; have HW := Aside0.mk hw; clear hw C))
    simp only [Act.put, List.setIfInBounds_toArray, List.set_cons_zero, List.set_cons_succ]
    go_loopg [6] 0 (fun kq v6 w' => v6 = .int .i64 20 ∧ Aside0 (∃ n, w' = X.drewN n))
    case atStart => exact ⟨rfl, HW⟩
    case round =>
      obtain ⟨rfl, HX⟩ := hrel
      clear HW
      go_wp2
      first | go_end0 | ((try simp only [Exit.inBlock, Exit.then]); refine bodyPost_ret (results_none rfl _ _ _) rfl ?_)
      exact ⟨rfl, HX.out⟩
set_option maxHeartbeats 8000000 in
set_option maxRecDepth 100000 in
theorem slices_SortStableFunc_int_int.top (A : Option Addr) (N c : Nat) (fv : Value) (hN : N < 20) (w X : World) (C : Calls Try.prog 102 #[.slice A N c, .int .i64 0, .int .i64 N, fv] w fun e w' => e = .returned (.tuple #[]) ∧ ∃ n, w' = X.drewN n) :
    Calls Try.prog 54 #[.slice A N c, fv] w fun e w' => e = .returned (.tuple #[]) ∧ ∃ n, w' = X.drewN n := by
  have C2 := slices_SortStableFunc_int_int.stb (.slice A N c) fv N (by omega) w X C
  clear C hN
  go_enter Try.func54, Try.ntmps54
  go_wp2_with (first | (go_at_call 86; refine C2.mono ?_; rintro e w6 ⟨rfl, hw⟩; have HW := Aside0.mk hw; clear hw C2))
  first | go_end0 | ((try simp only [Exit.inBlock, Exit.then]); refine bodyPost_ret (results_none rfl _ _ _) rfl ?_)
  exact ⟨rfl, HW.out⟩
theorem slices_SortStableFunc_int_int.inner_size (lt : Int → Int → Bool) (a : Nat) : ∀ (j : Nat) (d : Array Int), (Sort.insInner lt a j d).size = d.size
  | 0, d => rfl
  | j + 1, d => by
    rw [Sort.insInner]
    split
    · rw [slices_SortStableFunc_int_int.inner_size lt a j, Sort.size_swp]
    · rfl
theorem slices_SortStableFunc_int_int.outer_size (lt : Int → Int → Bool) (a b : Nat) : ∀ (n i : Nat) (d : Array Int), b - i = n → (Sort.insOuter lt a b i d).size = d.size := by
  intro n
  induction n with
  | zero => intro i d h; rw [Sort.insOuter, if_neg (by omega)]
  | succ n ih => intro i d h; rw [Sort.insOuter, if_pos (by omega), ih _ _ (by omega), slices_SortStableFunc_int_int.inner_size]
theorem slices_SortStableFunc_int_int.sort_size (lt : Int → Int → Bool) (d : Array Int) (a b : Nat) : (Sort.insertionSort lt d a b).size = d.size := slices_SortStableFunc_int_int.outer_size lt a b _ _ d rfl
theorem slices_SortStableFunc_int_int.sw_g {w : World} {g n : Nat} {os : Array Obj} {cur : Array Value} {e : TypeId} {fr : Nat × Nat} (enc : Int → Value) (d : Array Int) (hb : w.heap[g]? = some (.cells cur e fr)) :
    (sortWorld enc w g 0 n d os).heap[g]? = some (.cells (Sort.putCells enc 0 d cur) e fr) := by
  have hg : g < w.heap.size := (Array.getElem?_eq_some_iff.1 hb).1
  unfold sortWorld
  rw [Sort.heap_grow_old _ _ (by simpa [Sort.putRow, Sort.mapBlock, Sort.ahead] using hg)]
  simp [Sort.putRow, Sort.mapBlock, Sort.ahead, Array.getElem?_modify, hb, Sort.onCells]
theorem slices_SortStableFunc_int_int.sw_grown {w : World} {g n : Nat} {os : Array Obj} (enc : Int → Value) (d : Array Int) : w.grownBy (sortWorld enc w g 0 n d os) (some g) := by
  unfold sortWorld
  refine ⟨rfl, rfl, rfl, by simp [Sort.grow, Sort.putRow, Sort.mapBlock, Sort.ahead], fun k hk hne => ?_⟩
  rw [Sort.heap_grow_old _ _ (by simpa [Sort.putRow, Sort.mapBlock, Sort.ahead] using hk)]
  have : g ≠ k := fun e => hne (by rw [e])
  simp [Sort.putRow, Sort.mapBlock, Sort.ahead, Array.getElem?_modify, this]
theorem slices_SortStableFunc_int_int.sw_old {w : World} {g n i : Nat} {os : Array Obj} (enc : Int → Value) (d : Array Int) (hi : i < w.heap.size) (hne : i ≠ g) : (sortWorld enc w g 0 n d os).heap[i]? = w.heap[i]? := (slices_SortStableFunc_int_int.sw_grown enc d).block i hi (fun e => hne (Option.some.inj e))
theorem slices_SortStableFunc_int_int.put_take (enc : Int → Value) (cur : Array Value) (d : Array Int) (h : d.size ≤ cur.size) : (Sort.putCells enc 0 d cur).toList.take d.size = d.toList.map enc := by
  apply List.ext_getElem?
  intro j
  by_cases hj : j < d.size
  · rw [List.getElem?_take_of_lt hj, Array.getElem?_toList]
    simp [Sort.putCells, hj, show j < cur.size by omega]
  · rw [List.getElem?_take_eq_none (by omega), List.getElem?_eq_none (by simp; omega)]
set_option maxHeartbeats 8000000 in
set_option maxRecDepth 100000 in
theorem slices_SortStableFunc_int_int.calls (P0_ : Nat → Prop) (u9000_ : Value) (l0 : List Int) (a1 : Int) (A2 : Option Addr) (c2 : Nat) (l2 : List Int) (a3 : Int) (r : List Int) (w0 w : World) (hB : Below w0.heap.size w0 w) (ho0 : Kd.R (Kd.int .i64) 3 w w0.heap.size P0_ u9000_ l0) (hk2 : ∀ W', Kept w W' (fun k_ => P0_ k_) → Kd.C (Kd.int .i64) W' A2 l2.length l2) (hc2 : l2.length ≤ c2) {g1 g2 g3 : Nat} (b1 : w.heap[g1]? = some (.cells #[.int .i64 a1] 3 (0, 0))) (n1 : ¬ P0_ g1) (b2 : w.heap[g2]? = some (.cells #[.slice A2 l2.length c2] 22 (0, 0))) (n2 : ¬ P0_ g2) (b3 : w.heap[g3]? = some (.cells #[.int .i64 a3] 3 (0, 0))) (n3 : ¬ P0_ g3) (h : slices_SortStableFunc_int_int.f l0 a1 l2 a3 = some r) :
    Calls Try.prog 54 #[u9000_, .func (.func 55) #[] #[.pointer (some ⟨g1, 0, none⟩), .pointer (some ⟨g2, 0, none⟩), .pointer (some ⟨g3, 0, none⟩)]] w fun e w' => e = .returned (.tuple #[]) ∧ Kd.R (Kd.int .i64) 3 w' w0.heap.size (fun k_ => (P0_ k_ ∨ w.heap.size ≤ k_)) u9000_ r ∧ Below w0.heap.size w0 w' ∧ Kept w w' (fun k_ => P0_ k_) := by
  unfold slices_SortStableFunc_int_int.f at h
  by_cases hc : 1 ≤ l2.length ∧ l0.length ≤ 19 ∧ 1 ≤ l0.length ∧ a3 ≠ 0 ∧ (l0.all fun z => decide (0 ≤ z ∧ z < l2.length)) = true
  · rw [if_pos hc] at h
    obtain rfl := Option.some.inj h
    obtain ⟨hm, hl19, hl1, hs, hall⟩ := hc
    have hin : ∀ z ∈ l0, 0 ≤ z ∧ z < (l2.length : Int) := fun z hz => of_decide_eq_true (List.all_eq_true.1 hall z hz)
    obtain ⟨enc, henc⟩ : ∃ enc : Int → Value, enc = fun z => .int .i64 (slices_SortStableFunc_int_int.nm l2.length z) := ⟨_, rfl⟩
    have hown := Kd.own_of_R (enc := Value.int .i64) (h1 := fun _ => rfl) ho0
    rcases hown.2 with ⟨_, hn0⟩ | ⟨g, cap, cur, hu, hbase, hb, h1, h2, h3, h4⟩
    · omega
    · subst hu
      have hP : P0_ g := ho0.1 g rfl
      have hgs : g < w.heap.size := (Array.getElem?_eq_some_iff.1 hb).1
      have e1 : g1 ≠ g := fun e => n1 (e ▸ hP)
      have e2 : g2 ≠ g := fun e => n2 (e ▸ hP)
      have e3 : g3 ≠ g := fun e => n3 (e ▸ hP)
      have hkept : ∀ (n : Nat) (d : Array Int) (os : Array Obj), Kept w (sortWorld enc w g 0 n d os) (fun k_ => P0_ k_) := fun n d os =>
        ⟨(slices_SortStableFunc_int_int.sw_grown enc d).size, fun i hi hn => slices_SortStableFunc_int_int.sw_old enc d hi (fun e => hn (e ▸ hP))⟩
      have hH : Sort.Holds enc w g 0 l0.toArray := by
        have hI := holds_of_blockI hb (ss := l0) (by rw [← Nat.mul_one l0.length, h4]; rfl)
        intro j hj
        have hj' : j < l0.length := by simpa using hj
        refine ⟨?_, (hI j hj).2⟩
        rw [(hI j hj).1, henc]
        have hz : l0.toArray[j]! = l0[j] := by simp [hj']
        have := hin l0[j] (List.getElem_mem hj')
        simp only [hz]
        unfold slices_SortStableFunc_int_int.nm
        rw [if_pos this]
      have hcmp : CmpReads Try.prog 55 #[.pointer (some ⟨g1, 0, none⟩), .pointer (some ⟨g2, 0, none⟩), .pointer (some ⟨g3, 0, none⟩)] enc (slices_SortStableFunc_int_int.cf a1 l2 a3) g 0 l0.toArray.size w := by
        intro mm os dk hdk x y
        have q1 := (slices_SortStableFunc_int_int.sw_old (n := mm) (os := os) enc dk (blk_lt b1) e1).trans b1
        have q2 := (slices_SortStableFunc_int_int.sw_old (n := mm) (os := os) enc dk (blk_lt b2) e2).trans b2
        have q3 := (slices_SortStableFunc_int_int.sw_old (n := mm) (os := os) enc dk (blk_lt b3) e3).trans b3
        have hx := slices_SortStableFunc_int_int.nm_lo l2.length x hm
        have hy := slices_SortStableFunc_int_int.nm_lo l2.length y hm
        have := slices_SortStableFunc_int_int.cl a1 a3 l2 (slices_SortStableFunc_int_int.nm l2.length x) (slices_SortStableFunc_int_int.nm l2.length y) A2 c2 g1 g2 g3 (sortWorld enc w g 0 mm dk os) ((blk_cell q1 0).trans rfl) ((blk_cell q2 0).trans rfl) ((blk_cell q3 0).trans rfl) (hk2 _ (hkept mm dk os)) hx.1 hx.2 hy.1 hy.2 hs
        rw [henc] at this ⊢
        exact this
      have C := Any.insertionSortCmpFunc_one slices_SortStableFunc_int_int.lays enc (fun x => by rw [henc]; rfl) (slices_SortStableFunc_int_int.cf a1 l2 a3) 55 #[.pointer (some ⟨g1, 0, none⟩), .pointer (some ⟨g2, 0, none⟩), .pointer (some ⟨g3, 0, none⟩)] g 0 cap 0 l0.length l0.toArray w (fun args w => enters_ Try.func55 (by kernel_rfl) rfl args w) hcmp hH (Nat.zero_le _) (by simp) (by simp; omega)
      refine (slices_SortStableFunc_int_int.top (some ⟨g, 0, none⟩) l0.length cap _ (by omega) w _ C).mono ?_
      rintro e w' ⟨rfl, n, hw⟩
      have hsz : (Sort.insertionSort (ltOf (slices_SortStableFunc_int_int.cf a1 l2 a3)) l0.toArray 0 l0.length).size = l0.length := by rw [slices_SortStableFunc_int_int.sort_size]; simp
      rw [← sortWorld_none] at hw
      subst hw
      refine ⟨rfl, ?_, hB.grown (slices_SortStableFunc_int_int.sw_grown enc _) hB.size (fun k hk => by cases hk; exact hbase), hkept _ _ _⟩
      refine Kd.R_mono (ok := P0_) (Kd.R_of_own (enc := Value.int .i64) (h1 := fun _ => rfl) ?_ (fun k hk => by cases hk; exact hP)) (fun k hk => .inl hk)
      have hlen : (slices_SortStableFunc_int_int.srt a1 l2 a3 l0).length = l0.length := by unfold slices_SortStableFunc_int_int.srt; simp [hsz]
      refine ⟨by simp [encs], .inr ⟨g, cap, _, by rw [hlen], hbase, slices_SortStableFunc_int_int.sw_g enc _ hb, by omega, h2, by simp [Sort.putCells, h3], ?_⟩⟩
      have ht := slices_SortStableFunc_int_int.put_take enc cur (Sort.insertionSort (ltOf (slices_SortStableFunc_int_int.cf a1 l2 a3)) l0.toArray 0 l0.length) (by rw [hsz]; omega)
      rw [hsz] at ht
      rw [Nat.mul_one, hlen, ht]
      unfold slices_SortStableFunc_int_int.srt encs
      rw [henc, List.map_map]
      rfl
  · rw [if_neg hc] at h
    cases h

end Go.Proofs.Ytkcmjdbeiclbkaa.PPartWhole
