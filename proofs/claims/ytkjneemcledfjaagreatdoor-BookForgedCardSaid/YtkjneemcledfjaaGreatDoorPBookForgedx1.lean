/- The machine side of a law, written by a program of this session (wip/mp). -/
import Derived.Test.YtkjneemcledfjaaGreatDoorPBookForgedx0
namespace Go.Proofs.YtkjneemcledfjaaGreatDoor.PBookForged
open Go.RowKit Go.Proofs.YtkjneemcledfjaaGreatDoorW.PrintWords Go.Proofs.YtkjneemcledfjaaGreatDoorW.PrintLast Go.Proofs.YtkjneemcledfjaaGreatDoorW.PrintMore
attribute [local go_sem] max2_int min2_int max_two min_two max_three min_three max_four min_four   -- for this text's walks alone
set_option linter.unusedVariables false
set_option linter.unusedSimpArgs false

/-! ### fact_Stable: function 19 (by hand) -/

instance fact_Stable.inh : Inhabited (S48) := ⟨z48⟩
def fact_Stable.lm (n : Int) : Int := mx 0 (mn n 1048576)
def fact_Stable.nz (s : S48) : S48 := { s with f5 := fact_Stable.lm s.f5 }
def fact_Stable.cf (x y : S48) : Int := fact_Stable.lm x.f5 - fact_Stable.lm y.f5
def fact_Stable.srt (l : List (S48)) : List (S48) := (Sort.insertionSort (ltOf fact_Stable.cf) l.toArray 0 l.length).toList.map fact_Stable.nz
def fact_Stable.f (l0 : List (S48)) : Option (List (S48)) := if l0.length = 0 then some [] else if l0.length ≤ 19 ∧ (l0.all fun s => decide (fact_Stable.lm s.f5 = s.f5)) = true then some (fact_Stable.srt l0) else none
def fact_Stable.ren : Go.Shelf.Ren := ⟨fun | 20 => 58 | n => n, fun | 22 => 24 | 24 => 48 | 25 => 61 | 3 => 3 | 0 => 0 | 4 => 4 | n => n, fun | n => n⟩
theorem fact_Stable.lays : Go.Proofs.SlLaysF0.n20 Tryz.prog fact_Stable.ren := {
  mixed := by kernel_rfl
  f20 := ⟨Tryz.f58.name, by decide, Tryz.func58.trans (congrArg some (by kernel_rfl))⟩
  t0 := Tryz.underlying0
  a0 := Tryz.isAgg0
  z0 := Tryz.sizeOf0
  v0 := Tryz.zeroValue0
  t3 := Tryz.underlying3
  a3 := Tryz.isAgg3
  z3 := Tryz.sizeOf3
  v3 := Tryz.zeroValue3
  t4 := Tryz.underlying4
  a4 := Tryz.isAgg4
  z4 := Tryz.sizeOf4
  v4 := Tryz.zeroValue4
  t22 := Tryz.underlying24
  a22 := Tryz.isAgg24
  z22 := Tryz.sizeOf24
  v22 := Tryz.zeroValue24
  t25 := Tryz.underlying61
  a25 := Tryz.isAgg61
  z25 := Tryz.sizeOf61
  v25 := Tryz.zeroValue61 }
def fact_Stable.enc (s : S48) : List Value := [.int .i64 s.f0, .string s.f1, .int .i64 s.f2.f0, .int .i64 s.f2.f1, .int .i64 s.f3, .int .i64 s.f4, .int .i64 (fact_Stable.lm s.f5)]
theorem fact_Stable.lm_range (n : Int) : 0 ≤ fact_Stable.lm n ∧ fact_Stable.lm n ≤ 1048576 := by unfold fact_Stable.lm mx mn; (repeat' split) <;> omega
set_option maxHeartbeats 8000000 in
set_option maxRecDepth 100000 in
theorem fact_Stable.clo (x y : S48) (W : World) : Calls Tryz.prog 28 #[.agg (fact_Stable.enc x).toArray, .agg (fact_Stable.enc y).toArray] W fun e w' => e = .returned (.int .i64 (fact_Stable.cf x y)) ∧ ∃ q os', w' = Sort.grow (W.drewN q) os' := by
  have hx := fact_Stable.lm_range x.f5
  have hy := fact_Stable.lm_range y.f5
  unfold fact_Stable.cf fact_Stable.enc
  generalize fact_Stable.lm x.f5 = p at hx ⊢
  generalize fact_Stable.lm y.f5 = q at hy ⊢
  have hw : wrap64 (p - q) = p - q := by unfold wrap64; omega
  clear hx hy
  go_enter Tryz.func28, Tryz.ntmps28
  go_wp2
  go_ret
  exact ⟨(by show Ending.returned (.int .i64 (wrap64 (p - q))) = _; rw [hw]), 0, _, by first | (rw [Sort.alloc_eq_grow, Sort.alloc_eq_grow, Sort.grow_grow]; rfl) | exact (Sort.grow_empty _).symm⟩
set_option maxHeartbeats 8000000 in
set_option maxRecDepth 100000 in
theorem fact_Stable.stb (sl fv : Value) (N : Int) (hN : N < 20) (w : World) (Q : World → Prop) (C : Calls Tryz.prog 58 #[sl, .int .i64 0, .int .i64 N, fv] w fun e w' => e = .returned (.tuple #[]) ∧ Q w') :
    Calls Tryz.prog 40 #[sl, .int .i64 N, fv] w fun e w' => e = .returned (.tuple #[]) ∧ Q w' := by
  have c1 : decide ((20 : Int) ≤ N) = false := decide_eq_false (by omega)
  have c2 : decide ((20 : Int) < N) = false := decide_eq_false (by omega)
  clear hN
  go_enter Tryz.func40, Tryz.ntmps40
  go_wp2
  go_loopg [7, 8] 0 (fun kq v7 v8 w' => v7 = .int .i64 0 ∧ v8 = .int .i64 20 ∧ w' = w)
  case atStart => exact ⟨rfl, rfl, rfl⟩
  case round =>
    obtain ⟨rfl, rfl, rfl⟩ := hrel
    go_wp2_with (first | ((with_reducible refine gate_callee (f := 58) rfl ?_); refine goesL_ (some 27) rfl rfl Tryz.func58 (by kernel_rfl) rfl #[sl, .int .i64 0, .int .i64 N, fv] rfl (by (try simp only [List.map_toArray, List.map_cons, List.map_nil]); first | done | rfl) ?_; refine C.mono ?_; rintro e w6 ⟨rfl, hw⟩; refine ⟨_, rfl, ?_⟩; have HW := Aside0.mk hw; clear hw C))
    simp only [Act.put, List.setIfInBounds_toArray, List.set_cons_zero, List.set_cons_succ]
    go_loopg [6] 0 (fun kq v6 w' => v6 = .int .i64 20 ∧ Aside0 (Q w'))
    case atStart => exact ⟨rfl, HW⟩
    case round =>
      obtain ⟨rfl, HX⟩ := hrel
      clear HW
      go_wp2
      first | go_end0 | ((try simp only [Exit.inBlock, Exit.then]); refine bodyPost_ret (results_none rfl _ _ _) rfl ?_)
      exact ⟨rfl, HX.out⟩
set_option maxHeartbeats 8000000 in
set_option maxRecDepth 100000 in
theorem fact_Stable.top (A : Option Addr) (N c : Nat) (fv : Value) (hN : N < 20) (w : World) (Q : World → Prop) (C : Calls Tryz.prog 58 #[.slice A N c, .int .i64 0, .int .i64 N, fv] w fun e w' => e = .returned (.tuple #[]) ∧ Q w') :
    Calls Tryz.prog 19 #[.slice A N c, fv] w fun e w' => e = .returned (.tuple #[]) ∧ Q w' := by
  have C2 := fact_Stable.stb (.slice A N c) fv N (by omega) w Q C
  clear C hN
  go_enter Tryz.func19, Tryz.ntmps19
  go_wp2_with (first | (go_at_call 40; refine C2.mono ?_; rintro e w6 ⟨rfl, hw⟩; have HW := Aside0.mk hw; clear hw C2))
  first | go_end0 | ((try simp only [Exit.inBlock, Exit.then]); refine bodyPost_ret (results_none rfl _ _ _) rfl ?_)
  exact ⟨rfl, HW.out⟩
theorem fact_Stable.inner_size (lt : S48 → S48 → Bool) (a : Nat) : ∀ (j : Nat) (d : Array (S48)), (Sort.insInner lt a j d).size = d.size
  | 0, d => rfl
  | j + 1, d => by
    rw [Sort.insInner]
    split
    · rw [fact_Stable.inner_size lt a j, Sort.size_swp]
    · rfl
theorem fact_Stable.outer_size (lt : S48 → S48 → Bool) (a b : Nat) : ∀ (n i : Nat) (d : Array (S48)), b - i = n → (Sort.insOuter lt a b i d).size = d.size := by
  intro n
  induction n with
  | zero => intro i d h; rw [Sort.insOuter, if_neg (by omega)]
  | succ n ih => intro i d h; rw [Sort.insOuter, if_pos (by omega), ih _ _ (by omega), fact_Stable.inner_size]
theorem fact_Stable.sort_size (lt : S48 → S48 → Bool) (d : Array (S48)) (a b : Nat) : (Sort.insertionSort lt d a b).size = d.size := fact_Stable.outer_size lt a b _ _ d rfl
theorem fact_Stable.sw_g {w : World} {g n : Nat} {os : Array Obj} {cur : Array Value} {e : TypeId} {fr : Nat × Nat} (d : Array Value) (hb : w.heap[g]? = some (.cells cur e fr)) :
    (sortWorld id w g 0 n d os).heap[g]? = some (.cells (Sort.putCells id 0 d cur) e fr) := by
  have hg : g < w.heap.size := (Array.getElem?_eq_some_iff.1 hb).1
  unfold sortWorld
  rw [Sort.heap_grow_old _ _ (by simpa [Sort.putRow, Sort.mapBlock, Sort.ahead] using hg)]
  simp [Sort.putRow, Sort.mapBlock, Sort.ahead, Array.getElem?_modify, hb, Sort.onCells]
theorem fact_Stable.sw_grown {w : World} {g n : Nat} {os : Array Obj} (d : Array Value) : w.grownBy (sortWorld id w g 0 n d os) (some g) := by
  unfold sortWorld
  refine ⟨rfl, rfl, rfl, by simp [Sort.grow, Sort.putRow, Sort.mapBlock, Sort.ahead], fun k hk hne => ?_⟩
  rw [Sort.heap_grow_old _ _ (by simpa [Sort.putRow, Sort.mapBlock, Sort.ahead] using hk)]
  have : g ≠ k := fun e => hne (by rw [e])
  simp [Sort.putRow, Sort.mapBlock, Sort.ahead, Array.getElem?_modify, this]
theorem fact_Stable.put_take (cur : Array Value) (d : Array Value) (h : d.size ≤ cur.size) : (Sort.putCells id 0 d cur).toList.take d.size = d.toList := by
  apply List.ext_getElem?
  intro j
  by_cases hj : j < d.size
  · rw [List.getElem?_take_of_lt hj, Array.getElem?_toList]
    simp [Sort.putCells, hj, show j < cur.size by omega]
  · rw [List.getElem?_take_eq_none (by omega), List.getElem?_eq_none (by simp; omega)]
theorem fact_Stable.flat_size (d : Array (S48)) : (Sort.flatK fact_Stable.enc 7 d).size = d.size * 7 := Sort.size_flatK _ _ _
theorem fact_Stable.flat_at (d : Array (S48)) (j : Nat) (hj : j < d.size) : ((Sort.flatK fact_Stable.enc 7 d).toList.drop (j * 7)).take 7 = fact_Stable.enc d[j] := by
  have h0 : (Sort.flatK fact_Stable.enc 7 d).toList.length = d.size * 7 := by rw [Array.length_toList, fact_Stable.flat_size]
  have g : ∀ t, (ht : t < d.size * 7) → (Sort.flatK fact_Stable.enc 7 d).toList[t]? = some ((fact_Stable.enc d[t / 7]!)[t % 7]!) := by
    intro t ht
    have := Sort.get_flatK fact_Stable.enc 7 d t ht
    rw [Array.getElem?_toList, Array.getElem?_eq_getElem (by rw [fact_Stable.flat_size]; exact ht), ← this, getElem!_pos _ t (by rw [fact_Stable.flat_size]; exact ht)]
  apply List.ext_getElem?
  intro i
  by_cases hi : i < 7
  · rw [List.getElem?_take_of_lt hi, List.getElem?_drop, g (j * 7 + i) (by omega), show (j * 7 + i) / 7 = j by omega, show (j * 7 + i) % 7 = i by omega, getElem!_pos d j hj]
    rcases (show i = 0 ∨ i = 1 ∨ i = 2 ∨ i = 3 ∨ i = 4 ∨ i = 5 ∨ i = 6 by omega) with rfl | rfl | rfl | rfl | rfl | rfl | rfl <;> rfl
  · rw [List.getElem?_take_eq_none (by omega), List.getElem?_eq_none (by show 7 ≤ i; omega)]
set_option maxHeartbeats 8000000 in
set_option maxRecDepth 100000 in
theorem fact_Stable.calls (P0_ : Nat → Prop) (u9000_ : Value) (l0 : List (S48)) (r : List (S48)) (w0 w : World) (hB : Below w0.heap.size w0 w) (ho0 : Kd.R k48 48 w w0.heap.size P0_ u9000_ l0) (h : fact_Stable.f l0 = some r) :
    Calls Tryz.prog 19 #[u9000_, .func (.func 28) #[] #[]] w fun e w' => e = .returned (.tuple #[]) ∧ Kd.R k48 48 w' w0.heap.size (fun k_ => (P0_ k_ ∨ w.heap.size ≤ k_)) u9000_ r ∧ Below w0.heap.size w0 w' ∧ Kept w w' (fun k_ => P0_ k_) := by
  unfold fact_Stable.f at h
  by_cases h0 : l0.length = 0
  · rw [if_pos h0] at h
    obtain rfl := Option.some.inj h
    obtain rfl := List.eq_nil_of_length_eq_zero h0
    have hro := Kd.R_mono (ok' := fun k_ => (P0_ k_ ∨ w.heap.size ≤ k_)) ho0 (fun k hk => .inl hk)
    obtain ⟨A, c, rfl⟩ := Kd.R_slice ho0
    refine (fact_Stable.top A 0 c _ (by omega) w (fun w' => w' = w) (AnyF.insertionSortCmpFunc_none fact_Stable.lays A c _ w)).mono ?_
    rintro e w' ⟨rfl, rfl⟩
    exact ⟨rfl, hro, hB, Kept.refl _ _⟩
  · rw [if_neg h0] at h
    by_cases hc : l0.length ≤ 19 ∧ (l0.all fun s => decide (fact_Stable.lm s.f5 = s.f5)) = true
    · rw [if_pos hc] at h
      obtain rfl := Option.some.inj h
      obtain ⟨hl, hall⟩ := hc
      have hin : ∀ s ∈ l0, fact_Stable.lm s.f5 = s.f5 := fun s hs => of_decide_eq_true (List.all_eq_true.1 hall s hs)
      obtain ⟨hP0, inner, hown, hreps⟩ := ho0
      rcases hown.2 with ⟨_, hn0⟩ | ⟨g, cap, cur, hu, hbase, hb, h1, h2, h3, h4⟩
      · exact absurd hn0 h0
      · subst hu
        have hP : P0_ g := hP0 g rfl
        have hgs : g < w.heap.size := (Array.getElem?_eq_some_iff.1 hb).1
        have h3' : cur.size = cap * 7 := h3
        have h4' : cur.toList.take (l0.length * 7) = inner := h4
        have hkept : ∀ (n : Nat) (d : Array Value) (os : Array Obj), Kept w (sortWorld id w g 0 n d os) (fun k_ => P0_ k_) := fun n d os =>
          ⟨(fact_Stable.sw_grown d).size, fun i hi hn => (fact_Stable.sw_grown d).block i hi (fun e => hn (by rw [Option.some.inj e]; exact hP))⟩
        have hH : Sort.HoldsK fact_Stable.enc 7 w g 0 l0.toArray := by
          intro j hj
          rw [fact_Stable.flat_size] at hj
          have hj' : j < l0.length * 7 := by simpa using hj
          refine ⟨?_, by simp [World.frozen?, hb]⟩
          have hq : j / 7 < l0.length := by omega
          have hm := hreps.2 (j / 7) l0[j / 7] (List.getElem?_eq_getElem hq)
          have hop := k48_openM hm
          have hfl := Sort.get_flatK fact_Stable.enc 7 l0.toArray j hj
          have hz : l0.toArray[j / 7]! = l0[j / 7] := by simp [hq]
          have hcell : w.cell? ⟨g, 0 + j, none⟩ = inner[j]? := by
            rw [← h4', List.getElem?_take_of_lt hj', Array.getElem?_toList]
            simp [World.cell?, hb]
          have hlm := hin l0[j / 7] (List.getElem_mem hq)
          have hget : inner[j]? = (fact_Stable.enc l0[j / 7])[j % 7]? := by
            unfold fact_Stable.enc
            rw [hlm, ← hop]
            show inner[j]? = ((inner.drop (j / 7 * 7)).take 7)[j % 7]?
            rw [List.getElem?_take_of_lt (by omega), List.getElem?_drop, show j / 7 * 7 + j % 7 = j by omega]
          rw [hcell, hget, hfl, hz]
          unfold fact_Stable.enc
          rcases (show j % 7 = 0 ∨ j % 7 = 1 ∨ j % 7 = 2 ∨ j % 7 = 3 ∨ j % 7 = 4 ∨ j % 7 = 5 ∨ j % 7 = 6 by omega) with e | e | e | e | e | e | e <;> rw [e] <;> rfl
        have hcmp : CmpLays Tryz.prog 28 #[] fact_Stable.enc 7 fact_Stable.cf g 0 l0.toArray.size w := fun mm os dk _ x y => fact_Stable.clo x y _
        have C := AnyQ.insertionSortCmpFunc fact_Stable.lays 7 Tryz.isAgg48 Tryz.sizeOf48 fact_Stable.enc (fun _ => rfl) (fun x v hv => by simp [fact_Stable.enc] at hv; rcases hv with rfl | rfl | rfl | rfl | rfl | rfl | rfl <;> rfl) fact_Stable.cf 28 #[] g 0 cap 0 l0.toArray.size l0.toArray w (fun args w => enters_ Tryz.func28 (by kernel_rfl) rfl args w) hcmp hH hgs (Nat.zero_le _) (Nat.le_refl _) (by simp; omega)
        have hsl : (l0.toArray.size : Int) = (l0.length : Int) := by simp
        refine Calls.mono (fact_Stable.top (some ⟨g, 0, none⟩) l0.length cap _ (by omega) w _ C) ?_
        rintro e w' ⟨rfl, n, os, hw⟩
        obtain ⟨dd, hdd⟩ : ∃ dd, dd = Sort.insertionSort (ltOf fact_Stable.cf) l0.toArray 0 l0.toArray.size := ⟨_, rfl⟩
        rw [← hdd] at hw
        have hsz : dd.size = l0.length := by
          have hp := fact_Stable.sort_size (ltOf fact_Stable.cf) l0.toArray 0 l0.toArray.size
          rw [hdd, hp]; simp
        have hr : fact_Stable.srt l0 = dd.toList.map fact_Stable.nz := by rw [hdd]; rfl
        have hw2 : w' = sortWorld id w g 0 n (Sort.flatK fact_Stable.enc 7 dd) os := hw
        subst hw2
        have hlen : (fact_Stable.srt l0).length = l0.length := by rw [hr]; simp [hsz]
        refine ⟨rfl, ⟨fun k hk => .inl (hP0 k hk), (Sort.flatK fact_Stable.enc 7 dd).toList, ?_, ?_⟩, hB.grown (fact_Stable.sw_grown _) hB.size (fun k hk => by cases hk; exact hbase), hkept _ _ _⟩
        · refine ⟨?_, .inr ⟨g, cap, _, by rw [hlen], hbase, fact_Stable.sw_g _ hb, by omega, h2, ?_, ?_⟩⟩
          · rw [hlen]
            show (Sort.flatK fact_Stable.enc 7 dd).toList.length = l0.length * 7
            rw [Array.length_toList, fact_Stable.flat_size, hsz]
          · show _ = cap * 7
            simp [Sort.putCells, h3']
          · rw [hlen]
            show (Sort.putCells id 0 (Sort.flatK fact_Stable.enc 7 dd) cur).toList.take (l0.length * 7) = _
            have := fact_Stable.put_take cur (Sort.flatK fact_Stable.enc 7 dd) (by rw [fact_Stable.flat_size, hsz]; omega)
            rw [fact_Stable.flat_size, hsz] at this
            exact this
        · refine ⟨?_, fun j p hj => ?_⟩
          · rw [hlen]
            show (Sort.flatK fact_Stable.enc 7 dd).toList.length = l0.length * 7
            rw [Array.length_toList, fact_Stable.flat_size, hsz]
          · obtain ⟨hjl, hjp⟩ := List.getElem?_eq_some_iff.1 hj
            have hjd : j < dd.size := by omega
            have hf := fact_Stable.flat_at dd j hjd
            have hp : p = fact_Stable.nz dd[j] := by
              rw [← hjp]
              simp only [hr, List.getElem_map]
              rfl
            show k48.M _ _ _ p (((Sort.flatK fact_Stable.enc 7 dd).toList.drop (j * 7)).take 7)
            rw [hf, hp]
            exact k48_mkM _ _ _ (fact_Stable.nz dd[j])
    · rw [if_neg hc] at h
      cases h

/-! ### book_Digest: function 10 (by hand) -/

/-- A digest, one byte further. -/
def dgOne (s c : Int) : Int := IntKind.u64.wrap (bits .xor .u64 s c * 1099511628211)
/-- The next k bytes from i on. -/
def dgFrom (t : ByteArray) : Nat → Int → Int → Int
  | 0, _, s => s
  | k + 1, i, s => dgFrom t k (i + 1) (dgOne s (rd (bytesOf t) i))
def book_Digest.f (a0 : Int) (a1 : ByteArray) : Option (Int) := if a1.size ≤ 1000000 then some (dgOne (dgFrom a1 a1.size 0 a0) 256) else none
set_option maxHeartbeats 8000000 in
set_option maxRecDepth 100000 in
theorem book_Digest.calls (a0 : Int) (a1 : ByteArray) (r : Int) (w : World) (h : book_Digest.f a0 a1 = some r) :
    Calls Tryz.prog 10 #[.int .u64 a0, .string a1] w fun e w' => e = .returned (.int .u64 r) ∧ Below w.heap.size w w' := by
  unfold book_Digest.f at h
  by_cases hs : a1.size ≤ 1000000
  case neg => rw [if_neg hs] at h; cases h
  rw [if_pos hs] at h
  obtain rfl := Option.some.inj h
  clear h
  have kb := fun W => print_bytes (P := Tryz.prog) 9 35 5 Tryz.underlying9 Tryz.underlying35 Tryz.underlying5 a1 W
  obtain ⟨G, hG⟩ : ∃ G, G = dgFrom a1 a1.size 0 a0 := ⟨_, rfl⟩
  rw [← hG]
  have HG := Aside0.mk hG
  have HS := Aside0.mk hs
  clear hG hs
  go_enter Tryz.func10, Tryz.ntmps10
  go_wp2
  have hB : Below w.heap.size w (Lib.bytesWorld w 5 a1) := bytes_below (Below.refl _ _) (Nat.le_refl _) _ _
  go_loopg [0, 10] a1.size (fun kq v0 v10 w' => ∃ (s i : Int), v0 = .int .u64 s ∧ v10 = .int .i64 i ∧ Aside0 (0 ≤ i ∧ (kq : Int) + i = (a1.size : Int)) ∧ Aside0 (G = dgFrom a1 kq i s) ∧ w' = Lib.bytesWorld w 5 a1)
  case atStart => exact ⟨a0, 0, rfl, rfl, ⟨by omega⟩, HG, rfl⟩
  case round =>
    obtain ⟨s, i, rfl, rfl, HI, HN, rfl⟩ := hrel
    clear HG
    cases gk with
    | zero =>
      have c3 : decide (i < (a1.size : Int)) = false := decide_eq_false (by have := HI.out; omega)
      clear HI
      go_wp2
      go_ret
      exact ⟨by rw [HN.out]; rfl, hB⟩
    | succ k1 =>
      have hi := HI.out
      have hsz := HS.out
      have c3 : decide (i < (a1.size : Int)) = true := decide_eq_true (by omega)
      have hv : rd (bytesOf a1) i = ((a1.data.toList.getD i.toNat 0).toNat : Int) := by
        unfold rd bytesOf
        simp only [List.getD_eq_getElem?_getD, List.getElem?_map]
        cases a1.data.toList[i.toNat]? <;> rfl
      have hx := Lib.bytesWorld_cell w 5 a1 i.toNat (by omega)
      rw [← hv] at hx
      have hw : wrap64 (i + 1) = i + 1 := by unfold wrap64; omega
      have hc0 : 0 ≤ rd (bytesOf a1) i ∧ rd (bytesOf a1) i < 256 := by rw [hv]; have := (a1.data.toList.getD i.toNat 0).toNat_lt; omega
      have hcw : IntKind.u64.wrap (rd (bytesOf a1) i) = rd (bytesOf a1) i := by rw [IntKind.wrap_u64]; omega
      have p1 : (0 ≤ i) = True := eq_true (by omega)
      have q1 : (i < (a1.size : Int)) = True := eq_true (by omega)
      have HN' := Aside0.mk (show G = dgFrom a1 k1 (i + 1) (dgOne s (rd (bytesOf a1) i)) from HN.out)
      clear hi hv hc0 hsz HN
      go_wp2
      go_roundg k1
      case measure => omega
      case rel => exact ⟨dgOne s (rd (bytesOf a1) i), i + 1, by first | rfl | (unfold dgOne; rw [hcw]) | (unfold dgOne; simp [hcw]), by rw [hw], ⟨by have := HI.out; omega⟩, HN', rfl⟩

/-! ### fact_Name: function 63 (by hand) -/

/-- The letters that a name may have. -/
def nameByte (x : Int) : Bool := (decide (x ≥ 97) && decide (x ≤ 122)) || (decide (x ≥ 48) && decide (x ≤ 57)) || (x == 45)
/-- The next k letters from i on. -/
def nameFrom (s : ByteArray) : Nat → Int → Bool
  | 0, _ => true
  | k + 1, i => nameByte (rd (bytesOf s) i) && nameFrom s k (i + 1)
def nameOk (s : ByteArray) : Bool := decide (0 < s.size) && decide (s.size ≤ 20) && decide (97 ≤ bt s 0) && nameFrom s s.size 0
def fact_Name.f (a0 : ByteArray) : Option (Bool) := some (nameOk a0)
theorem name_cases (x : Int) : (nameByte x = true ∧ decide (x ≥ 97) = true ∧ decide (x ≤ 122) = true) ∨
    (nameByte x = true ∧ decide (x ≥ 97) = false ∧ decide (x ≥ 48) = true ∧ decide (x ≤ 57) = true) ∨
    (nameByte x = true ∧ decide (x ≥ 97) = false ∧ decide (x ≥ 48) = false ∧ (x == 45) = true) ∨
    (nameByte x = false ∧ decide (x ≥ 97) = true ∧ decide (x ≤ 122) = false ∧ decide (x ≥ 48) = true ∧ decide (x ≤ 57) = false ∧ (x == 45) = false) ∨
    (nameByte x = false ∧ decide (x ≥ 97) = false ∧ decide (x ≥ 48) = true ∧ decide (x ≤ 57) = false ∧ (x == 45) = false) ∨
    (nameByte x = false ∧ decide (x ≥ 97) = false ∧ decide (x ≥ 48) = false ∧ (x == 45) = false) := by
  unfold nameByte
  by_cases h1 : x ≥ 97 <;> by_cases h2 : x ≤ 122 <;> by_cases h3 : x ≥ 48 <;> by_cases h4 : x ≤ 57 <;> by_cases h5 : x = 45 <;> simp [h1, h2, h3, h4, h5] <;> omega
theorem name_step (s : ByteArray) (k : Nat) (i : Int) (b : Bool) (h : nameByte (rd (bytesOf s) i) = b) : nameFrom s (k + 1) i = (b && nameFrom s k (i + 1)) := by
  rw [nameFrom, h]
set_option maxHeartbeats 8000000 in
set_option maxRecDepth 100000 in
theorem fact_Name.calls (a0 : ByteArray) (r : Bool) (w : World) (h : fact_Name.f a0 = some r) :
    Calls Tryz.prog 63 #[.string a0] w fun e w' => e = .returned (.bool r) ∧ Below w.heap.size w w' := by
  obtain rfl := Option.some.inj h
  clear h
  unfold nameOk
  by_cases h0 : a0.size = 0
  · have e0 : a0 = (⟨#[]⟩ : ByteArray) := by
      apply ByteArray.ext
      exact Array.eq_empty_of_size_eq_zero h0
    subst e0
    go_enter Tryz.func63, Tryz.ntmps63
    go_wp2_with fail
    go_ret
    exact ⟨rfl, Below.refl _ _⟩
  · have e0 : a0.toList.isEmpty = false := by
      rw [ByteArray.toList_eq, List.isEmpty_eq_false_iff]
      intro hh
      have := congrArg List.length hh
      rw [Array.length_toList] at this
      exact h0 this
    have e1 : (a0.toList == ([] : List UInt8)) = false := by
      rw [← e0]
      cases a0.toList <;> rfl
    rw [decide_eq_true (show 0 < a0.size by omega), Bool.true_and]
    by_cases h1 : a0.size ≤ 20
    · have c1 : decide ((a0.size : Int) > 20) = false := decide_eq_false (by omega)
      rw [decide_eq_true h1, Bool.true_and]
      have q0 : 0 < a0.size := by omega
      have hx0 : ∀ h : 0 < a0.size, ((a0[0]'h).toNat : Int) = bt a0 0 := bt_at a0 0
      have qi0 : (0 < (a0.size : Int)) = True := eq_true (by omega)
      replace q0 := eq_true q0
      by_cases c2 : bt a0 0 < 97
      · have c2b : decide (bt a0 0 < 97) = true := decide_eq_true c2
        rw [decide_eq_false (show ¬ 97 ≤ bt a0 0 by omega), Bool.false_and]
        clear c2 h0
        go_enter Tryz.func63, Tryz.ntmps63
        go_wp2
        go_ret
        exact ⟨rfl, Below.refl _ _⟩
      · have c2b : decide (bt a0 0 < 97) = false := decide_eq_false c2
        rw [decide_eq_true (show 97 ≤ bt a0 0 by omega), Bool.true_and]
        clear c2 h0
        have kb := fun W => print_bytes (P := Tryz.prog) 9 35 5 Tryz.underlying9 Tryz.underlying35 Tryz.underlying5 a0 W
        go_enter Tryz.func63, Tryz.ntmps63
        go_wp2
        have hB : Below w.heap.size w (Lib.bytesWorld w 5 a0) := bytes_below (Below.refl _ _) (Nat.le_refl _) _ _
        go_loopg [20] a0.size (fun kq v20 w' => ∃ (i : Int), v20 = .int .i64 i ∧ Aside0 (0 ≤ i ∧ (kq : Int) + i = (a0.size : Int)) ∧ Aside0 (nameFrom a0 a0.size 0 = nameFrom a0 kq i) ∧ w' = Lib.bytesWorld w 5 a0)
        case atStart => exact ⟨0, rfl, ⟨by omega⟩, ⟨rfl⟩, rfl⟩
        case round =>
          obtain ⟨i, rfl, HI, HN, rfl⟩ := hrel
          cases gk with
          | zero =>
            have c3 : decide (i < (a0.size : Int)) = false := decide_eq_false (by have := HI.out; omega)
            clear HI
            go_wp2
            go_ret
            exact ⟨by rw [HN.out, nameFrom]; rfl, hB⟩
          | succ k1 =>
            have hi := HI.out
            have c3 : decide (i < (a0.size : Int)) = true := decide_eq_true (by omega)
            have hv : rd (bytesOf a0) i = ((a0.data.toList.getD i.toNat 0).toNat : Int) := by
              unfold rd bytesOf
              simp only [List.getD_eq_getElem?_getD, List.getElem?_map]
              cases a0.data.toList[i.toNat]? <;> rfl
            have hx := Lib.bytesWorld_cell w 5 a0 i.toNat (by omega)
            rw [← hv] at hx
            have hw : wrap64 (i + 1) = i + 1 := by unfold wrap64; omega
            have p1 : (0 ≤ i) = True := eq_true (by omega)
            have q1 : (i < (a0.size : Int)) = True := eq_true (by omega)
            have HN := HN.out
            clear hi hv
            rcases name_cases (rd (bytesOf a0) i) with ⟨nb, d1, d2⟩ | ⟨nb, d1, d2, d3⟩ | ⟨nb, d1, d2, d3⟩ | ⟨nb, d1, d2, d3, d4, d5⟩ | ⟨nb, d1, d2, d3, d4⟩ | ⟨nb, d1, d2, d3⟩
            · rw [name_step _ _ _ _ nb, Bool.true_and] at HN
              have HN' := Aside0.mk HN
              clear HN nb
              go_wp2
              go_roundg k1
              case measure => omega
              case rel => exact ⟨i + 1, by rw [hw], ⟨by have := HI.out; omega⟩, HN', rfl⟩
            · rw [name_step _ _ _ _ nb, Bool.true_and] at HN
              have HN' := Aside0.mk HN
              clear HN nb
              go_wp2
              go_roundg k1
              case measure => omega
              case rel => exact ⟨i + 1, by rw [hw], ⟨by have := HI.out; omega⟩, HN', rfl⟩
            · rw [name_step _ _ _ _ nb, Bool.true_and] at HN
              have HN' := Aside0.mk HN
              clear HN nb
              go_wp2
              go_roundg k1
              case measure => omega
              case rel => exact ⟨i + 1, by rw [hw], ⟨by have := HI.out; omega⟩, HN', rfl⟩
            · rw [name_step _ _ _ _ nb, Bool.false_and] at HN
              have HN' := Aside0.mk HN
              clear HN nb
              go_wp2
              go_ret
              exact ⟨by rw [HN'.out]; rfl, hB⟩
            · rw [name_step _ _ _ _ nb, Bool.false_and] at HN
              have HN' := Aside0.mk HN
              clear HN nb
              go_wp2
              go_ret
              exact ⟨by rw [HN'.out]; rfl, hB⟩
            · rw [name_step _ _ _ _ nb, Bool.false_and] at HN
              have HN' := Aside0.mk HN
              clear HN nb
              go_wp2
              go_ret
              exact ⟨by rw [HN'.out]; rfl, hB⟩
    · have c1 : decide ((a0.size : Int) > 20) = true := decide_eq_true (by omega)
      rw [decide_eq_false h1, Bool.false_and, Bool.false_and]
      clear h1 h0
      go_enter Tryz.func63, Tryz.ntmps63
      go_wp2_with fail
      go_ret
      exact ⟨rfl, Below.refl _ _⟩

/-! ### unit_Range: function 92 -/
def unit_Range.f (a0 : Int) : Option (Int × Int) := if a0 = 1 then (some (0, 1)) else (if a0 = 2 then (some ((-1099511627776), 1099511627776)) else (if a0 = 3 then (some ((-1048576), 1048576)) else (if a0 = 4 then (some (0, 1048575)) else (if a0 = 5 then (some ((-1048576), 1048576)) else (if a0 = 6 then (some ((-1000000000), 1000000000)) else (some (0, 0)))))))
set_option maxHeartbeats 8000000 in
set_option maxRecDepth 100000 in
theorem unit_Range.calls (a0 : Int) (r1 : Int) (r2 : Int) (w : World) (h : unit_Range.f a0 = some (r1, r2)) :
    Calls Tryz.prog 92 #[.int .i64 a0] w fun e w' => e = .returned (.tuple #[.int .i64 r1, .int .i64 r2]) ∧ Drawn0 w w' := by
  have H : (if a0 = 1 then (some (0, 1)) else (if a0 = 2 then (some ((-1099511627776), 1099511627776)) else (if a0 = 3 then (some ((-1048576), 1048576)) else (if a0 = 4 then (some (0, 1048575)) else (if a0 = 5 then (some ((-1048576), 1048576)) else (if a0 = 6 then (some ((-1000000000), 1000000000)) else (some (0, 0)))))))) = some (r1, r2) := h
  clear h
  by_cases c2 : a0 = 1
  · rw [if_pos c2] at H
    have c2b0 : (a0 == 1) = true := beq_iff_eq.mpr c2
    have c2b1 : (a0 != 1) = false := bne_eq_false_iff_eq.mpr c2
    clear c2
    simp only [Option.some.injEq, Prod.mk.injEq] at H
    obtain ⟨rfl, rfl⟩ := H
    go_enter Tryz.func92, Tryz.ntmps92
    go_wp2
    go_ret2
    exact ⟨by first | rfl | (simp; done) | (simp [*]; done), by repeat (first | exact Drawn0.refl _ | apply Drawn0.step)⟩
  · rw [if_neg c2] at H
    have c2b0 : (a0 == 1) = false := beq_eq_false_iff_ne.mpr c2
    have c2b1 : (a0 != 1) = true := bne_iff_ne.mpr c2
    by_cases c3 : a0 = 2
    · rw [if_pos c3] at H
      have c3b0 : (a0 == 2) = true := beq_iff_eq.mpr c3
      have c3b1 : (a0 != 2) = false := bne_eq_false_iff_eq.mpr c3
      clear c3
      simp only [Option.some.injEq, Prod.mk.injEq] at H
      obtain ⟨rfl, rfl⟩ := H
      go_enter Tryz.func92, Tryz.ntmps92
      go_wp2
      go_ret2
      exact ⟨by first | rfl | (simp; done) | (simp [*]; done), by repeat (first | exact Drawn0.refl _ | apply Drawn0.step)⟩
    · rw [if_neg c3] at H
      have c3b0 : (a0 == 2) = false := beq_eq_false_iff_ne.mpr c3
      have c3b1 : (a0 != 2) = true := bne_iff_ne.mpr c3
      by_cases c4 : a0 = 3
      · rw [if_pos c4] at H
        have c4b0 : (a0 == 3) = true := beq_iff_eq.mpr c4
        have c4b1 : (a0 != 3) = false := bne_eq_false_iff_eq.mpr c4
        clear c4
        simp only [Option.some.injEq, Prod.mk.injEq] at H
        obtain ⟨rfl, rfl⟩ := H
        go_enter Tryz.func92, Tryz.ntmps92
        go_wp2
        go_ret2
        exact ⟨by first | rfl | (simp; done) | (simp [*]; done), by repeat (first | exact Drawn0.refl _ | apply Drawn0.step)⟩
      · rw [if_neg c4] at H
        have c4b0 : (a0 == 3) = false := beq_eq_false_iff_ne.mpr c4
        have c4b1 : (a0 != 3) = true := bne_iff_ne.mpr c4
        by_cases c5 : a0 = 4
        · rw [if_pos c5] at H
          have c5b0 : (a0 == 4) = true := beq_iff_eq.mpr c5
          have c5b1 : (a0 != 4) = false := bne_eq_false_iff_eq.mpr c5
          clear c5
          simp only [Option.some.injEq, Prod.mk.injEq] at H
          obtain ⟨rfl, rfl⟩ := H
          go_enter Tryz.func92, Tryz.ntmps92
          go_wp2
          go_ret2
          exact ⟨by first | rfl | (simp; done) | (simp [*]; done), by repeat (first | exact Drawn0.refl _ | apply Drawn0.step)⟩
        · rw [if_neg c5] at H
          have c5b0 : (a0 == 4) = false := beq_eq_false_iff_ne.mpr c5
          have c5b1 : (a0 != 4) = true := bne_iff_ne.mpr c5
          by_cases c6 : a0 = 5
          · rw [if_pos c6] at H
            have c6b0 : (a0 == 5) = true := beq_iff_eq.mpr c6
            have c6b1 : (a0 != 5) = false := bne_eq_false_iff_eq.mpr c6
            clear c6
            simp only [Option.some.injEq, Prod.mk.injEq] at H
            obtain ⟨rfl, rfl⟩ := H
            go_enter Tryz.func92, Tryz.ntmps92
            go_wp2
            go_ret2
            exact ⟨by first | rfl | (simp; done) | (simp [*]; done), by repeat (first | exact Drawn0.refl _ | apply Drawn0.step)⟩
          · rw [if_neg c6] at H
            have c6b0 : (a0 == 5) = false := beq_eq_false_iff_ne.mpr c6
            have c6b1 : (a0 != 5) = true := bne_iff_ne.mpr c6
            by_cases c7 : a0 = 6
            · rw [if_pos c7] at H
              have c7b0 : (a0 == 6) = true := beq_iff_eq.mpr c7
              have c7b1 : (a0 != 6) = false := bne_eq_false_iff_eq.mpr c7
              clear c7
              simp only [Option.some.injEq, Prod.mk.injEq] at H
              obtain ⟨rfl, rfl⟩ := H
              go_enter Tryz.func92, Tryz.ntmps92
              go_wp2
              go_ret2
              exact ⟨by first | rfl | (simp; done) | (simp [*]; done), by repeat (first | exact Drawn0.refl _ | apply Drawn0.step)⟩
            · rw [if_neg c7] at H
              have c7b0 : (a0 == 6) = false := beq_eq_false_iff_ne.mpr c7
              have c7b1 : (a0 != 6) = true := bne_iff_ne.mpr c7
              simp only [Option.some.injEq, Prod.mk.injEq] at H
              obtain ⟨rfl, rfl⟩ := H
              go_enter Tryz.func92, Tryz.ntmps92
              go_wp2
              go_ret2
              exact ⟨by first | rfl | (simp; done) | (simp [*]; done), by repeat (first | exact Drawn0.refl _ | apply Drawn0.step)⟩

/-! ### unit_known: function 93 -/
def unit_known.f (a0 : Int) : Option (Bool) := if a0 ≥ 0 then (some (decide (a0 ≤ 6))) else (none)
set_option maxHeartbeats 8000000 in
set_option maxRecDepth 100000 in
theorem unit_known.calls (a0 : Int) (r : Bool) (w : World) (h : unit_known.f a0 = some r) :
    Calls Tryz.prog 93 #[.int .i64 a0] w fun e w' => e = .returned (.bool r) ∧ Drawn0 w w' := by
  have H : (if a0 ≥ 0 then (some (decide (a0 ≤ 6))) else (none)) = some r := h
  clear h
  by_cases c2 : a0 ≥ 0
  · rw [if_pos c2] at H
    have c2b0 : decide (0 ≤ a0) = true := decide_eq_true c2
    clear c2
    obtain rfl := Option.some.inj H
    go_enter Tryz.func93, Tryz.ntmps93
    go_wp2
    go_ret
    exact ⟨by first | rfl | (simp; done) | (simp [*]; done), by repeat (first | exact Drawn0.refl _ | apply Drawn0.step)⟩
  · rw [if_neg c2] at H
    exact absurd H (by simp)

/-! ### unit_Check: function 64 -/
def unit_Check.f (a0_0 : Int) (a0_1 : Int) : Option (Int) := (unit_Range.f a0_0).bind fun bt102 => ((unit_known.f a0_0).bind fun t104 => (if t104 = true then (if a0_1 < bt102.1 then (some 2) else (if a0_1 > bt102.2 then (some 2) else (some 0))) else (some 8)))
set_option maxHeartbeats 8000000 in
set_option maxRecDepth 100000 in
theorem unit_Check.calls (a0_0 : Int) (a0_1 : Int) (r : Int) (w : World) (h : unit_Check.f a0_0 a0_1 = some r) :
    Calls Tryz.prog 64 #[.agg #[.int .i64 a0_0, .int .i64 a0_1]] w fun e w' => e = .returned (.int .i64 r) ∧ Below w.heap.size w w' := by
  have hu46 := Tryz.underlying46
  have HB := Aside0.mk (Below.refl w.heap.size w)
  have H : ((unit_Range.f a0_0).bind fun bt102 => ((unit_known.f a0_0).bind fun t104 => (if t104 = true then (if a0_1 < bt102.1 then (some 2) else (if a0_1 > bt102.2 then (some 2) else (some 0))) else (some 8)))) = some r := h
  clear h
  replace H := Option.bind_eq_some_iff.mp H
  obtain ⟨⟨t102, t103⟩, A20, H⟩ := H
  replace H : ((unit_known.f a0_0).bind fun t104 => (if t104 = true then (if a0_1 < t102 then (some 2) else (if a0_1 > t103 then (some 2) else (some 0))) else (some 8))) = some r := H
  have A2 := Aside0.mk A20
  clear A20
  replace H := Option.bind_eq_some_iff.mp H
  obtain ⟨t104, A30, H⟩ := H
  replace H : (if t104 = true then (if a0_1 < t102 then (some 2) else (if a0_1 > t103 then (some 2) else (some 0))) else (some 8)) = some r := H
  have A3 := Aside0.mk A30
  clear A30
  by_cases c4 : t104 = true
  · subst c4
    have H1 : (if a0_1 < t102 then (some 2) else (if a0_1 > t103 then (some 2) else (some 0))) = some r := by rw [if_pos rfl] at H; exact H
    clear H
    have H := H1
    clear H1
    by_cases c5 : a0_1 < t102
    · rw [if_pos c5] at H
      have c5b0 : decide (a0_1 < t102) = true := decide_eq_true c5
      clear c5
      obtain rfl := Option.some.inj H
      go_enter Tryz.func64, Tryz.ntmps64
      go_wp2_with (first | ((with_reducible refine gate_dst (N := 1) rfl ?_); refine box_event ?hg (N := 1) ?hd (cs := #[.int .i64 a0_0, .int .i64 a0_1]) (t := 46) ?hr ?_; (case hd => rfl); (case hg => rfl); (case hr => first | (go_simp; done) | (go_simp; rfl)); intro gb101 hg w6 hbox hb; have n0_ := Aside0.mk (below_step (by repeat (first | (with_reducible first | exact HB.out | apply below_alloc | apply pw_below_drewN | apply below_drew1) | exact HB.out)) hb); have n1_ := Aside0.mk (hbox); have n2_ := Aside0.mk ((by rw [hg]; exact (below_size (by repeat (first | (with_reducible first | exact HB.out | apply below_alloc | apply pw_below_drewN | apply below_drew1) | exact HB.out))) : w.heap.size ≤ gb101)); have n3_ := Aside0.mk ((by rw [hg]; exact (below_size (by repeat (first | (with_reducible first | exact HB.out | apply below_alloc | apply pw_below_drewN | apply below_drew1) | exact HB.out))) : w.heap.size ≤ gb101)); clear HB; have HB := n0_; have BK101 := n1_; have GW101 := n2_; have GE101 := n3_; clear n0_ n1_ n2_ n3_; clear hb hbox hg; have hcz7_0 : w6.cell? ⟨gb101, 0, none⟩ = some (.int .i64 a0_0) := (blk_cell BK101.out 0).trans rfl; have hcz7_1 : w6.cell? ⟨gb101, 1, none⟩ = some (.int .i64 a0_1) := (blk_cell BK101.out 1).trans rfl; have hfz7_0 := blk_frozen BK101.out 0; have hfz7_1 := blk_frozen BK101.out 1) | ((with_reducible refine gate_callee (f := 92) rfl ?_); refine goesL_ (some 8) rfl rfl Tryz.func92 (by kernel_rfl) rfl #[.int .i64 a0_0] rfl (by (try simp only [List.map_toArray, List.map_cons, List.map_nil]); first | done | rfl | (simp only [List.length_drop, List.length_take]; rfl)) ?_; (with_reducible refine (unit_Range.calls a0_0 t102 t103 _ A2.out).mono ?_); rintro e w' ⟨rfl, ⟨nd, rfl⟩⟩; refine ⟨_, rfl, ?_⟩) | ((with_reducible refine gate_callee (f := 93) rfl ?_); refine goesL_ (some 14) rfl rfl Tryz.func93 (by kernel_rfl) rfl #[.int .i64 a0_0] rfl (by (try simp only [List.map_toArray, List.map_cons, List.map_nil]); first | done | rfl | (simp only [List.length_drop, List.length_take]; rfl)) ?_; (with_reducible refine (unit_known.calls a0_0 true _ A3.out).mono ?_); rintro e w' ⟨rfl, ⟨nd, rfl⟩⟩; refine ⟨_, rfl, ?_⟩))
      go_ret
      exact ⟨by first | rfl | (simp [errW_none, errW_some] <;> rfl) | (simp [*, errW_none, errW_some] <;> rfl), by repeat (first | (with_reducible first | exact HB.out | apply below_alloc | apply pw_below_drewN | apply below_drew1 | refine below_set ?_ GE101.out) | exact HB.out)⟩
    · rw [if_neg c5] at H
      have c5b0 : decide (a0_1 < t102) = false := decide_eq_false c5
      clear c5
      by_cases c8 : a0_1 > t103
      · rw [if_pos c8] at H
        have c8b0 : decide (t103 < a0_1) = true := decide_eq_true c8
        clear c8
        obtain rfl := Option.some.inj H
        go_enter Tryz.func64, Tryz.ntmps64
        go_wp2_with (first | ((with_reducible refine gate_dst (N := 1) rfl ?_); refine box_event ?hg (N := 1) ?hd (cs := #[.int .i64 a0_0, .int .i64 a0_1]) (t := 46) ?hr ?_; (case hd => rfl); (case hg => rfl); (case hr => first | (go_simp; done) | (go_simp; rfl)); intro gb101 hg w9 hbox hb; have n0_ := Aside0.mk (below_step (by repeat (first | (with_reducible first | exact HB.out | apply below_alloc | apply pw_below_drewN | apply below_drew1) | exact HB.out)) hb); have n1_ := Aside0.mk (hbox); have n2_ := Aside0.mk ((by rw [hg]; exact (below_size (by repeat (first | (with_reducible first | exact HB.out | apply below_alloc | apply pw_below_drewN | apply below_drew1) | exact HB.out))) : w.heap.size ≤ gb101)); have n3_ := Aside0.mk ((by rw [hg]; exact (below_size (by repeat (first | (with_reducible first | exact HB.out | apply below_alloc | apply pw_below_drewN | apply below_drew1) | exact HB.out))) : w.heap.size ≤ gb101)); clear HB; have HB := n0_; have BK101 := n1_; have GW101 := n2_; have GE101 := n3_; clear n0_ n1_ n2_ n3_; clear hb hbox hg; have hcz10_0 : w9.cell? ⟨gb101, 0, none⟩ = some (.int .i64 a0_0) := (blk_cell BK101.out 0).trans rfl; have hcz10_1 : w9.cell? ⟨gb101, 1, none⟩ = some (.int .i64 a0_1) := (blk_cell BK101.out 1).trans rfl; have hfz10_0 := blk_frozen BK101.out 0; have hfz10_1 := blk_frozen BK101.out 1) | ((with_reducible refine gate_callee (f := 92) rfl ?_); refine goesL_ (some 8) rfl rfl Tryz.func92 (by kernel_rfl) rfl #[.int .i64 a0_0] rfl (by (try simp only [List.map_toArray, List.map_cons, List.map_nil]); first | done | rfl | (simp only [List.length_drop, List.length_take]; rfl)) ?_; (with_reducible refine (unit_Range.calls a0_0 t102 t103 _ A2.out).mono ?_); rintro e w' ⟨rfl, ⟨nd, rfl⟩⟩; refine ⟨_, rfl, ?_⟩) | ((with_reducible refine gate_callee (f := 93) rfl ?_); refine goesL_ (some 14) rfl rfl Tryz.func93 (by kernel_rfl) rfl #[.int .i64 a0_0] rfl (by (try simp only [List.map_toArray, List.map_cons, List.map_nil]); first | done | rfl | (simp only [List.length_drop, List.length_take]; rfl)) ?_; (with_reducible refine (unit_known.calls a0_0 true _ A3.out).mono ?_); rintro e w' ⟨rfl, ⟨nd, rfl⟩⟩; refine ⟨_, rfl, ?_⟩))
        go_ret
        exact ⟨by first | rfl | (simp [errW_none, errW_some] <;> rfl) | (simp [*, errW_none, errW_some] <;> rfl), by repeat (first | (with_reducible first | exact HB.out | apply below_alloc | apply pw_below_drewN | apply below_drew1 | refine below_set ?_ GE101.out) | exact HB.out)⟩
      · rw [if_neg c8] at H
        have c8b0 : decide (t103 < a0_1) = false := decide_eq_false c8
        clear c8
        obtain rfl := Option.some.inj H
        go_enter Tryz.func64, Tryz.ntmps64
        go_wp2_with (first | ((with_reducible refine gate_dst (N := 1) rfl ?_); refine box_event ?hg (N := 1) ?hd (cs := #[.int .i64 a0_0, .int .i64 a0_1]) (t := 46) ?hr ?_; (case hd => rfl); (case hg => rfl); (case hr => first | (go_simp; done) | (go_simp; rfl)); intro gb101 hg w11 hbox hb; have n0_ := Aside0.mk (below_step (by repeat (first | (with_reducible first | exact HB.out | apply below_alloc | apply pw_below_drewN | apply below_drew1) | exact HB.out)) hb); have n1_ := Aside0.mk (hbox); have n2_ := Aside0.mk ((by rw [hg]; exact (below_size (by repeat (first | (with_reducible first | exact HB.out | apply below_alloc | apply pw_below_drewN | apply below_drew1) | exact HB.out))) : w.heap.size ≤ gb101)); have n3_ := Aside0.mk ((by rw [hg]; exact (below_size (by repeat (first | (with_reducible first | exact HB.out | apply below_alloc | apply pw_below_drewN | apply below_drew1) | exact HB.out))) : w.heap.size ≤ gb101)); clear HB; have HB := n0_; have BK101 := n1_; have GW101 := n2_; have GE101 := n3_; clear n0_ n1_ n2_ n3_; clear hb hbox hg; have hcz12_0 : w11.cell? ⟨gb101, 0, none⟩ = some (.int .i64 a0_0) := (blk_cell BK101.out 0).trans rfl; have hcz12_1 : w11.cell? ⟨gb101, 1, none⟩ = some (.int .i64 a0_1) := (blk_cell BK101.out 1).trans rfl; have hfz12_0 := blk_frozen BK101.out 0; have hfz12_1 := blk_frozen BK101.out 1) | ((with_reducible refine gate_callee (f := 92) rfl ?_); refine goesL_ (some 8) rfl rfl Tryz.func92 (by kernel_rfl) rfl #[.int .i64 a0_0] rfl (by (try simp only [List.map_toArray, List.map_cons, List.map_nil]); first | done | rfl | (simp only [List.length_drop, List.length_take]; rfl)) ?_; (with_reducible refine (unit_Range.calls a0_0 t102 t103 _ A2.out).mono ?_); rintro e w' ⟨rfl, ⟨nd, rfl⟩⟩; refine ⟨_, rfl, ?_⟩) | ((with_reducible refine gate_callee (f := 93) rfl ?_); refine goesL_ (some 14) rfl rfl Tryz.func93 (by kernel_rfl) rfl #[.int .i64 a0_0] rfl (by (try simp only [List.map_toArray, List.map_cons, List.map_nil]); first | done | rfl | (simp only [List.length_drop, List.length_take]; rfl)) ?_; (with_reducible refine (unit_known.calls a0_0 true _ A3.out).mono ?_); rintro e w' ⟨rfl, ⟨nd, rfl⟩⟩; refine ⟨_, rfl, ?_⟩))
        go_ret
        exact ⟨by first | rfl | (simp [errW_none, errW_some] <;> rfl) | (simp [*, errW_none, errW_some] <;> rfl), by repeat (first | (with_reducible first | exact HB.out | apply below_alloc | apply pw_below_drewN | apply below_drew1 | refine below_set ?_ GE101.out) | exact HB.out)⟩
  · replace c4 := Bool.eq_false_iff.mpr c4
    subst c4
    have H1 : (some 8) = some r := by rw [if_neg (show ¬ (false = true) by decide)] at H; exact H
    clear H
    have H := H1
    clear H1
    obtain rfl := Option.some.inj H
    go_enter Tryz.func64, Tryz.ntmps64
    go_wp2_with (first | ((with_reducible refine gate_dst (N := 1) rfl ?_); refine box_event ?hg (N := 1) ?hd (cs := #[.int .i64 a0_0, .int .i64 a0_1]) (t := 46) ?hr ?_; (case hd => rfl); (case hg => rfl); (case hr => first | (go_simp; done) | (go_simp; rfl)); intro gb101 hg w13 hbox hb; have n0_ := Aside0.mk (below_step (by repeat (first | (with_reducible first | exact HB.out | apply below_alloc | apply pw_below_drewN | apply below_drew1) | exact HB.out)) hb); have n1_ := Aside0.mk (hbox); have n2_ := Aside0.mk ((by rw [hg]; exact (below_size (by repeat (first | (with_reducible first | exact HB.out | apply below_alloc | apply pw_below_drewN | apply below_drew1) | exact HB.out))) : w.heap.size ≤ gb101)); have n3_ := Aside0.mk ((by rw [hg]; exact (below_size (by repeat (first | (with_reducible first | exact HB.out | apply below_alloc | apply pw_below_drewN | apply below_drew1) | exact HB.out))) : w.heap.size ≤ gb101)); clear HB; have HB := n0_; have BK101 := n1_; have GW101 := n2_; have GE101 := n3_; clear n0_ n1_ n2_ n3_; clear hb hbox hg; have hcz14_0 : w13.cell? ⟨gb101, 0, none⟩ = some (.int .i64 a0_0) := (blk_cell BK101.out 0).trans rfl; have hcz14_1 : w13.cell? ⟨gb101, 1, none⟩ = some (.int .i64 a0_1) := (blk_cell BK101.out 1).trans rfl; have hfz14_0 := blk_frozen BK101.out 0; have hfz14_1 := blk_frozen BK101.out 1) | ((with_reducible refine gate_callee (f := 92) rfl ?_); refine goesL_ (some 8) rfl rfl Tryz.func92 (by kernel_rfl) rfl #[.int .i64 a0_0] rfl (by (try simp only [List.map_toArray, List.map_cons, List.map_nil]); first | done | rfl | (simp only [List.length_drop, List.length_take]; rfl)) ?_; (with_reducible refine (unit_Range.calls a0_0 t102 t103 _ A2.out).mono ?_); rintro e w' ⟨rfl, ⟨nd, rfl⟩⟩; refine ⟨_, rfl, ?_⟩) | ((with_reducible refine gate_callee (f := 93) rfl ?_); refine goesL_ (some 14) rfl rfl Tryz.func93 (by kernel_rfl) rfl #[.int .i64 a0_0] rfl (by (try simp only [List.map_toArray, List.map_cons, List.map_nil]); first | done | rfl | (simp only [List.length_drop, List.length_take]; rfl)) ?_; (with_reducible refine (unit_known.calls a0_0 false _ A3.out).mono ?_); rintro e w' ⟨rfl, ⟨nd, rfl⟩⟩; refine ⟨_, rfl, ?_⟩))
    go_ret
    exact ⟨by first | rfl | (simp [errW_none, errW_some] <;> rfl) | (simp [*, errW_none, errW_some] <;> rfl), by repeat (first | (with_reducible first | exact HB.out | apply below_alloc | apply pw_below_drewN | apply below_drew1 | refine below_set ?_ GE101.out) | exact HB.out)⟩

end Go.Proofs.YtkjneemcledfjaaGreatDoor.PBookForged
