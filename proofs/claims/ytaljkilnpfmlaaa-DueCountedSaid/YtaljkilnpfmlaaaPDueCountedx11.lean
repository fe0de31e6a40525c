/- The machine side of a law, written by a program of this session (wip/mp). -/
import Derived.Test.YtaljkilnpfmlaaaPDueCountedx0
namespace Go.Proofs.Ytaljkilnpfmlaaa.PDueCounted
open Go.RowKit Go.Proofs.YtaljkilnpfmlaaaW.PrintWords Go.Proofs.YtaljkilnpfmlaaaW.PrintLast Go.Proofs.YtaljkilnpfmlaaaW.PrintMore
attribute [local go_sem] max2_int min2_int max_two min_two max_three min_three max_four min_four   -- for this text's walks alone
set_option linter.unusedVariables false
set_option linter.unusedSimpArgs false

attribute [local go_sem] fld47_1 idx81_0_0 idx81_1_0 idx82_0_0 idx82_1_0 idxA82_1
/-! ### spell_Sort: function 116 (by hand) -/

def spell_Sort.lm (n : Int) : Int := mx 0 (mn n 1048576)
instance spell_Sort.inh : Inhabited (S82) := ⟨z82⟩
def spell_Sort.nz (s : S82) : S82 := ⟨spell_Sort.lm s.f0, s.f1⟩
def spell_Sort.cf (x y : S82) : Int := spell_Sort.lm x.f0 - spell_Sort.lm y.f0
def spell_Sort.srt (l : List (S82)) : List (S82) := (Sort.pdq (ltOf spell_Sort.cf) l.toArray 0 l.length (Lib.bitLen l.length) true true).toList.map spell_Sort.nz
def spell_Sort.f (l0 : List (S82)) : Option (List (S82)) := if l0.length = 0 then some [] else if l0.length ≤ 1000000 ∧ (l0.all fun s => decide (spell_Sort.lm s.f0 = s.f0)) = true then some (spell_Sort.srt l0) else none
def spell_Sort.ren : Go.Shelf.Ren := ⟨fun | 6 => 116 | 15 => 128 | 14 => 129 | 28 => 140 | 29 => 125 | 20 => 141 | 21 => 142 | 22 => 143 | 23 => 144 | 24 => 145 | 25 => 146 | 26 => 147 | 27 => 148 | 46 => 156 | 47 => 151 | 48 => 152 | 49 => 157 | 50 => 158 | 57 => 160 | n => n, fun | 22 => 87 | 24 => 82 | 25 => 162 | 3 => 3 | 39 => 153 | 0 => 0 | 53 => 182 | 55 => 126 | 4 => 4 | 46 => 177 | 45 => 176 | 50 => 169 | 5 => 5 | 9 => 9 | 66 => 188 | 70 => 192 | 76 => 196 | 77 => 145 | n => n, fun | n => n⟩
theorem spell_Sort.lays : Go.Proofs.SlLaysF0.n6 Try.prog spell_Sort.ren := {
  mixed := by kernel_rfl
  f6 := ⟨Try.f116.name, by decide, Try.func116.trans (congrArg some (by kernel_rfl))⟩
  f14 := ⟨Try.f129.name, by decide, Try.func129.trans (congrArg some (by kernel_rfl))⟩
  f15 := Try.func128.trans (congrArg some (by kernel_rfl))
  f20 := ⟨Try.f141.name, by decide, Try.func141.trans (congrArg some (by kernel_rfl))⟩
  f21 := ⟨Try.f142.name, by decide, Try.func142.trans (congrArg some (by kernel_rfl))⟩
  f22 := ⟨Try.f143.name, by decide, Try.func143.trans (congrArg some (by kernel_rfl))⟩
  f23 := ⟨Try.f144.name, by decide, Try.func144.trans (congrArg some (by kernel_rfl))⟩
  f24 := ⟨Try.f145.name, by decide, Try.func145.trans (congrArg some (by kernel_rfl))⟩
  f25 := ⟨Try.f146.name, by decide, Try.func146.trans (congrArg some (by kernel_rfl))⟩
  f26 := ⟨Try.f147.name, by decide, Try.func147.trans (congrArg some (by kernel_rfl))⟩
  f27 := ⟨Try.f148.name, by decide, Try.func148.trans (congrArg some (by kernel_rfl))⟩
  f28 := Try.func140.trans (congrArg some (by kernel_rfl))
  f29 := Try.func125.trans (congrArg some (by kernel_rfl))
  f46 := ⟨Try.f156.name, by decide, Try.func156.trans (congrArg some (by kernel_rfl))⟩
  f47 := Try.func151.trans (congrArg some (by kernel_rfl))
  f48 := Try.func152.trans (congrArg some (by kernel_rfl))
  f49 := ⟨Try.f157.name, by decide, Try.func157.trans (congrArg some (by kernel_rfl))⟩
  f50 := ⟨Try.f158.name, by decide, Try.func158.trans (congrArg some (by kernel_rfl))⟩
  f57 := ⟨Try.f160.name, by decide, Try.func160.trans (congrArg some (by kernel_rfl))⟩
  t0 := Try.underlying0
  a0 := Try.isAgg0
  z0 := Try.sizeOf0
  v0 := Try.zeroValue0
  t3 := Try.underlying3
  a3 := Try.isAgg3
  z3 := Try.sizeOf3
  v3 := Try.zeroValue3
  t4 := Try.underlying4
  a4 := Try.isAgg4
  z4 := Try.sizeOf4
  v4 := Try.zeroValue4
  t5 := Try.underlying5
  a5 := Try.isAgg5
  z5 := Try.sizeOf5
  v5 := Try.zeroValue5
  t9 := Try.underlying9
  a9 := Try.isAgg9
  z9 := Try.sizeOf9
  v9 := Try.zeroValue9
  t22 := Try.underlying87
  a22 := Try.isAgg87
  z22 := Try.sizeOf87
  v22 := Try.zeroValue87
  t25 := Try.underlying162
  a25 := Try.isAgg162
  z25 := Try.sizeOf162
  v25 := Try.zeroValue162
  t39 := Try.underlying153
  a39 := Try.isAgg153
  z39 := Try.sizeOf153
  v39 := Try.zeroValue153
  t45 := Try.underlying176
  a45 := Try.isAgg176
  z45 := Try.sizeOf176
  v45 := Try.zeroValue176
  t46 := Try.underlying177
  a46 := Try.isAgg177
  z46 := Try.sizeOf177
  v46 := Try.zeroValue177
  t50 := Try.underlying169
  a50 := Try.isAgg169
  z50 := Try.sizeOf169
  v50 := Try.zeroValue169
  t53 := Try.underlying182
  a53 := Try.isAgg182
  z53 := Try.sizeOf182
  v53 := Try.zeroValue182
  t55 := Try.underlying126
  a55 := Try.isAgg126
  z55 := Try.sizeOf126
  v55 := Try.zeroValue126
  t66 := Try.underlying188
  a66 := Try.isAgg188
  z66 := Try.sizeOf188
  v66 := Try.zeroValue188
  t70 := Try.underlying192
  a70 := Try.isAgg192
  z70 := Try.sizeOf192
  v70 := Try.zeroValue192
  t76 := Try.underlying196
  a76 := Try.isAgg196
  z76 := Try.sizeOf196
  v76 := Try.zeroValue196
  t77 := Try.underlying145
  a77 := Try.isAgg145
  z77 := Try.sizeOf145
  v77 := Try.zeroValue145 }
theorem spell_Sort.lm_id (n : Int) : spell_Sort.lm (spell_Sort.lm n) = spell_Sort.lm n := by unfold spell_Sort.lm mx mn; (repeat' split) <;> omega
theorem spell_Sort.lm_range (n : Int) : 0 ≤ spell_Sort.lm n ∧ spell_Sort.lm n ≤ 1048576 := by unfold spell_Sort.lm mx mn; (repeat' split) <;> omega
def spell_Sort.enc (s : S82) : List Value := [.int .i64 (spell_Sort.lm s.f0), .int .i64 s.f1]
theorem spell_Sort.swo : Sort.SWO (ltOf spell_Sort.cf) where
  irrefl x := by unfold ltOf spell_Sort.cf; simp
  trans x y z h1 h2 := by unfold ltOf spell_Sort.cf at *; simp at *; omega
  ntrans x y z h1 h2 := by unfold ltOf spell_Sort.cf at *; simp at *; omega
set_option maxHeartbeats 8000000 in
set_option maxRecDepth 100000 in
theorem spell_Sort.clo (x y : S82) (W : World) : Calls Try.prog 117 #[.agg #[.int .i64 (spell_Sort.lm x.f0), .int .i64 x.f1], .agg #[.int .i64 (spell_Sort.lm y.f0), .int .i64 y.f1]] W fun e w' => e = .returned (.int .i64 (spell_Sort.cf x y)) ∧ ∃ q os', w' = Sort.grow (W.drewN q) os' := by
  have hx := spell_Sort.lm_range x.f0
  have hy := spell_Sort.lm_range y.f0
  unfold spell_Sort.cf
  generalize spell_Sort.lm x.f0 = p at hx ⊢
  generalize spell_Sort.lm y.f0 = q at hy ⊢
  have hw : wrap64 (p - q) = p - q := by unfold wrap64; omega
  have hix0 : ∀ (g : Nat) (w : World), (Instr.indexAt 82 (.pointer (some ⟨g, 0, none⟩)) (.int .i64 0)).run Try.prog w = .ok (.pointer (some ⟨g, 0, none⟩)) w := fun g w => by kernel_rfl
  clear hx hy
  go_enter Try.func117, Try.ntmps117
  go_wp2; go_ret
  exact ⟨(by show Ending.returned (.int .i64 (wrap64 (p - q))) = _; rw [hw]), 0, _, by rw [Sort.alloc_eq_grow, Sort.alloc_eq_grow, Sort.grow_grow]; rfl⟩
theorem spell_Sort.sw_g {w : World} {g n : Nat} {os : Array Obj} {cur : Array Value} {e : TypeId} {fr : Nat × Nat} (d : Array Value) (hb : w.heap[g]? = some (.cells cur e fr)) :
    (sortWorld id w g 0 n d os).heap[g]? = some (.cells (Sort.putCells id 0 d cur) e fr) := by
  have hg : g < w.heap.size := (Array.getElem?_eq_some_iff.1 hb).1
  unfold sortWorld
  rw [Sort.heap_grow_old _ _ (by simpa [Sort.putRow, Sort.mapBlock, Sort.ahead] using hg)]
  simp [Sort.putRow, Sort.mapBlock, Sort.ahead, Array.getElem?_modify, hb, Sort.onCells]
theorem spell_Sort.sw_grown {w : World} {g n : Nat} {os : Array Obj} (d : Array Value) : w.grownBy (sortWorld id w g 0 n d os) (some g) := by
  unfold sortWorld
  refine ⟨rfl, rfl, rfl, by simp [Sort.grow, Sort.putRow, Sort.mapBlock, Sort.ahead], fun k hk hne => ?_⟩
  rw [Sort.heap_grow_old _ _ (by simpa [Sort.putRow, Sort.mapBlock, Sort.ahead] using hk)]
  have : g ≠ k := fun e => hne (by rw [e])
  simp [Sort.putRow, Sort.mapBlock, Sort.ahead, Array.getElem?_modify, this]
theorem spell_Sort.put_take (cur : Array Value) (d : Array Value) (h : d.size ≤ cur.size) : (Sort.putCells id 0 d cur).toList.take d.size = d.toList := by
  apply List.ext_getElem?
  intro j
  by_cases hj : j < d.size
  · rw [List.getElem?_take_of_lt hj, Array.getElem?_toList]
    simp [Sort.putCells, hj, show j < cur.size by omega]
  · rw [List.getElem?_take_eq_none (by omega), List.getElem?_eq_none (by simp; omega)]
theorem spell_Sort.flat_size (d : Array (S82)) : (Sort.flatK spell_Sort.enc 2 d).size = d.size * 2 := Sort.size_flatK _ _ _
theorem spell_Sort.flat_at (d : Array (S82)) (j : Nat) (hj : j < d.size) : ((Sort.flatK spell_Sort.enc 2 d).toList.drop (j * 2)).take 2 = spell_Sort.enc d[j] := by
  have h0 : (Sort.flatK spell_Sort.enc 2 d).toList.length = d.size * 2 := by rw [Array.length_toList, spell_Sort.flat_size]
  have g : ∀ t, (ht : t < d.size * 2) → (Sort.flatK spell_Sort.enc 2 d).toList[t]? = some ((spell_Sort.enc d[t / 2]!)[t % 2]!) := by
    intro t ht
    have := Sort.get_flatK spell_Sort.enc 2 d t ht
    rw [Array.getElem?_toList, Array.getElem?_eq_getElem (by rw [spell_Sort.flat_size]; exact ht), ← this, getElem!_pos _ t (by rw [spell_Sort.flat_size]; exact ht)]
  apply List.ext_getElem?
  intro i
  by_cases hi : i < 2
  · rw [List.getElem?_take_of_lt hi, List.getElem?_drop, g (j * 2 + i) (by omega), show (j * 2 + i) / 2 = j by omega, show (j * 2 + i) % 2 = i by omega, getElem!_pos d j hj]
    rcases (show i = 0 ∨ i = 1 by omega) with rfl | rfl <;> rfl
  · rw [List.getElem?_take_eq_none (by omega), List.getElem?_eq_none (by show 2 ≤ i; omega)]
set_option maxHeartbeats 8000000 in
set_option maxRecDepth 100000 in
theorem spell_Sort.calls (P0_ : Nat → Prop) (u9000_ : Value) (l0 : List (S82)) (r : List (S82)) (w0 w : World) (hB : Below w0.heap.size w0 w) (ho0 : Kd.R k82 82 w w0.heap.size P0_ u9000_ l0) (h : spell_Sort.f l0 = some r) :
    Calls Try.prog 116 #[u9000_, .func (.func 117) #[] #[]] w fun e w' => e = .returned (.tuple #[]) ∧ Kd.R k82 82 w' w0.heap.size (fun k_ => (P0_ k_ ∨ w.heap.size ≤ k_)) u9000_ r ∧ Below w0.heap.size w0 w' ∧ Kept w w' (fun k_ => P0_ k_) := by
  unfold spell_Sort.f at h
  by_cases h0 : l0.length = 0
  · rw [if_pos h0] at h
    obtain rfl := Option.some.inj h
    obtain rfl := List.eq_nil_of_length_eq_zero h0
    have hro := Kd.R_mono (ok' := fun k_ => (P0_ k_ ∨ w.heap.size ≤ k_)) ho0 (fun k hk => .inl hk)
    obtain ⟨A, c, rfl⟩ := Kd.R_slice ho0
    refine (AnyF.slices_SortFunc_none spell_Sort.lays A c _ w).mono ?_
    rintro e w' ⟨rfl, rfl⟩
    exact ⟨rfl, hro, hB, Kept.refl _ _⟩
  · rw [if_neg h0] at h
    by_cases hc : l0.length ≤ 1000000 ∧ (l0.all fun s => decide (spell_Sort.lm s.f0 = s.f0)) = true
    · rw [if_pos hc] at h
      obtain rfl := Option.some.inj h
      obtain ⟨hl, hall⟩ := hc
      have hin : ∀ s ∈ l0, spell_Sort.lm s.f0 = s.f0 := fun s hs => of_decide_eq_true (List.all_eq_true.1 hall s hs)
      obtain ⟨hP0, inner, hown, hreps⟩ := ho0
      rcases hown.2 with ⟨_, hn0⟩ | ⟨g, cap, cur, hu, hbase, hb, h1, h2, h3, h4⟩
      · exact absurd hn0 h0
      · subst hu
        have hP : P0_ g := hP0 g rfl
        have hgs : g < w.heap.size := (Array.getElem?_eq_some_iff.1 hb).1
        have h3' : cur.size = cap * 2 := h3
        have h4' : cur.toList.take (l0.length * 2) = inner := h4
        have hkept : ∀ (n : Nat) (d : Array Value) (os : Array Obj), Kept w (sortWorld id w g 0 n d os) (fun k_ => P0_ k_) := fun n d os =>
          ⟨(spell_Sort.sw_grown d).size, fun i hi hn => (spell_Sort.sw_grown d).block i hi (fun e => hn (by rw [Option.some.inj e]; exact hP))⟩
        have hH : Sort.HoldsK spell_Sort.enc 2 w g 0 l0.toArray := by
          intro j hj
          rw [spell_Sort.flat_size] at hj
          have hj' : j < l0.length * 2 := by simpa using hj
          refine ⟨?_, by simp [World.frozen?, hb]⟩
          have hq : j / 2 < l0.length := by omega
          have hm := hreps.2 (j / 2) l0[j / 2] (List.getElem?_eq_getElem hq)
          have hop := k82_openM hm
          have hfl := Sort.get_flatK spell_Sort.enc 2 l0.toArray j hj
          have hz : l0.toArray[j / 2]! = l0[j / 2] := by simp [hq]
          have hlm := hin l0[j / 2] (List.getElem_mem hq)
          have hcell : w.cell? ⟨g, 0 + j, none⟩ = inner[j]? := by
            rw [← h4', List.getElem?_take_of_lt hj', Array.getElem?_toList]
            simp [World.cell?, hb]
          have hget : inner[j]? = ([.int .i64 (l0[j / 2]).f0, .int .i64 (l0[j / 2]).f1] : List Value)[j % 2]? := by
            rw [← hop]
            show inner[j]? = ((inner.drop (j / 2 * 2)).take 2)[j % 2]?
            rw [List.getElem?_take_of_lt (by omega), List.getElem?_drop, show j / 2 * 2 + j % 2 = j by omega]
          rw [hcell, hget, hfl, hz]
          unfold spell_Sort.enc
          rw [hlm]
          rcases (show j % 2 = 0 ∨ j % 2 = 1 by omega) with e | e <;> rw [e] <;> rfl
        have hcmp : CmpLays Try.prog 117 #[] spell_Sort.enc 2 spell_Sort.cf g 0 l0.toArray.size w := fun mm os dk _ x y => spell_Sort.clo x y _
        have C := AnyQ.slices_SortFunc_eq spell_Sort.lays 2 Try.isAgg82 Try.sizeOf82 spell_Sort.enc (fun _ => rfl) (fun x v hv => by simp [spell_Sort.enc] at hv; rcases hv with rfl | rfl <;> rfl) spell_Sort.cf spell_Sort.swo 117 #[] g 0 cap l0.toArray w (fun args w => enters_ Try.func117 (by kernel_rfl) rfl args w) hcmp hH hgs (by simp; omega)
        refine Calls.mono C ?_
        rintro e w' ⟨rfl, n, os, hw⟩
        obtain ⟨dd, hdd⟩ : ∃ dd, dd = Sort.pdq (ltOf spell_Sort.cf) l0.toArray 0 l0.toArray.size (Lib.bitLen l0.toArray.size) true true := ⟨_, rfl⟩
        rw [← hdd] at hw
        have hsz : dd.size = l0.length := by
          have hp := (Sort.pdq_sorts (ltOf spell_Sort.cf) spell_Sort.swo l0.toArray 0 l0.toArray.size (Lib.bitLen l0.toArray.size) true true (Nat.zero_le _) (Nat.le_refl _) (Or.inl rfl)).1.1
          rw [hdd, hp]; simp
        have hr : spell_Sort.srt l0 = dd.toList.map spell_Sort.nz := by rw [hdd]; rfl
        have hw2 : w' = sortWorld id w g 0 n (Sort.flatK spell_Sort.enc 2 dd) os := hw
        subst hw2
        have hlen : (spell_Sort.srt l0).length = l0.length := by rw [hr]; simp [hsz]
        refine ⟨rfl, ⟨fun k hk => .inl (hP0 k hk), (Sort.flatK spell_Sort.enc 2 dd).toList, ?_, ?_⟩, hB.grown (spell_Sort.sw_grown _) hB.size (fun k hk => by cases hk; exact hbase), hkept _ _ _⟩
        · refine ⟨?_, .inr ⟨g, cap, _, by rw [hlen], hbase, spell_Sort.sw_g _ hb, by omega, h2, ?_, ?_⟩⟩
          · rw [hlen]
            show (Sort.flatK spell_Sort.enc 2 dd).toList.length = l0.length * 2
            rw [Array.length_toList, spell_Sort.flat_size, hsz]
          · show _ = cap * 2
            simp [Sort.putCells, h3']
          · rw [hlen]
            show (Sort.putCells id 0 (Sort.flatK spell_Sort.enc 2 dd) cur).toList.take (l0.length * 2) = _
            have := spell_Sort.put_take cur (Sort.flatK spell_Sort.enc 2 dd) (by rw [spell_Sort.flat_size, hsz]; omega)
            rw [spell_Sort.flat_size, hsz] at this
            exact this
        · refine ⟨?_, fun j p hj => ?_⟩
          · rw [hlen]
            show (Sort.flatK spell_Sort.enc 2 dd).toList.length = l0.length * 2
            rw [Array.length_toList, spell_Sort.flat_size, hsz]
          · obtain ⟨hjl, hjp⟩ := List.getElem?_eq_some_iff.1 hj
            have hjd : j < dd.size := by omega
            have hf := spell_Sort.flat_at dd j hjd
            have hp : p = spell_Sort.nz dd[j] := by
              rw [← hjp]
              simp only [hr, List.getElem_map]
              rfl
            show k82.M _ _ _ p (((Sort.flatK spell_Sort.enc 2 dd).toList.drop (j * 2)).take 2)
            rw [hf, hp]
            exact k82_mkM _ _ _ (spell_Sort.nz dd[j])
    · rw [if_neg hc] at h
      cases h

end Go.Proofs.Ytaljkilnpfmlaaa.PDueCounted
