/- slices.Insert of one fact ahead of a row of facts puts it there, and a map of the days of knowledge is read and written as it says. -/
import Derived.Test.YthedaldmhjocdaaPFactTurnedx0
import Derived.Shelf.Spec.SlicesInsertGrow
import Derived.Laws.CopyRow
import Derived.Maps.OwnOps
import Derived.Maps.Views
set_option linter.unusedVariables false
set_option linter.unusedSimpArgs false
namespace Go.Proofs.Ythedaldmhjocdaa.PFactTurned
open Go.RowKit Go.Shelf Go.Lib Go.Proofs.YthedaldmhjocdaaW.PrintWords Go.Proofs.YthedaldmhjocdaaW.PrintLast Go.Proofs.YthedaldmhjocdaaW.PrintMore
attribute [local go_sem] max2_int min2_int max_two min_two max_three min_three max_four min_four

namespace slices_Insert
theorem copy_row {P : Program} (w : World) (dT sT ty elem : TypeId) (sz g o dLen dCap : Nat) (a : Addr) (sLen sCap : Nat) (cur : Array Value) (t : TypeId) (cs : List Value)
    (hu : P.underlying dT = some (.slice elem)) (hs : (P.info? elem).map (·.size) = some sz)
    (hg : w.heap[g]? = some (.cells cur t (0, 0))) (hn : cs.length = Nat.min sLen dLen * sz)
    (hsrc : ∀ j v, cs[j]? = some v → w.cell? (a.add j) = some v) (hfit : o + cs.length ≤ cur.size) (h1 : ∀ v ∈ cs, v.oneCell' = true) :
    (Builtin.copy_ #[dT, sT] ty #[.slice (some ⟨g, o, none⟩) dLen dCap, .slice (some a) sLen sCap]).run P w =
      .ok (goInt (Nat.min sLen dLen)) (w.setRow g (cur.toList.take o ++ cs ++ cur.toList.drop (o + cs.length)).toArray) := by
  have hl := run_loadCells_list (P := P) w a cs hsrc
  have hst := run_storeCells_at P g o t cs 0 cur w hg (by simpa using hfit) h1
  cases hq : P.info? elem with
  | none => simp [hq] at hs
  | some i =>
    have hi : i.size = sz := by simpa [hq] using hs
    rw [hn] at hl
    simp [Builtin.copy_, run_underlying hu, Builtin.lenOf, Builtin.firstCells, sizeOf, typeInfo, hq, hi, hl, hst]
theorem setRow_set (w : World) (g : Nat) (cur new : Array Value) (t : TypeId) (fr : Nat × Nat) (hg : w.heap[g]? = some (.cells cur t fr)) : (w.setRow g new).heap[g]? = some (.cells new t fr) := setRow_heap w g cur new t fr hg
end slices_Insert
namespace slices_Insert
set_option maxHeartbeats 4000000 in
set_option maxRecDepth 100000 in
theorem room (g cap n vb vc : Nat) (cur vcur : Array Value) (vs : List Value) (w : World) (hn0 : 0 < n) (hroom : n + 1 ≤ cap) (hc63 : cap ≤ 9223372036854775807) (hvb : vb ≠ g)
    (hb : w.heap[g]? = some (.cells cur 77 (0, 0))) (hcur : cur.size = cap * 7) (h1c : ∀ v ∈ cur.toList.take (n * 7), v.oneCell' = true)
    (hv : w.heap[vb]? = some (.cells vcur 77 (0, 0))) (hvz : vcur.size = vc * 7) (hvc : ∀ (j : Nat) v, vs[j]? = some v → vcur[j]? = some v) (hvl : vs.length = 7) (h1v : ∀ v ∈ vs, v.oneCell' = true) :
    Calls Try.prog 38 #[.slice (some ⟨g, 0, none⟩) n cap, .int .i64 0, .slice (some ⟨vb, 0, none⟩) 1 vc] w fun e w' =>
      e = .returned (.slice (some ⟨g, 0, none⟩) (n + 1) cap) ∧ w' = (w.drew.setRow g (cur.toList.take 7 ++ cur.toList.take (n * 7) ++ cur.toList.drop (7 + n * 7)).toArray).setRow g (vs ++ cur.toList.take (n * 7) ++ cur.toList.drop (7 + n * 7)).toArray := by
  have hlen : cur.toList.length = cap * 7 := by simp [hcur]
  have hz1 : ¬ ((1 : Int) = 0) := by omega
  have hz2 : ¬ ((0 : Int) = (n : Int)) := by omega
  have hov : ∀ lb cb, (callFunc 72 #[.slice (some ⟨vb, 0, none⟩) 1 vc, .slice (some ⟨g, 7, none⟩) lb cb]).run Try.prog w = .ok (.value (.bool false)) w := fun lb cb => by
    rw [run_callFunc_extern Try.func72 (by kernel_rfl) (by kernel_rfl) (by kernel_rfl) (e := Extern.SlicesOverlaps.overlaps #[69, 69] #[4]) (by kernel_rfl),
      Lib.run_overlaps_apart w 69 4 77 Try.underlying69 7 Try.sizeOf77 ⟨vb, 0, none⟩ ⟨g, 7, none⟩ 1 vc lb cb hvb 77 77 (vc * 7) (cap * 7) (by simp [World.shape?, hv, hvz]) (by simp [World.shape?, hb, hcur]) (by omega) (by simp [World.frozen?, hv]) (by simp [World.frozen?, hv])]
    rfl
  obtain ⟨r1, hr1⟩ : ∃ r1, r1 = (cur.toList.take 7 ++ cur.toList.take (n * 7) ++ cur.toList.drop (7 + n * 7)) := ⟨_, rfl⟩
  have htk : (cur.toList.take (n * 7)).length = n * 7 := by rw [List.length_take]; omega
  have hr1l : r1.length = cap * 7 := by rw [hr1]; simp only [List.length_append, List.length_take, List.length_drop]; omega
  have hsrc1 : ∀ j v, (cur.toList.take (n * 7))[j]? = some v → w.cell? ((⟨g, 0, none⟩ : Addr).add j) = some v := fun j v hj => by
    rw [Addr.add_lit, Nat.zero_add]
    rw [List.getElem?_take] at hj
    split at hj
    · rw [cell_of_row w g j cur 77 (0, 0) hb]; simpa using hj
    · cases hj
  have hcp1 : ∀ ty dc sc, (Builtin.copy_ #[69, 69] ty #[.slice (some ⟨g, 7, none⟩) n dc, .slice (some ⟨g, 0, none⟩) (n + 1) sc]).run Try.prog w.drew = .ok (goInt n) (w.drew.setRow g r1.toArray) := fun ty dc sc => by
    have hq := copy_row (P := Try.prog) w.drew 69 69 ty 77 7 g 7 n dc ⟨g, 0, none⟩ (n + 1) sc cur 77 (cur.toList.take (n * 7)) Try.underlying69 (by rw [Option.map_eq_some_iff]; obtain ⟨i, hi, h1, h2, h3⟩ := info_parts info77; exact ⟨i, hi, h2⟩)
      hb (by rw [htk]; simp only [Nat.min_def]; split <;> omega) hsrc1 (by rw [htk, hcur]; omega) h1c
    rw [hq, htk, hr1]
    simp only [Nat.min_def]
    rw [if_neg (by omega)]
  have hsrc2 : ∀ (W : World), (∀ x, W.cell? x = (w.drew.setRow g r1.toArray).cell? x) → ∀ j v, vs[j]? = some v → W.cell? ((⟨vb, 0, none⟩ : Addr).add j) = some v := fun W hW j v hj => by
    rw [hW, Addr.add_lit, Nat.zero_add]
    have hb' : (w.drew.setRow g r1.toArray).heap[vb]? = some (.cells vcur 77 (0, 0)) := by
      unfold World.setRow; simp [Array.getElem?_modify, Ne.symm hvb]; exact hv
    rw [cell_of_row _ vb j _ 77 (0, 0) hb']; exact hvc j v hj
  have hcp2 : ∀ (W : World), W.heap = (w.drew.setRow g r1.toArray).heap → ∀ ty dc, (Builtin.copy_ #[69, 69] ty #[.slice (some ⟨g, 0, none⟩) (n + 1) dc, .slice (some ⟨vb, 0, none⟩) 1 vc]).run Try.prog W = .ok (goInt 1) (W.setRow g (vs ++ r1.drop 7).toArray) := fun W hW ty dc => by
    have hq := copy_row (P := Try.prog) W 69 69 ty 77 7 g 0 (n + 1) dc ⟨vb, 0, none⟩ 1 vc r1.toArray 77 vs Try.underlying69 (by rw [Option.map_eq_some_iff]; obtain ⟨i, hi, h1, h2, h3⟩ := info_parts info77; exact ⟨i, hi, h2⟩)
      (by rw [hW]; exact setRow_set w.drew g cur _ 77 (0, 0) hb) (by rw [hvl]; simp only [Nat.min_def]; split <;> omega) (hsrc2 W (fun x => by unfold World.cell?; rw [hW])) (by rw [hvl]; simp [hr1l]; omega) h1v
    rw [hq, hvl]
    simp only [Nat.min_def]
    rw [if_pos (by omega)]
    simp
  have hfin : vs ++ r1.drop 7 = vs ++ cur.toList.take (n * 7) ++ cur.toList.drop (7 + n * 7) := by
    rw [hr1, List.append_assoc, List.append_assoc, List.drop_append_of_le_length (by rw [List.length_take]; omega)]
    rw [show (List.drop 7 (List.take 7 cur.toList)) = [] from List.drop_eq_nil_of_le (by rw [List.length_take]; omega)]
    rfl
  rw [← hr1, ← hfin]
  have HR := Aside0.mk hr1; clear hr1
  have HF := Aside0.mk hfin; clear hfin htk hr1l hlen hsrc1 hsrc2
  have mixed : Try.prog.follows Departure.mixedOrders = true := by kernel_rfl
  have hw1 : IntKind.i64.wrap 1 = 1 := by rw [IntKind.wrap_i64]; omega
  have hq1 : (1 : Int) ≤ (n : Int) + 1 := by omega
  have hq2 : ¬ (cap = 1) := by omega
  have hq3 : ¬ (cap = 0) := by omega
  have hq4 : (0 : Int) ≤ (n : Int) + 1 := by omega
  have hq5 : n + 1 - 1 = n := by omega
  go_enter Try.func38, Try.ntmps38
  go_wp2_with (simp only [hov])
  go_region_law_o (refine step_copy_runI rfl _ _ 69 69 rfl _ _ (by simp [Act.eval, Act.put]) (by simp [Act.eval, Act.put]) (hcp1 _ _ _) ?_)
  go_wp2_with (at_builtin; refine wpList_copy_runI _ rfl _ _ 69 69 rfl _ _ rfl rfl (hcp2 _ rfl _ _) ?_)
  go_ret
  exact ⟨rfl, rfl⟩
end slices_Insert
namespace slices_Insert
theorem below_setRow {B : Nat} {w W : World} (h : Below B w W) (g : Nat) (new : Array Value) (hg : B ≤ g) : Below B w (W.setRow g new) :=
  ⟨h.os, h.tape, h.output, by unfold World.setRow; simpa using h.size, fun i hi => by unfold World.setRow; rw [Array.getElem?_modify, if_neg (by omega)]; exact h.block i hi⟩
set_option maxHeartbeats 4000000 in
set_option maxRecDepth 100000 in
theorem grow (g cap n vb vc : Nat) (cur vcur : Array Value) (vs : List Value) (w : World) (hn0 : 0 < n) (hnc : n ≤ cap) (hroom : cap < n + 1) (hbig : (n + 1) * 64 ≤ 140737488355328)
    (hb : w.heap[g]? = some (.cells cur 77 (0, 0))) (hcur : cur.size = cap * 7) (h1c : ∀ v ∈ cur.toList.take (n * 7), v.oneCell' = true)
    (hv : w.heap[vb]? = some (.cells vcur 77 (0, 0))) (hvz : vcur.size = vc * 7) (hvc : ∀ (j : Nat) v, vs[j]? = some v → vcur[j]? = some v) (hvl : vs.length = 7) (h1v : ∀ v ∈ vs, v.oneCell' = true) :
    Calls Try.prog 38 #[.slice (some ⟨g, 0, none⟩) n cap, .int .i64 0, .slice (some ⟨vb, 0, none⟩) 1 vc] w fun e w' =>
      ∃ G row, e = .returned (.slice (some ⟨w.heap.size, 0, none⟩) (n + 1) G) ∧ n + 1 ≤ G ∧ G ≤ maxLen ∧ row.size = G * 7 ∧ row.toList.take ((n + 1) * 7) = vs ++ cur.toList.take (n * 7) ∧
      w'.heap[w.heap.size]? = some (.cells row 77 (0, 0)) ∧ Below w.heap.size w w' := by
  have hlen : cur.toList.length = cap * 7 := by simp [hcur]
  have hz1 : ¬ ((1 : Int) = 0) := by omega
  have hz2 : ¬ ((0 : Int) = (n : Int)) := by omega
  obtain ⟨i0, hi0, hz0, hzs, hzb⟩ := info_parts info77
  have hsz : (Try.prog.info? 77).map (·.size) = some 7 := by rw [hi0]; simp [hzs]
  have hgw : g < w.heap.size := (Array.getElem?_eq_some_iff.1 hb).1
  have hvw : vb < w.heap.size := (Array.getElem?_eq_some_iff.1 hv).1
  have hold : (Builtin.firstCells i0.size 0 (.slice (some ⟨g, 0, none⟩) 0 cap)).run Try.prog w.drew = .ok ([] : List Value).toArray w.drew := by
    rw [hzs]
    exact run_firstCells_some w.drew 7 0 ⟨g, 0, none⟩ 0 cap [] (by simp) (fun j v hj => by simp at hj)
  obtain ⟨G, hG⟩ : ∃ G, G = grownCap w (n + 1) cap 77 := ⟨_, rfl⟩
  obtain ⟨z, hz⟩ : ∃ z : Value, z = .agg #[(.int .i64 0), (.string ⟨#[]⟩), (.int .i64 0), (.int .i64 0), (.int .i64 0), (.int .i64 0), (.int .i64 0)] := ⟨_, rfl⟩
  rw [← hz] at hz0
  obtain ⟨ROW, hROW⟩ : ∃ ROW : Array Value, ROW = Builtin.zeroCells z.cells (n + 1) ++ Builtin.zeroCells z.cells (G - (n + 1)) := ⟨_, rfl⟩
  have hGn : n + 1 ≤ G := by rw [hG]; exact grownCap_ge w _ _ _
  have hGm : G ≤ maxLen := by rw [hG]; exact grownCap_le_maxLen w (n + 1) cap 77 (by unfold maxLen; omega)
  have hzl : z.cells.size = 7 := by rw [hz]; rfl
  have hRs : ROW.size = G * 7 := by
    rw [hROW]
    simp [Builtin.zeroCells, hzl]
    omega
  have hrz : ∀ ty, (Builtin.append_ #[69, 3] ty #[.slice (some ⟨g, 0, none⟩) 0 cap, .int .i64 ((n : Int) + 1)]).run Try.prog w =
      .ok (.slice (some ⟨w.heap.size, 0, none⟩) (n + 1) G) (w.drew.alloc (.cells ROW 77)) := fun ty => by
    have h := Lib.run_append_grow_zeros w 69 3 ty 77 i0 z .i64 .i64 Try.underlying69 Try.underlying3 hi0 hz0 (some ⟨g, 0, none⟩) 0 cap [] hold (n + 1) (by omega) (by omega) (by omega) (by omega) (by rw [hzb]; omega) (by rw [hzb, Nat.zero_add]; exact growslice_fits hroom hbig)
    rw [Nat.zero_add] at h
    rw [show ((n : Int) + 1) = ((n + 1 : Nat) : Int) by omega, h, hROW, hG]
    simp
  have hbR : (w.drew.alloc (.cells ROW 77)).heap[w.heap.size]? = some (.cells ROW 77 (0, 0)) := heap_alloc_new w.drew _
  obtain ⟨rA, hrA⟩ : ∃ r, r = vs ++ ROW.toList.drop 7 := ⟨_, rfl⟩
  have hrAl : rA.length = G * 7 := by rw [hrA]; simp only [List.length_append, List.length_drop, Array.length_toList, hRs, hvl]; omega
  have hRl : ROW.toList.length = G * 7 := by simp [hRs]
  have hcpA : ∀ (W : World), W.heap = (w.drew.alloc (.cells ROW 77)).heap → ∀ ty dc, (Builtin.copy_ #[69, 69] ty #[.slice (some ⟨w.heap.size, 0, none⟩) (n + 1) dc, .slice (some ⟨vb, 0, none⟩) 1 vc]).run Try.prog W = .ok (goInt 1) (W.setRow w.heap.size rA.toArray) := fun W hW ty dc => by
    have hq := copy_row (P := Try.prog) W 69 69 ty 77 7 w.heap.size 0 (n + 1) dc ⟨vb, 0, none⟩ 1 vc ROW 77 vs Try.underlying69 hsz
      (by rw [hW]; exact hbR) (by rw [hvl]; simp only [Nat.min_def]; split <;> omega)
      (fun j v hj => by
        rw [Addr.add_lit, Nat.zero_add]
        have hb' : W.heap[vb]? = some (.cells vcur 77 (0, 0)) := by rw [hW]; exact (Below.heap_alloc w.drew _ vb hvw).trans hv
        rw [cell_of_row _ vb j _ 77 (0, 0) hb']; exact hvc j v hj) (by rw [hvl, hRs]; omega) h1v
    rw [hq, hvl, hrA]
    simp only [Nat.min_def]
    rw [if_pos (by omega)]
    simp
  obtain ⟨rB, hrB⟩ : ∃ r, r = vs ++ cur.toList.take (n * 7) ++ rA.drop (7 + n * 7) := ⟨_, rfl⟩
  have htk : (cur.toList.take (n * 7)).length = n * 7 := by rw [List.length_take]; omega
  have hrBl : rB.length = G * 7 := by rw [hrB]; simp only [List.length_append, List.length_drop, htk, hrAl, hvl]; omega
  have hcpB : ∀ (W : World), W.heap = ((w.drew.alloc (.cells ROW 77)).setRow w.heap.size rA.toArray).heap → ∀ ty dc sc, (Builtin.copy_ #[69, 69] ty #[.slice (some ⟨w.heap.size, 7, none⟩) n dc, .slice (some ⟨g, 0, none⟩) n sc]).run Try.prog W = .ok (goInt n) (W.setRow w.heap.size rB.toArray) := fun W hW ty dc sc => by
    have hq := copy_row (P := Try.prog) W 69 69 ty 77 7 w.heap.size 7 n dc ⟨g, 0, none⟩ n sc rA.toArray 77 (cur.toList.take (n * 7)) Try.underlying69 hsz
      (by rw [hW]; exact setRow_set _ _ ROW _ 77 (0, 0) hbR) (by rw [htk]; simp only [Nat.min_def]; split <;> omega)
      (fun j v hj => by
        rw [Addr.add_lit, Nat.zero_add]
        have hb' : W.heap[g]? = some (.cells cur 77 (0, 0)) := by
          rw [hW]; unfold World.setRow
          rw [Array.getElem?_modify, if_neg (by omega)]
          exact (Below.heap_alloc w.drew _ g hgw).trans hb
        rw [cell_of_row _ g j _ 77 (0, 0) hb']
        rw [List.getElem?_take] at hj
        split at hj
        · simpa using hj
        · cases hj) (by rw [htk]; simp [hrAl]; omega) h1c
    rw [hq, htk, hrB]
    simp only [Nat.min_def]
    rw [if_pos (by omega)]
    have e7 : List.take 7 rA = vs := by rw [hrA, List.take_append_of_le_length (by omega), List.take_of_length_le (by omega)]
    simp [e7]
  have hfin : rB.toArray.toList.take ((n + 1) * 7) = vs ++ cur.toList.take (n * 7) := by
    show rB.take ((n + 1) * 7) = _
    rw [hrB, List.take_append_of_le_length (by simp only [List.length_append, htk, hvl]; omega), List.take_of_length_le (by simp only [List.length_append, htk, hvl]; omega)]
  have HRB := Aside0.mk hrBl
  have HF := Aside0.mk hfin
  have HBR := Aside0.mk hbR
  have HG := Aside0.mk hGn
  have HM := Aside0.mk hGm
  have mixed : Try.prog.follows Departure.mixedOrders = true := by kernel_rfl
  have hw1 : IntKind.i64.wrap 1 = 1 := by rw [IntKind.wrap_i64]; omega
  have hq1 : (1 : Int) ≤ (n : Int) + 1 := by omega
  have hq2 : ¬ (G = 1) := by omega
  have hq3 : ¬ (G = 0) := by omega
  have hq4 : (0 : Int) ≤ (n : Int) + 1 := by omega
  have hq5 : n + 1 - 1 = n := by omega
  have hq6 : ¬ (cap = 0) := by omega
  have hq7 : (cap : Int) < (n : Int) + 1 := by omega
  have hE1 : ((w.alloc (.cells ROW 77)).drew).heap = (w.drew.alloc (.cells ROW 77)).heap := rfl
  clear hz hROW hRs hzl hG hrA hrAl hRl hrB hrBl hfin hbR hlen htk hGn hGm hold hsz hi0 hz0 hzs hzb
  go_enter Try.func38, Try.ntmps38
  go_wp2_with (first
    | (at_builtin; refine Lib.wpList_append_run _ rfl _ _ _ _ rfl _ _ rfl rfl _ _ (hrz _) ?_)
    | (at_builtin; refine wpList_copy_runI _ rfl _ _ 69 69 rfl _ _ rfl rfl (hcpA _ rfl _ _) ?_))
  go_region_law_o (refine step_copy_runI rfl _ _ 69 69 rfl (.slice (some ⟨w.heap.size, 7, none⟩) n (G - 1)) (.slice (some ⟨g, 0, none⟩) n cap) (by simp [Act.eval, Act.put]) (by simp [Act.eval, Act.put]) (hcpB _ (by rfl) _ _ _) ?_)
  go_wp2
  go_ret
  refine ⟨G, rB.toArray, rfl, HG.out, HM.out, by simp [HRB.out], HF.out, setRow_set _ _ rA.toArray _ 77 (0, 0) (setRow_set _ _ ROW _ 77 (0, 0) (heap_alloc_new w _)), ?_⟩
  repeat (first | exact Below.refl _ _ | refine below_setRow ?_ _ _ (Nat.le_refl _) | apply below_drew | refine below_alloc ?_ _)
end slices_Insert
namespace slices_Insert
def c77 (x : S77) : List Value := [.int .i64 x.f0, .string x.f1, .int .i64 x.f2.f0, .int .i64 x.f2.f1, .int .i64 x.f3, .int .i64 x.f4, .int .i64 x.f5]
theorem c77_one (x : S77) : ∀ v ∈ c77 x, v.oneCell' = true := by
  intro v hv
  simp only [c77, List.mem_cons, List.mem_nil_iff, or_false] at hv
  rcases hv with rfl | rfl | rfl | rfl | rfl | rfl | rfl <;> rfl
set_option maxHeartbeats 4000000 in
set_option maxRecDepth 100000 in
theorem first_ (base vb vc : Nat) (v : Value) (vcur : Array Value) (ys : List Value) (w : World) (HO : w.ownsRow base 77 7 v 0 [])
    (hv : w.heap[vb]? = some (.cells vcur 77 (0, 0))) (hvc : ∀ (j : Nat) v, ys[j]? = some v → vcur[j]? = some v) (hys : ys.length = 7) (h1 : ∀ v ∈ ys, v.oneCell' = true) (hbase : base ≤ w.heap.size) :
    Calls Try.prog 38 #[v, .int .i64 0, .slice (some ⟨vb, 0, none⟩) 1 vc] w fun e w' => ∃ v', e = .returned v' ∧ w'.ownsRow base 77 7 v' 1 ys ∧ w.grownBy w' v.ownBlock ∧ (v'.ownBlock = v.ownBlock ∨ ∃ b, v'.ownBlock = some b ∧ w.heap.size ≤ b) := by
  obtain ⟨i0, hi0, hzz⟩ := Option.map_eq_some_iff.1 info77
  simp only [Prod.mk.injEq] at hzz
  obtain ⟨hz0, hz1, hz2⟩ := hzz
  have HO' := HO
  have hov : ∃ A c, v = .slice A 0 c := by
    rcases HO.2 with ⟨hh, _⟩ | ⟨g, c, cur, hh, _⟩
    · exact ⟨none, 0, hh⟩
    · exact ⟨some ⟨g, 0, none⟩, c, hh⟩
  obtain ⟨A, c, rfl⟩ := hov
  have hn1 : ¬ ((1 : Int) = 0) := by omega
  rcases A with _ | ad
  all_goals
    go_enter Try.func38, Try.ntmps38
    go_wp2_with (at_builtin; refine wpList_append_own_at _ rfl _ _ _ rfl base 77 i0 _ 7 64 Try.underlying69 hi0 hz0 hz1 hz2 (by rfl) (by omega) _ 0 [] rfl HO ⟨vb, 0, none⟩ 1 vc ys rfl (by simp [hys]) (fun j u hj => by rw [Addr.add_lit, Nat.zero_add, cell_of_row w vb j _ 77 (0, 0) hv]; exact hvc j u hj) h1 (by simp only [maxLen]; omega) (by omega) hbase ?_; intro v1 w1 hown hg hsz hat)
    go_ret
    exact ⟨v1, rfl, by simpa using hown, hg, hat.imp id (fun h => ⟨_, h, Nat.le_refl _⟩)⟩
theorem reps_cons {α : Type} {R : α → List Value → Prop} {size : Nat} {ps : List α} {cs c : List Value} {p : α} (h : Reps R size ps cs) (hp : R p c) (hc : c.length = size) : Reps R size (p :: ps) (c ++ cs) := by
  refine ⟨by simp [h.1, hc, Nat.succ_mul]; omega, fun j q hj => ?_⟩
  rcases j with _ | j
  · simp only [List.getElem?_cons_zero, Option.some.injEq] at hj
    subst hj
    rw [Nat.zero_mul, List.drop_zero, List.take_append_of_le_length (by omega), List.take_of_length_le (by omega)]
    exact hp
  · simp only [List.getElem?_cons_succ] at hj
    have := h.2 j q hj
    rw [show (j + 1) * size = c.length + j * size by rw [hc, Nat.succ_mul]; omega, List.drop_append, List.drop_eq_nil_of_le (by omega), List.nil_append, show c.length + j * size - c.length = j * size by omega]
    exact this
theorem M77 {w w' : World} {base base' : Nat} {ok ok' : Nat → Prop} {x : S77} {cs : List Value} (h : k77.M w base ok x cs) : k77.M w' base' ok' x cs := by
  obtain rfl := k77_openM h
  exact k77_mkM _ _ _ _
theorem reps_one {R : S77 → List Value → Prop} {xs : List S77} {cs : List Value} (h : Reps R 7 xs cs) (hR : ∀ x c, R x c → c = c77 x) : ∀ v ∈ cs, v.oneCell' = true := by
  intro v hv
  obtain ⟨i, hi, rfl⟩ := List.getElem_of_mem hv
  have hl := h.1
  have hj : i / 7 < xs.length := by omega
  have hc := hR _ _ (h.2 (i / 7) xs[i / 7] (List.getElem?_eq_getElem hj))
  have hm : cs[i] ∈ (cs.drop (i / 7 * 7)).take 7 := by
    rw [List.mem_iff_getElem?]
    refine ⟨i % 7, ?_⟩
    rw [List.getElem?_take_of_lt (by omega), List.getElem?_drop, show i / 7 * 7 + i % 7 = i by omega, List.getElem?_eq_getElem hi]
  rw [hc] at hm
  exact c77_one _ _ hm
def one.f (l0 : List S77) (i : Int) (l2 : List S77) : Option ((List S77) × (List S77)) := if i = 0 ∧ l2.length = 1 ∧ l0.length ≤ 1000 then some (l2 ++ l0, l2) else none
set_option maxHeartbeats 4000000 in
theorem calls0 (P0_ : Nat → Prop) (u9000_ : Value) (l0 : List S77) (i : Int) (P2_ : Nat → Prop) (u92000_ : Value) (l2 : List S77) (r r' : List S77) (w0 w : World) (hB : Below w0.heap.size w0 w) (ho0 : Kd.R k77 77 w w0.heap.size P0_ u9000_ l0) (ho2 : Kd.R k77 77 w w0.heap.size P2_ u92000_ l2) (hd : ∀ k_, P0_ k_ → ¬ P2_ k_) (h : one.f l0 i l2 = some (r, r')) :
    Calls Try.prog 38 #[u9000_, .int .i64 i, u92000_] w fun e w' => ∃ v0_ : Value, e = .returned v0_ ∧ Kd.R k77 77 w' w0.heap.size (fun k_ => (P0_ k_ ∨ w.heap.size ≤ k_)) v0_ r ∧ Kd.R k77 77 w' w0.heap.size P2_ u92000_ r' ∧ Below w0.heap.size w0 w' ∧ Kept w w' (fun k_ => P0_ k_) := by
  unfold one.f at h
  by_cases hc : i = 0 ∧ l2.length = 1 ∧ l0.length ≤ 1000
  case neg => rw [if_neg hc] at h; cases h
  rw [if_pos hc] at h
  obtain ⟨rfl, hl2, hl0⟩ := hc
  obtain ⟨rfl, rfl⟩ := Prod.mk.inj (Option.some.inj h)
  obtain ⟨x, rfl⟩ := List.length_eq_one_iff.1 hl2
  have ho2' := ho2
  obtain ⟨hp2, inner2, ho2o, hr2⟩ := ho2
  rcases ho2o.2 with ⟨_, hn0⟩ | ⟨vb, vc, vcur, rfl, hbv, hv, hv1, hv2, hv3, hv4⟩
  · simp at hn0
  have hv3' : vcur.size = vc * 7 := hv3
  have hv4' : vcur.toList.take 7 = inner2 := by have : vcur.toList.take (1 * 7) = inner2 := hv4; simpa using this
  have hi2 : inner2 = c77 x := by
    have h7 : inner2.length = 7 := by have h7_ : inner2.length = 1 * 7 := hr2.1; omega
    have := k77_openM (hr2.2 0 x rfl)
    rw [Nat.zero_mul, List.drop_zero, List.take_of_length_le (by show inner2.length ≤ 7; omega)] at this
    exact this
  subst hi2
  have hvc : ∀ (j : Nat) v, (c77 x)[j]? = some v → vcur[j]? = some v := by
    intro j v hj
    rw [← hv4', List.getElem?_take] at hj
    split at hj
    · simpa using hj
    · cases hj
  have hvb : some vb ≠ u9000_.ownBlock := fun e => hd vb (ho0.1 vb e.symm) (hp2 vb rfl)
  have hP2k : ∀ w' : World, w.grownBy w' u9000_.ownBlock → Kd.R k77 77 w' w0.heap.size P2_ (.slice (some ⟨vb, 0, none⟩) [x].length vc) [x] := fun w' hg =>
    Kd.R_grown ho2' hg (fun k hk e => hd k (ho0.1 k e.symm) hk)
  have hfin : ∀ w' : World, w.grownBy w' u9000_.ownBlock → Below w0.heap.size w0 w' ∧ Kept w w' (fun k_ => P0_ k_) := fun w' hg =>
    ⟨hB.grown hg hB.size (fun k hk => Kd.R_base ho0 k hk), hg.size, fun i hi hn => hg.block i hi (fun e => hn (ho0.1 i e.symm))⟩
  have hokv : ∀ v' : Value, (v'.ownBlock = u9000_.ownBlock ∨ ∃ b, v'.ownBlock = some b ∧ w.heap.size ≤ b) → ∀ k, v'.ownBlock = some k → (P0_ k ∨ w.heap.size ≤ k) := by
    intro v' h k hk
    rcases h with h | ⟨b, h, hb⟩
    · exact .inl (ho0.1 k (h ▸ hk))
    · rw [h] at hk; cases hk; exact .inr hb
  have hbase : w0.heap.size ≤ w.heap.size := hB.size
  obtain ⟨h0, inner, ho, hr⟩ := ho0
  have hrep : ∀ w' base' ok', Reps (k77.M w' base' ok') 7 (x :: l0) (c77 x ++ inner) := fun w' base' ok' => reps_cons (hr.imp_ (fun _ _ h => M77 h)) (k77_mkM _ _ _ _) rfl
  have hone := reps_one hr (fun _ _ h => k77_openM h)
  rcases l0 with _ | ⟨y, ys⟩
  · have hi : inner = [] := by have := hr.1; simpa using this
    subst hi
    refine (first_ w0.heap.size vb vc u9000_ vcur (c77 x) w ho hv hvc rfl (c77_one x) hbase).mono ?_
    rintro e w' ⟨v', rfl, h1, h2, h3⟩
    exact ⟨v', rfl, ⟨hokv v' h3, c77 x ++ [], (by rw [List.append_nil]; exact h1), hrep _ _ _⟩, hP2k _ h2, hfin _ h2⟩
  · rcases ho.2 with ⟨_, hn0⟩ | ⟨g, cap, cur, rfl, hbg, hb, h1, h2, h3, h4⟩
    · simp at hn0
    · have hne : vb ≠ g := fun e => hvb (by rw [e]; rfl)
      have hcone : ∀ v ∈ cur.toList.take ((y :: ys).length * 7), v.oneCell' = true := by
        have h4' : cur.toList.take ((y :: ys).length * 7) = inner := h4
        rw [h4']; exact hone
      have h3' : cur.size = cap * 7 := h3
      have h4' : cur.toList.take ((y :: ys).length * 7) = inner := h4
      by_cases hroom : (y :: ys).length + 1 ≤ cap
      · refine (room g cap (y :: ys).length vb vc cur vcur (c77 x) w (by simp) hroom (by unfold maxLen at h2; omega) hne hb h3 hcone hv hv3' hvc rfl (c77_one x)).mono ?_
        rintro e w' ⟨rfl, rfl⟩
        have hgs : g < w.heap.size := blk_lt hb
        have hcl : cur.toList.length = cap * 7 := by simp [h3']
        have htl : (cur.toList.take ((y :: ys).length * 7)).length = (y :: ys).length * 7 := by rw [List.length_take]; omega
        have hgr : w.grownBy ((w.drew.setRow g (cur.toList.take 7 ++ cur.toList.take ((y :: ys).length * 7) ++ cur.toList.drop (7 + (y :: ys).length * 7)).toArray).setRow g (c77 x ++ cur.toList.take ((y :: ys).length * 7) ++ cur.toList.drop (7 + (y :: ys).length * 7)).toArray) (some g) := by
          refine ⟨rfl, rfl, rfl, by simp [World.setRow], fun i hi hn => ?_⟩
          have hgi : g ≠ i := fun e => hn (by rw [e])
          simp only [World.setRow]
          rw [Array.getElem?_modify, if_neg hgi, Array.getElem?_modify, if_neg hgi]
          rfl
        refine ⟨_, rfl, ⟨hokv _ (.inl rfl), _, ⟨?_, .inr ⟨g, cap, _, rfl, hbg, setRow_set _ _ _ _ 77 (0, 0) (setRow_set _ _ cur _ 77 (0, 0) hb), hroom, h2, ?_, ?_⟩⟩, hrep _ _ _⟩, hP2k _ hgr, hfin _ hgr⟩
        · exact (hrep w 0 (fun _ => True)).1
        · show (c77 x ++ cur.toList.take ((y :: ys).length * 7) ++ cur.toList.drop (7 + (y :: ys).length * 7)).toArray.size = cap * 7
          rw [List.size_toArray, List.length_append, List.length_append, htl, List.length_drop]
          have : (c77 x).length = 7 := rfl
          omega
        · show (c77 x ++ cur.toList.take ((y :: ys).length * 7) ++ cur.toList.drop (7 + (y :: ys).length * 7)).take (((y :: ys).length + 1) * 7) = _
          have : (c77 x).length = 7 := rfl
          rw [List.take_append_of_le_length (by simp only [List.length_append, htl]; omega), List.take_of_length_le (by simp only [List.length_append, htl]; omega), h4']
      · refine (grow g cap (y :: ys).length vb vc cur vcur (c77 x) w (by simp) h1 (by omega) (by omega) hb h3 hcone hv hv3' hvc rfl (c77_one x)).mono ?_
        rintro e w' ⟨G, row, rfl, q1, q2, q3, q4, q5, q6⟩
        refine ⟨_, rfl, ⟨hokv _ (.inr ⟨_, rfl, Nat.le_refl _⟩), _, ⟨?_, .inr ⟨_, G, row, rfl, hbase, q5, q1, q2, q3, ?_⟩⟩, hrep _ _ _⟩, hP2k _ (grown_of_below q6 _), hfin _ (grown_of_below q6 _)⟩
        · exact (hrep w 0 (fun _ => True)).1
        · rw [← h4]; exact q4
theorem calls (P0_ : Nat → Prop) (u9000_ : Value) (l0 : List S77) (i : Int) (P2_ : Nat → Prop) (u92000_ : Value) (l2 : List S77) (r r' : List S77) (w0 w : World) (hB : Below w0.heap.size w0 w) (ho0 : Kd.R k77 77 w w0.heap.size P0_ u9000_ l0) (hd0 : ∀ k_, P0_ k_ → ¬ P2_ k_) (ho2 : Kd.R k77 77 w w0.heap.size P2_ u92000_ l2) (hd2 : ∀ k_, P2_ k_ → ¬ P0_ k_) (h : one.f l0 i l2 = some (r, r')) :
    Calls Try.prog 38 #[u9000_, .int .i64 i, u92000_] w fun e w' => ∃ v0_ : Value, e = .returned v0_ ∧ Kd.R k77 77 w' w0.heap.size (fun k_ => (((P0_ k_ ∨ P2_ k_) ∨ w.heap.size ≤ k_) ∧ some k_ ≠ u92000_.ownBlock)) v0_ r ∧ Kd.R k77 77 w' w0.heap.size P2_ u92000_ r' ∧ Below w0.heap.size w0 w' ∧ Kept w w' (fun k_ => P0_ k_ ∨ P2_ k_) := by
  refine (calls0 P0_ u9000_ l0 i P2_ u92000_ l2 r r' w0 w hB ho0 ho2 hd0 h).mono ?_
  rintro e w' ⟨v', rfl, h1, h2, h3, h4⟩
  exact ⟨v', rfl, Kd.R_mono h1 (fun k hk => ⟨hk.elim (fun z => .inl (.inl z)) .inr, fun e => hk.elim (fun z => hd0 k z (ho2.1 k e.symm)) (fun z => by have := Kd.R_lt ho2 k e.symm; omega)⟩), h2, h3, Kept.mono h4 (fun k hk => .inl hk)⟩
end slices_Insert

/-- Block M is a map from whole numbers to truth values that is true at the days of knowledge of these facts alone. -/
def MapIs (w : World) (M : Nat) (acc : List S77) : Prop := ∃ D : DataW Unit, w.ownsMap Try.prog 3 (plainElem Try.prog 4) M acc.length D ∧ Maps.IsMap D ∧ ∀ c : Int, D.atKey (.int .i64 c) (.lit (.bool false)) = .lit (.bool (acc.any fun y => y.f5 == c))
theorem MapIs.at_block {w w' : World} {M : Nat} {acc : List S77} (h : MapIs w M acc) (hb : w'.heap[M]? = w.heap[M]?) : MapIs w' M acc := by
  obtain ⟨D, ⟨es, clock, h1, h2⟩, h3⟩ := h
  exact ⟨D, ⟨es, clock, hb.trans h1, h2⟩, h3⟩
theorem MapIs.block {w : World} {M : Nat} {acc : List S77} (h : MapIs w M acc) : ∃ es clock, w.heap[M]? = some (.map es clock) := by
  obtain ⟨D, ⟨es, clock, h1, h2⟩, h3⟩ := h
  exact ⟨es, clock, h1⟩
theorem MapIs.lt {w : World} {M : Nat} {acc : List S77} (h : MapIs w M acc) : M < w.heap.size := by
  obtain ⟨es, clock, h1⟩ := h.block
  exact blk_lt h1
theorem MapIs.below {w w' : World} {M : Nat} {acc : List S77} (h : MapIs w M acc) (hb : Below w.heap.size w w') : MapIs w' M acc := h.at_block (hb.block M h.lt)
theorem MapIs.far {w : World} {M : Nat} {acc : List S77} (h : MapIs w M acc) {g i : Nat} (hne : M ≠ g) (u : Value) : MapIs (w.setCell ⟨g, i, none⟩ u) M acc := h.at_block (Below.heap_setCell w ⟨g, i, none⟩ u M hne)
theorem MapIs.drew {w : World} {M : Nat} {acc : List S77} (h : MapIs w M acc) : MapIs w.drew M acc := h
theorem MapIs.drewN {w : World} {M : Nat} {acc : List S77} (h : MapIs w M acc) (n : Nat) : MapIs (w.drewN n) M acc := h
theorem MapIs.made (w : World) : MapIs (w.alloc (.map #[] 0)) w.heap.size [] :=
  ⟨.map [], World.ownsMap_made _ _ _ _, Maps.isMap_empty, fun c => rfl⟩
theorem i64_wf {c : Int} (h0 : 0 ≤ c) (h1 : c ≤ 1000) : (Lit.int .i64 c).wf = true := by
  have e1 : IntKind.i64.min = -9223372036854775808 := by decide
  have e2 : IntKind.i64.max = 9223372036854775807 := by decide
  simp only [Lit.wf, e1, e2, Bool.and_eq_true, decide_eq_true_eq]
  omega
set_option maxRecDepth 100000 in
theorem MapIs.wp_lookup {w : World} {ops : Array Oper} {rest : List Oper} {o : Oper} {a : Act} {Q : Exit → Act → World → Prop} (hg : o.guard = none) (m x : Operand) (hop : o.op = Op.lookup 75 m x false)
    (M : Nat) (acc : List S77) (h : MapIs w M acc) (hm : a.eval m = .map (some M)) (c : Int) (hx : a.eval x = .int .i64 c) (h0 : 0 ≤ c) (h1 : c ≤ 1000) (b : Bool) (hb : (acc.any fun y => y.f5 == c) = b)
    (hK : wpList Try.prog ops Q rest (a.put o.dst (.bool b)) w) : wpList Try.prog ops Q (o :: rest) a w := by
  obtain ⟨D, hown, hD, hat⟩ := h
  refine wpList_plain hg fun K' hK' => ?_
  obtain ⟨v, ps, hrun, hv⟩ := hown.lookup (t := 75) (e := 4) (Maps.int_keyed Try.underlying3) Try.underlying75 (z := .bool false) (by kernel_rfl) (plainElem_bool Try.underlying4 false) (Maps.keyOf_int_mk Try.underlying3 (i64_wf h0 h1))
  rw [hat c, hb] at hv
  have hve : v = .bool b := by
    unfold plainElem at hv
    rw [Try.underlying4] at hv
    cases v <;> simp at hv
    rw [hv.1]
  subst hve
  unfold Oper.wp
  simp [execOp, hop, hm, hx, hrun, Result.andThen]
  exact hK' _ _ hK
set_option maxRecDepth 100000 in
theorem MapIs.wp_update {w : World} {ops : Array Oper} {rest : List Oper} {o : Oper} {a : Act} {Q : Exit → Act → World → Prop} (hg : o.guard = none) (m x v : Operand) (hop : o.op = Op.mapUpdate 75 m x v)
    (M : Nat) (acc : List S77) (h : MapIs w M acc) (hl : acc.length < 2199023255552) (hm : a.eval m = .map (some M)) (y : S77) (hx : a.eval x = .int .i64 y.f5) (hv : a.eval v = .bool true) (h0 : 0 ≤ y.f5) (h1 : y.f5 ≤ 1000)
    (hK : ∀ w', MapIs w' M (acc ++ [y]) → w.grownBy w' (some M) → wpList Try.prog ops Q rest (a.put o.dst undef) w') : wpList Try.prog ops Q (o :: rest) a w := by
  obtain ⟨D, hown, hD, hat⟩ := h
  refine wpList_mapUpdate_own w hg m x v 75 hop 3 4 (Maps.int_keyed Try.underlying3) Try.underlying75 _ M acc.length D hm hown (by unfold maxLen; omega) _ _ (.int .i64 y.f5) hx hv (Maps.keyOf_int_mk Try.underlying3 (i64_wf h0 h1)) (.lit (.bool true)) [] (plainElem_bool Try.underlying4 true) ?_
  intro w' hown' hgr
  refine hK w' ⟨_, by simpa using hown', hD.put _ _, fun c => ?_⟩ hgr
  by_cases hc : c = y.f5
  · subst hc
    rw [Maps.atKey_put_same hD (by trivial)]
    simp
  · rw [Maps.atKey_put_other (fun e => hc (by injection e)), hat c]
    have : (y.f5 == c) = false := by simpa using fun e => hc e.symm
    simp [this]
section
variable {α : Type} {d : Kd α} {e : Nat} {w w1 : World} {base : Nat} {ok : Nat → Prop} {v : Value} {xs : List α}
theorem R_mapped (h : d.R e w base ok v xs) {M : Nat} (hm : ∃ es clock, w.heap[M]? = some (.map es clock)) (hg : w.grownBy w1 (some M)) : d.R e w1 base ok v xs := by
  obtain ⟨es, clock, hm⟩ := hm
  refine Kd.R_mono (Kd.R_move (Kd.R_bound h) (fun k hk => hg.block k hk.2.2.1 (fun e => ?_))) (fun k hk => hk.1)
  obtain ⟨_, _, _, q, _, cells, hc⟩ := hk
  obtain rfl := Option.some.inj e
  rw [hm] at hc
  cases hc
theorem R_neMap (h : d.R e w base ok v xs) {M : Nat} (hm : ∃ es clock, w.heap[M]? = some (.map es clock)) : some M ≠ v.ownBlock := by
  intro he
  obtain ⟨es, clock, hm⟩ := hm
  obtain ⟨inner, ho⟩ := Kd.R_own h
  obtain ⟨cells, hc⟩ := own_typed ho M he.symm
  rw [hm] at hc
  cases hc
end
theorem obj_map {w : World} {M : Nat} {o : Obj} (h : w.heap[M]? = some o) (hm : ∃ es clock, o = .map es clock) : ∃ es clock, w.heap[M]? = some (.map es clock) := by
  obtain ⟨es, clock, rfl⟩ := hm
  exact ⟨es, clock, h⟩
end Go.Proofs.Ythedaldmhjocdaa.PFactTurned
