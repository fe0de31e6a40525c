import Derived.Test.YtkjneemcledfjaaGreatDoorCaseB
namespace Go.Proofs.YtkjneemcledfjaaGreatDoor.PBookCases
open Go.RowKit Go.Proofs.YtkjneemcledfjaaGreatDoorW.PrintWords Go.Proofs.YtkjneemcledfjaaGreatDoorW.PrintLast Go.Proofs.YtkjneemcledfjaaGreatDoorW.PrintMore
set_option linter.unusedVariables false
set_option linter.unusedSimpArgs false
set_option maxHeartbeats 8000000
set_option maxRecDepth 100000
theorem evP {α : Type} {c : Prop} [Decidable c] {a b : Nat → Option α} {r : α} (h : c) (k : Ev a r) : Ev (fun n => if c then a n else b n) r := Ev.congr (fun n => by rw [if_pos h]) k
theorem evN {α : Type} {c : Prop} [Decidable c] {a b : Nat → Option α} {r : α} (h : ¬ c) (k : Ev b r) : Ev (fun n => if c then a n else b n) r := Ev.congr (fun n => by rw [if_neg h]) k
theorem evT {α : Type} {a b : α} (h : a = b) : Ev (fun _ => some a) b := h ▸ Ev.now a
theorem w64c {x : Int} (h1 : -9223372036854775808 ≤ x) (h2 : x ≤ 9223372036854775807) : wrap64 x = x := by unfold wrap64; omega
theorem concat_ev (a b : List S95) (ha : a.length ≤ 1000000) (hb : b.length ≤ 1000000) : Ev (fun k => api_Attr_196.f k [a, b]) (a ++ b) := by
 unfold api_Attr_196.f; have r0 : rd_L11 [a, b] 0 = a := rfl; have r1 : rd_L11 [a, b] 1 = b := rfl; have e0 : wrap64 ((0 : Int) + 1) = 1 := by simp [wrap64]
 have e1 : wrap64 ((1 : Int) + 1) = 2 := by simp [wrap64]
 refine Ev.step (fun k => by rw [api_Attr_196.l0]) (evP (by simp) (evP (by omega) (evP (by simp) ?_))); rw [r0, e0, w64c (x := 0 + (a.length : Int)) (by omega) (by omega)]; refine evN (by omega) ?_; refine Ev.step (fun k => by rw [api_Attr_196.l0]) (evP (by simp) (evP (by omega) (evP (by simp) ?_))); rw [r1, e1, w64c (x := 0 + (a.length : Int) + (b.length : Int)) (by omega) (by omega)]; refine evN (by omega) ?_; refine Ev.step (fun k => by rw [api_Attr_196.l0]) (evN (by simp) ?_); have hg : attr_Grow.f (0 + (a.length : Int) + (b.length : Int)) = some [] := by
  unfold attr_Grow.f; rw [if_pos (by omega), if_pos (by omega)]
 simp only [hg, Option.bind_some]; refine Ev.step (fun k => by rw [api_Attr_196.l1]) (evP (by simp) (evP (by omega) (evP (by simp) ?_))); rw [r0, e0]; refine evP (by simp; omega) ?_; refine Ev.step (fun k => by rw [api_Attr_196.l1]) (evP (by simp) (evP (by omega) (evP (by simp) ?_))); rw [r1, e1]; refine evP (by simp; omega) ?_; exact Ev.step (fun k => by rw [api_Attr_196.l1]) (evN (by simp) (evT (by simp)))
theorem sets_heap (g : Nat) (t : TypeId) : ∀ (vs : List Value) (j : Nat) (W : World) (cs : Array Value), W.heap[g]? = some (.cells cs t (0, 0)) → ∃ ds, (W.setCells g j vs).heap[g]? = some (.cells ds t (0, 0)) ∧ ds.size = cs.size ∧ (∀ i, i < j → ds[i]? = cs[i]?) ∧ ∀ i v, vs[i]? = some v → j + i < cs.size → ds[j + i]? = some v
 | [], j, W, cs, h => ⟨cs, h, rfl, fun _ _ => rfl, fun i v hv => by simp at hv⟩
 | v :: vs, j, W, cs, h => by
  have h1 : (W.setCell ⟨g, j, none⟩ v).heap[g]? = some (.cells (cs.setIfInBounds j v) t (0, 0)) := blk_set h j v
  obtain ⟨ds, h2, h3, h4, h5⟩ := sets_heap g t vs (j + 1) _ _ h1
  refine ⟨ds, h2, by simpa using h3, fun i hi => ?_, fun i u hu hlt => ?_⟩
  ·rw [h4 i (by omega), Array.getElem?_setIfInBounds_ne (by omega)]
  ·cases i with
   | zero =>
    have : u = v := by simpa using hu.symm
    subst this
    rw [Nat.add_zero, h4 j (by omega), Array.getElem?_setIfInBounds_self_of_lt (by omega)]
   | succ i =>
    rw [show j + (i + 1) = j + 1 + i from by omega]
    exact h5 i u (by simpa using hu) (by simp; omega)
theorem sets_all {g : Nat} {t : TypeId} {W : World} {cs0 : Array Value} {vs : List Value} (h : W.heap[g]? = some (.cells cs0 t (0, 0))) (hl : vs.length = cs0.size) : (W.setCells g 0 vs).heap[g]? = some (.cells vs.toArray t (0, 0)) := by
 obtain ⟨ds, h1, h2, _, h3⟩ := sets_heap g t vs 0 W cs0 h; rw [h1]; congr 2; refine Array.ext_getElem? fun i => ?_; by_cases hi : i < vs.length
 ·have := h3 i _ (List.getElem?_eq_getElem hi) (by omega); rw [Nat.zero_add] at this; rw [this]; simp [hi]
 ·rw [Array.getElem?_eq_none (by omega), Array.getElem?_eq_none (by simp; omega)]
theorem sets_far (g i : Nat) (hi : i ≠ g) : ∀ (vs : List Value) (j : Nat) (W : World), (W.setCells g j vs).heap[i]? = W.heap[i]?
 | [], _, _ => rfl
 | v :: vs, j, W => (sets_far g i hi vs (j + 1) _).trans (Below.heap_setCell W ⟨g, j, none⟩ v i hi)
theorem sets_size (g : Nat) : ∀ (vs : List Value) (j : Nat) (W : World), (W.setCells g j vs).heap.size = W.heap.size ∧ (W.setCells g j vs).os = W.os ∧ (W.setCells g j vs).tape = W.tape ∧ (W.setCells g j vs).output = W.output
 | [], _, _ => ⟨rfl, rfl, rfl, rfl⟩
 | v :: vs, j, W => by
  obtain ⟨h1, h2, h3, h4⟩ := sets_size g vs (j + 1) (W.setCell ⟨g, j, none⟩ v)
  exact ⟨h1.trans (by simp [World.setCell]), h2, h3, h4⟩
theorem var_event {P : Program} {ops : Array Oper} {rest : List Oper} {o o2 : Oper} {a : Act} {Q : Exit → Act → World → Prop} {W : World} (hgd : o.guard = none) {N : Tmp} (_hd : o.dst = some N) (hgd2 : o2.guard = none) (hd2 : o2.dst = none) (cs0 : Array Value) (vs : List Value) (t : TypeId)
  (hrun : (execOp a.eval o).run P W = .ok (.value (.pointer (some ⟨W.heap.size, 0, none⟩))) (W.alloc (.cells cs0 t (0, 0))))
  (hl : vs.length = cs0.size)
  (hrun2 : ∀ g W1, W1.heap[g]? = some (.cells cs0 t (0, 0)) → (execOp (a.put o.dst (.pointer (some ⟨g, 0, none⟩))).eval o2).run P W1 = .ok .skip (W1.setCells g 0 vs))
  (h : ∀ g, g = W.heap.size → ∀ W2, W2.heap[g]? = some (.cells vs.toArray t (0, 0)) → Below W.heap.size W W2 → wpList P ops Q rest (a.put o.dst (.pointer (some ⟨g, 0, none⟩))) W2) : wpList P ops Q (o :: o2 :: rest) a W := by
 have hb := blk_new W (.cells cs0 t (0, 0)); obtain ⟨h1, h2, h3, h4⟩ := sets_size W.heap.size vs 0 (W.alloc (.cells cs0 t (0, 0))); have hB : Below W.heap.size W (W.alloc (.cells cs0 t (0, 0))) := below_alloc (Below.refl _ _) _; refine Kd.event_run hgd hrun ?_; have h5 := h W.heap.size rfl _ (sets_all hb hl) ⟨h2.trans hB.os, h3.trans hB.tape, h4.trans hB.output, by rw [h1]; exact hB.size, fun k hk => (sets_far _ k (by omega) vs 0 _).trans (hB.block k hk)⟩; refine wpList_plain hgd2 fun K hK => ?_; unfold Oper.wp; rw [hrun2 _ _ hb]; have h6 := hK _ _ h5; show K ((a.put o.dst (.pointer (some ⟨W.heap.size, 0, none⟩))).put o2.dst undef) _; rw [hd2]; exact h6
theorem alloc_size1 (w : World) (o : Obj) : (w.alloc o).heap.size = w.heap.size + 1 := Array.size_push ..
theorem info9s : (Tryz.prog.info? 9).map (fun i => (i.zero, i.size, i.bytes)) = some (some (.string ⟨#[]⟩), 1, 16) := kl_
theorem names_ok {w0 w : World} {M S : Nat} (h : Mk w0 w M S) (kind : Int) :
  Calls Tryz.prog 173 #[.pointer (some ⟨M, 0, none⟩), .int .i64 kind] w fun e w' => ∃ v ns, e = .returned v ∧ Kd.R Kd.string 9 w' w.heap.size T1 v ns ∧ ns.length ≤ 200 ∧ Below w.heap.size w w' := by
 obtain ⟨vi, vo, vt, li, lo, lt, hM, hi, ho, _, hli, hlo, _⟩ := h.pt; obtain ⟨Ai, ci, ei⟩ := Kd.R_slice hi; obtain ⟨Ao, co, eo⟩ := Kd.R_slice ho; subst ei eo; have HM := Aside0.mk hM; have HI := Aside0.mk hi; have HO := Aside0.mk ho; clear h hM hi ho; go_enter Tryz.func173, Tryz.ntmps173; go_upto_region 2 with (fail); (try simp only [Act.put, List.setIfInBounds_toArray, List.set_cons_zero, List.set_cons_succ]); have HB0 : Below w.heap.size w w.drew := below_drew1 (Below.refl _ _); have HM0 := Aside0.mk (show w.drew.heap[M]? = _ from HM.out); have HI0 := Aside0.mk (Kd.R_drew HI.out); have HO0 := Aside0.mk (Kd.R_drew HO.out); generalize hD : w.drew = wD at HB0 HM0 HI0 HO0; have hc1 : wD.cell? ⟨M, 1, none⟩ = some (.slice Ai li.length ci) := blk_cell HM0.out 1; have hc2 : wD.cell? ⟨M, 2, none⟩ = some (.slice Ao lo.length co) := blk_cell HM0.out 2; refine start_ (n := 12) (S := fun w' => w'.cell? ⟨M, 1, none⟩ = some (.slice Ai li.length ci) ∧ w'.cell? ⟨M, 2, none⟩ = some (.slice Ao lo.length co)) (ds := []) #[false, false, false, false, false, false, false, false, false, false, false, false] kl_ rfl rfl (by rw [hD]; exact ⟨hc1, hc2⟩) (fun hHeld => ?_); rw [hD] at hHeld ⊢; clear hD; refine pu_ 0 8 ?_; refine pu_ 1 9 ?_; refine pu_ 2 10 ?_; refine tk_ 3 11 hHeld ?_; refine pu_ 4 12 ?_; refine pu_ 5 13 ?_; refine pu_ 6 14 ?_; refine tk_ 7 15 hHeld ?_; refine pu_ 11 19 ?_; refine one_ (i := 8) (N := some 16) #[true, true, true, true, true, true, true, true, true, false, false, true] rfl rfl kl_ (by decide) (fun K hK => ?_); refine value_ (v := .slice (some ⟨wD.heap.size, 0, none⟩) 2 2) (w1 := wD.alloc (.cells #[.slice Ai li.length ci, .slice Ao lo.length co] 83)) (by rfl) rfl ?_ ?_
 ·first | (go_simp; done) | (go_simp; rfl)
 have HBA : Below wD.heap.size wD (wD.alloc (.cells #[.slice Ai li.length ci, .slice Ao lo.length co] 83)) := below_alloc (Below.refl _ _) _; refine hK.out _ _ ⟨(HBA.cell (World.block_lt_of_cell? wD _ hc1)).trans hc1, (HBA.cell (World.block_lt_of_cell? wD _ hc2)).trans hc2⟩ (fun hHeld => ?_); clear hK K; refine one_ (i := 9) (N := some 17) #[true, true, true, true, true, true, true, true, true, true, false, true] rfl rfl kl_ (by decide) (fun K hK => ?_); obtain ⟨kc, hkc⟩ := (concat_ev li lo (by omega) (by omega)).rounds; refine goes_ Tryz.func196 kl_ rfl #[.slice (some ⟨wD.heap.size, 0, none⟩) 2 2] (by rfl) rfl rfl ar_ ?_; refine (api_Attr_196.calls kc (some ⟨wD.heap.size, 0, none⟩) 2 [li, lo] (li ++ lo) _ ?side1 (Nat.le_refl _) hkc).mono ?_
 case side1 =>
  have hnew := blk_new wD (.cells #[.slice Ai li.length ci, .slice Ao lo.length co] 83); refine ⟨rfl, by simp, fun _ => ⟨⟨wD.heap.size, 0, none⟩, rfl, fun j p hp => ?_⟩⟩; match j, hp with
  | 0, hp =>
   obtain rfl := Option.some.inj hp; refine ⟨[.slice Ai li.length ci], rfl, ⟨Ai, ci, rfl, (Kd.R_reads' HI0.out).2.1, Kd.C_alloc (Kd.R_reads' HI0.out).2.2 _⟩, fun i u hu => ?_⟩; match i, hu with
   | 0, hu => obtain rfl := Option.some.inj hu; exact blk_cell hnew 0
  | 1, hp =>
   obtain rfl := Option.some.inj hp; refine ⟨[.slice Ao lo.length co], rfl, ⟨Ao, co, rfl, (Kd.R_reads' HO0.out).2.1, Kd.C_alloc (Kd.R_reads' HO0.out).2.2 _⟩, fun i u hu => ?_⟩; match i, hu with
   | 0, hu => obtain rfl := Option.some.inj hu; exact blk_cell hnew 1
 rintro e w2 ⟨vr, rfl, hor, hb2⟩; refine ⟨_, rfl, ?_⟩; have HB2 : Below w.heap.size w w2 := below_step HB0 (below_step HBA hb2); have hBD : Below wD.heap.size wD w2 := below_step HBA hb2; refine hK.out _ _ ⟨(hBD.cell (World.block_lt_of_cell? wD _ hc1)).trans hc1, (hBD.cell (World.block_lt_of_cell? wD _ hc2)).trans hc2⟩ (fun hHeld => ?_); clear hK K; have HR := Aside0.mk (Kd.R_lower hor (Nat.le_trans HB0.size HBA.size)); obtain ⟨rs, hrs⟩ : ∃ rs, rs = li ++ lo := ⟨_, rfl⟩; rw [← hrs] at HR; have hrl : rs.length ≤ 200 := by rw [hrs]; simp; omega
 obtain ⟨Ar, cr, er⟩ := Kd.R_slice HR.out; subst er; have HB2 := Aside0.mk HB2; clear HB0 HBA hBD hb2 hor hrs; refine pu_ 10 18 ?_; refine done_ kl_ ?_; go_wp2; go_loopg [5, 19] rs.length (fun kq v5 v19 w' => ∃ (i : Int) (ns : List ByteArray), v19 = .int .i64 i ∧ Aside0 (0 ≤ i ∧ (kq : Int) + i = (rs.length : Int) ∧ (ns.length : Int) ≤ i) ∧ Aside0 (Kd.R Kd.string 9 w' w.heap.size T1 v5 ns) ∧ Aside0 (Kd.R k95 95 w' w.heap.size T1 (.slice Ar rs.length cr) rs) ∧ Aside0 (Below w.heap.size w w'))
 case atStart => exact ⟨0, [], rfl, ⟨by omega, by omega, by simp⟩, ⟨Kd.R_nil _ _ _ _ _⟩, HR, HB2⟩
 case round =>
  clear HR HB2; obtain ⟨i, ns, rfl, HJ, HN, HR, HB⟩ := hrel
  cases gk with
  | zero =>
   have c3 : decide (i < (rs.length : Int)) = false := decide_eq_false s3_; go_wp2; go_ret; exact ⟨_, ns, rfl, HN.out, by have := HJ.out; omega, HB.out⟩
  | succ k1 =>
   have c3 : decide (i < (rs.length : Int)) = true := decide_eq_true s3_; have p1 : 0 ≤ i := HJ.out.1; have q1 : i < (rs.length : Int) := by have := HJ.out; omega
   have hnl := Aside0.mk (show ns.length ≤ 200 by have := HJ.out; omega); have hw : wrap64 (i + 1) = i + 1 := w64c (by omega) (by omega); obtain ⟨ad, e, hy0, hy1, hy2, hy3, hy4, hy5, hy6⟩ := at_T95 (Kd.R_reads' HR.out).2.2 i p1 q1
   cases e; have P1 := eq_true p1; have Q1 := eq_true q1; clear p1 q1; by_cases ck : (rd_T95 rs i).f1 = kind
   ·have ck1 : ((rd_T95 rs i).f1 == kind) = true := beq_iff_eq.2 ck; clear ck; go_wp2_with ((with_reducible refine gate_builtin (b := .append) (xs := #[.tmp 27, .tmp 30]) rfl ?_); at_builtin; refine Kd.R_append Kd.string (w0 := w) w.heap.size rfl (.tmp 27) (.tmp 30) 118 9 (.string ⟨#[]⟩) 16 rfl Tryz.underlying118 info9s rfl (by decide) (by omega) u5 ns (rd_T95 rs i).f0 [.string (rd_T95 rs i).f0] T1 (fun _ => False) ?aV ?aX ?aP (fun _ hk => hk.elim) ?aF ?aO ?aB ?aS ?aL ?_; (case aV => rfl); (case aX => first | rfl | (show (Value.slice (some ⟨_, 0, none⟩) 1 1) = Value.slice (some ⟨_, 0, none⟩) 1 1; rw [alloc_size1])); (case aP => exact rfl); (case aF => exact (fun _ _ => trivial)); (case aO => exact (kr_ HN.out)); (case aB => exact b_); (case aS => exact (below_size b_)); (case aL => have := hnl.out; omega); intro v1 w9 ho hb hg hat; replace HB := Aside0.mk hb; replace HR := Aside0.mk (Kd.R_over' (kr_ HR.out) (Kd.R_typed (kr_ HN.out)) (by decide) hg); replace HN := Aside0.mk ho; clear hat hb hg ho); go_roundg k1
    case measure => omega
    case rel => exact ⟨i + 1, _, by rw [hw], ⟨by have := HJ.out; omega, by have := HJ.out; omega, by have := HJ.out; simp; omega⟩, HN, HR, HB⟩
   ·have ck1 : ((rd_T95 rs i).f1 == kind) = false := beq_eq_false_iff_ne.2 ck; clear ck; go_wp2; go_roundg k1
    case measure => omega
    case rel => exact ⟨i + 1, ns, by rw [hw], ⟨by have := HJ.out; omega, by have := HJ.out; omega, by have := HJ.out; omega⟩, ⟨Kd.R_alloc HN.out _⟩, ⟨Kd.R_alloc HR.out _⟩, ⟨below_alloc HB.out _⟩⟩
end Go.Proofs.YtkjneemcledfjaaGreatDoor.PBookCases
