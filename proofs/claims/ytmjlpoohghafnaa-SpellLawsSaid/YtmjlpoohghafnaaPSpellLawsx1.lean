/- The machine side of a law, written by a program of this session (wip/mp). -/
import Derived.Test.YtmjlpoohghafnaaPSpellLawsx0
namespace Go.Proofs.Ytmjlpoohghafnaa.PSpellLaws
open Go.RowKit Go.Proofs.YtmjlpoohghafnaaW.PrintWords Go.Proofs.YtmjlpoohghafnaaW.PrintLast Go.Proofs.YtmjlpoohghafnaaW.PrintMore
attribute [local go_sem] max2_int min2_int max_two min_two max_three min_three max_four min_four   -- for this text's walks alone
set_option linter.unusedVariables false
set_option linter.unusedSimpArgs false

attribute [local go_sem] idx35_0_0 idx35_1_0 idxA35_1
/-! ### mootmake_Below: function 11 -/
def mootmake_Below.f (a0 : Int) (a1 : Int) : Option (Int) := if a1 = 0 then (none) else (if (Int.tmod a0 a1) < 0 then (some (wrap64 ((Int.tmod a0 a1) + a1))) else (some (Int.tmod a0 a1)))
set_option maxHeartbeats 8000000 in
set_option maxRecDepth 100000 in
theorem mootmake_Below.calls (a0 : Int) (a1 : Int) (r : Int) (w : World) (h : mootmake_Below.f a0 a1 = some r) :
    Calls Try.prog 11 #[.int .i64 a0, .int .i64 a1] w fun e w' => e = .returned (.int .i64 r) ∧ Drawn0 w w' := by
  have H : (if a1 = 0 then (none) else (if (Int.tmod a0 a1) < 0 then (some (wrap64 ((Int.tmod a0 a1) + a1))) else (some (Int.tmod a0 a1)))) = some r := h
  clear h
  by_cases c3 : a1 = 0
  · rw [if_pos c3] at H
    exact absurd H (by simp)
  · rw [if_neg c3] at H
    have c3b0 : (a1 == 0) = false := beq_eq_false_iff_ne.mpr c3
    have c3b1 : (a1 != 0) = true := bne_iff_ne.mpr c3
    by_cases c4 : (Int.tmod a0 a1) < 0
    · rw [if_pos c4] at H
      have c4b0 : decide ((Int.tmod a0 a1) < 0) = true := decide_eq_true c4
      clear c4
      obtain rfl := Option.some.inj H
      go_enter Try.func11, Try.ntmps11
      go_wp2
      go_ret
      exact ⟨by first | rfl | (simp; done) | (simp [*]; done), by repeat (first | exact Drawn0.refl _ | apply Drawn0.step)⟩
    · rw [if_neg c4] at H
      have c4b0 : decide ((Int.tmod a0 a1) < 0) = false := decide_eq_false c4
      clear c4
      obtain rfl := Option.some.inj H
      go_enter Try.func11, Try.ntmps11
      go_wp2
      go_ret
      exact ⟨by first | rfl | (simp; done) | (simp [*]; done), by repeat (first | exact Drawn0.refl _ | apply Drawn0.step)⟩

/-! ### mootmake_Stream_Next: function 37 (by hand) -/
/-- A state of type 69 at block g of W; what its slices lead to came in by w0. -/
def IsS69 (w0 W : World) (g : Nat) (f0 : List Int) : Prop := ∃ A0 c0, W.heap[g]? = some (.cells #[.slice A0 f0.length c0] 69 (0, 0)) ∧ w0.heap.size ≤ g ∧ (Kd.C (Kd.int .i64) w0 A0 f0.length f0 ∧ f0.length ≤ c0)
theorem IsS69.grown {w0 W : World} {g : Nat} {f0 : List Int} {W1 : World} {row : Option Nat} (h : IsS69 w0 W g f0) (hw : W.grownBy W1 row) (hne : some g ≠ row) : IsS69 w0 W1 g f0 := by
  obtain ⟨A0, c0, hb, hg, hr0⟩ := h
  exact ⟨A0, c0, blk_grown hb hw hne, hg, hr0⟩
theorem IsS69.own_neN {w0 W : World} {g : Nat} {f0 : List Int} {α : Type} {d : Kd α} {e : Nat} {base : Nat} {ok : Nat → Prop} {v : Value} {xs : List α} (h : IsS69 w0 W g f0) (ho : Kd.N d e W base ok v xs) (ht : e ≠ 69) : some g ≠ v.ownBlock := by
  obtain ⟨A0, c0, hb, hg, hr0⟩ := h
  exact Kd.N_ne ho hb ht
theorem IsS69.fresh {w0 W : World} {g : Nat} {f0 : List Int} (h : IsS69 w0 W g f0) : ∀ k, W.heap.size ≤ k → k ≠ g := by
  obtain ⟨A0, c0, hb, hg, hr0⟩ := h
  exact Kd.freshB hb
theorem IsS69.kept {w0 W : World} {g : Nat} {f0 : List Int} {W1 : World} {S : Nat → Prop} (h : IsS69 w0 W g f0) (hk : Kept W W1 S) (hne : ¬ S g) : IsS69 w0 W1 g f0 := by
  obtain ⟨A0, c0, hb, hg, hr0⟩ := h
  exact ⟨A0, c0, blk_kept hb hk hne, hg, hr0⟩
theorem IsS69.below {w0 W : World} {g : Nat} {f0 : List Int} {W1 : World} (h : IsS69 w0 W g f0) (hw : Below W.heap.size W W1) : IsS69 w0 W1 g f0 := h.grown (grown_of_below hw none) (by simp)
theorem IsS69.alloc {w0 W : World} {g : Nat} {f0 : List Int} (h : IsS69 w0 W g f0) (o : Obj) : IsS69 w0 (W.alloc o) g f0 := h.below (below_alloc (Below.refl _ _) o)
theorem IsS69.drewN {w0 W : World} {g : Nat} {f0 : List Int} (h : IsS69 w0 W g f0) (m : Nat) : IsS69 w0 (W.drewN m) g f0 := h
theorem IsS69.drew {w0 W : World} {g : Nat} {f0 : List Int} (h : IsS69 w0 W g f0) : IsS69 w0 W.drew g f0 := h
theorem IsS69.at_ {w0 W : World} {g : Nat} {f0 : List Int} {w' : World} {m : Nat} (hq : W.drewN m = w') (h : IsS69 w0 W g f0) : IsS69 w0 w' g f0 := by subst hq; exact IsS69.drewN h m
theorem IsS69.apart {w0 W : World} {g : Nat} {f0 : List Int} {α : Type} {d : Kd α} {e : Nat} {base : Nat} {ok : Nat → Prop} {v : Value} {xs : List α} (h : IsS69 w0 W g f0) (ho : d.R e W base ok v xs) (ht : ∀ q, q ∈ e :: d.E → q ≠ 69) : d.R e W base (fun k => ok k ∧ k ≠ g) v xs := by
  obtain ⟨A0, c0, hb, hg, hr0⟩ := h
  exact Kd.R_types ho hb ht
theorem IsS69.own_ne {w0 W : World} {g : Nat} {f0 : List Int} {α : Type} {d : Kd α} {e : Nat} {base : Nat} {ok : Nat → Prop} {v : Value} {xs : List α} (h : IsS69 w0 W g f0) (ho : d.R e W base ok v xs) (ht : e ≠ 69) : some g ≠ v.ownBlock := by
  obtain ⟨A0, c0, hb, hg, hr0⟩ := h
  exact Kd.R_ne ho hb ht
theorem IsS69.apartQ {w0 W : World} {g : Nat} {f0 : List Int} {α : Type} {d : Kd α} {e : Nat} {base : Nat} {ok : Nat → Prop} {v : Value} {xs : List α} (h : IsS69 w0 W g f0) (ho : d.Q e W base ok v xs) (ht : ∀ q, q ∈ e :: d.E → q ≠ 69) : d.Q e W base (fun k => ok k ∧ k ≠ g) v xs := by
  obtain ⟨A0, c0, hb, hg, hr0⟩ := h
  exact Kd.Q_types ho hb ht
theorem IsS69.own_neQ {w0 W : World} {g : Nat} {f0 : List Int} {α : Type} {d : Kd α} {e : Nat} {base : Nat} {ok : Nat → Prop} {v : Value} {xs : List α} (h : IsS69 w0 W g f0) (ho : d.Q e W base ok v xs) (ht : e ≠ 69) : some g ≠ v.ownBlock := by
  obtain ⟨A0, c0, hb, hg, hr0⟩ := h
  exact Kd.Q_ne ho hb ht
theorem IsS69.apartS {w0 W : World} {g : Nat} {f0 : List Int} {α : Type} {d : Kd α} {e : Nat} {base : Nat} {ok : Nat → Prop} {v : Value} {xs : List α} (h : IsS69 w0 W g f0) (ho : d.S e W base ok v xs) (ht : ∀ q, q ∈ e :: d.E → q ≠ 69) : d.S e W base (fun k => ok k ∧ k ≠ g) v xs := by
  obtain ⟨A0, c0, hb, hg, hr0⟩ := h
  exact Kd.S_types ho hb ht
theorem IsS69.own_neS {w0 W : World} {g : Nat} {f0 : List Int} {α : Type} {d : Kd α} {e : Nat} {base : Nat} {ok : Nat → Prop} {v : Value} {xs : List α} (h : IsS69 w0 W g f0) (ho : d.S e W base ok v xs) (ht : e ≠ 69) : some g ≠ v.ownBlock := by
  obtain ⟨A0, c0, hb, hg, hr0⟩ := h
  exact Kd.S_ne ho hb ht
theorem IsS69.lt {w0 W : World} {g : Nat} {f0 : List Int} (h : IsS69 w0 W g f0) : g < W.heap.size := by
  obtain ⟨A0, c0, hb, hg, hr0⟩ := h
  exact blk_lt hb
theorem IsS69.ge {w0 W : World} {g : Nat} {f0 : List Int} (h : IsS69 w0 W g f0) : w0.heap.size ≤ g := by
  obtain ⟨A0, c0, hb, hg, hr0⟩ := h
  exact hg
theorem IsS69.ne_blk {w0 W : World} {g : Nat} {f0 : List Int} {a : Nat} {cs : Array Value} {t : TypeId} {fr : Nat × Nat} (h : IsS69 w0 W g f0) (hb2 : W.heap[a]? = some (.cells cs t fr)) (ht : t ≠ 69) : g ≠ a := by
  obtain ⟨A0, c0, hb, hg, hr0⟩ := h
  rintro rfl
  rw [hb] at hb2
  injection hb2 with hb2
  injection hb2 with _ ht2
  exact ht ht2.symm
theorem IsS69.far {w0 W : World} {g : Nat} {f0 : List Int} {p : Addr} (h : IsS69 w0 W g f0) (hne : g ≠ p.block) (u : Value) : IsS69 w0 (W.setCell p u) g f0 := by
  obtain ⟨A0, c0, hb, hg, hr0⟩ := h
  exact ⟨A0, c0, blk_far hb hne u, hg, hr0⟩
theorem cellS69_0 {W : World} {g : Nat} {A0 : Option Addr} {c0 : Nat} {f0 : List Int} (h : W.heap[g]? = some (.cells #[.slice A0 f0.length c0] 69 (0, 0))) : W.cell? ⟨g, 0, none⟩ = some (.slice A0 f0.length c0) := (blk_cell h 0).trans rfl
theorem IsS69.new (w0 W : World) (A0 : Option Addr) (c0 : Nat) (f0 : List Int) (hB : Below w0.heap.size w0 W) (hr0 : (Kd.C (Kd.int .i64) w0 A0 f0.length f0 ∧ f0.length ≤ c0)) : IsS69 w0 (W.alloc (.cells #[.slice A0 f0.length c0] 69)) W.heap.size f0 := ⟨A0, c0, by simpa using heap_alloc_new W _, hB.size, hr0⟩

def mootmake_Stream_Next.f (s0_0 : List Int) (a1 : Int) : Option (Int × List Int) := if a1 < 1 then some (0, s0_0) else if s0_0 = [] then some (0, s0_0) else (mootmake_Below.f (rd s0_0 0) a1).bind fun t => some (t, s0_0.drop 1)
set_option maxHeartbeats 8000000 in
set_option maxRecDepth 100000 in
theorem mootmake_Stream_Next.calls (g : Nat) (s0_0 : List Int) (a1 : Int) (r1 : Int) (r2 : List Int) (w0 w : World) (hI : IsS69 w0 w g s0_0) (hB : Below w0.heap.size w0 w) (h : mootmake_Stream_Next.f s0_0 a1 = some (r1, r2)) :
    Calls Try.prog 37 #[.pointer (some ⟨g, 0, none⟩), .int .i64 a1] w fun e w' => e = .returned (.int .i64 r1) ∧ IsS69 w0 w' g r2 ∧ Below w0.heap.size w0 w' ∧ KeepBut w w' g none := by
  unfold mootmake_Stream_Next.f at h
  have HI := Aside0.mk hI
  obtain ⟨A, c, hb, hg, hr, hc⟩ := hI
  have hcell : w.cell? ⟨g, 0, none⟩ = some (.slice A s0_0.length c) := (blk_cell hb 0).trans rfl
  have hfr : w.frozen? ⟨g, 0, none⟩ = false := blk_frozen hb 0
  have Hb := Aside0.mk hb
  have HB := Aside0.mk hB
  have Hg := Aside0.mk hg
  have Hr := Aside0.mk hr
  have Hc := Aside0.mk hc
  clear hb hB hg hr hc
  by_cases h1 : a1 < 1
  · rw [if_pos h1] at h
    simp only [Option.some.injEq, Prod.mk.injEq] at h
    obtain ⟨rfl, rfl⟩ := h
    have h1b : decide (a1 < 1) = true := decide_eq_true h1
    clear h1
    go_enter Try.func37, Try.ntmps37
    go_wp2_with fail
    go_ret
    exact ⟨rfl, HI.out, HB.out, KeepBut.refl _ _ _⟩
  · rw [if_neg h1] at h
    have h1b : decide (a1 < 1) = false := decide_eq_false h1
    by_cases h2 : s0_0 = []
    · rw [if_pos h2] at h
      simp only [Option.some.injEq, Prod.mk.injEq] at h
      obtain ⟨rfl, rfl⟩ := h
      have h2b : ((s0_0.length : Int) == 0) = true := by rw [h2]; rfl
      have h2c : (s0_0.length == 0) = true := by rw [h2]; rfl
      have H2 := Aside0.mk h2
      clear h2 h1
      go_enter Try.func37, Try.ntmps37
      go_wp2_with fail
      go_ret
      exact ⟨rfl, HI.out, HB.out, KeepBut.refl _ _ _⟩
    · rw [if_neg h2] at h
      have hlen : 0 < s0_0.length := List.length_pos_iff.2 h2
      obtain ⟨t, ht, h⟩ := Option.bind_eq_some_iff.mp h
      simp only [Option.some.injEq, Prod.mk.injEq] at h
      obtain ⟨rfl, rfl⟩ := h
      have HT := Aside0.mk ht
      have h2b : ((s0_0.length : Int) == 0) = false := by rw [beq_eq_false_iff_ne]; omega
      have h2c : (s0_0.length == 0) = false := by rw [beq_eq_false_iff_ne]; omega
      obtain ⟨ad, hA, hcs⟩ := (Kd.reads_of_C (d := (0 : Int)) Hr.out : ReadsOf (Value.int .i64) 0 w0 A s0_0.length s0_0).2.2 hlen
      have hel0 := hcs 0 hlen
      rw [Addr.add_zero'] at hel0
      have hel : w.cell? ad = some (.int .i64 (rd s0_0 0)) := (pw_cell_below HB.out hel0).trans rfl
      have hne : g ≠ ad.block := by
        have := World.block_lt_of_cell? _ _ hel0
        have := Hg.out
        omega
      obtain ⟨i0, hi0, _, hsz0, _⟩ := info_parts info3
      obtain ⟨A', hcut, hA', hC'⟩ := print_drop_of (P := Try.prog) (Value.int .i64) 0 22 3 .i64 Try.underlying22 hi0 hsz0 A c s0_0 1 (by omega) (by omega) Hc.out
      subst hA
      have HA' := Aside0.mk hA'
      have HC' := Aside0.mk hC'
      clear hA' hC' h2 h1 ht hcs hel0
      simp only [show ((1 : Int)).toNat = 1 from rfl] at hcut
      go_enter Try.func37, Try.ntmps37
      go_wp2_with (go_at_call 11; refine (mootmake_Below.calls _ _ _ _ HT.out).mono ?_; rintro e w' ⟨rfl, ⟨n, rfl⟩⟩)
      go_ret
      have hset := blk_set Hb.out 0 (.slice A' (s0_0.length - 1) (c - 1))
      have hl1 : (s0_0.drop 1).length = s0_0.length - 1 := List.length_drop
      refine ⟨rfl, ⟨A', c - 1, ?_, Hg.out, Kd.C_of_reads (HA'.out w0 (Kd.reads_of_C Hr.out)), HC'.out⟩, ?_, ?_⟩
      · rw [hl1]; exact hset
      · exact pw_below_drewN (HB.out.setCell Hg.out _) _
      · exact keep_drewN (KeepBut.set_ (KeepBut.refl _ _ _) 0 _) _

/-! ### mootkeep1_spells: function 10 -/
def mootkeep1_spells.l0 : Nat → List (S35) → Int → Int → List Int → Option ((List (S35)))
  | 0, _, _, _, _ => none
  | k + 1, x4, x10, x11, x102000 => if x11 < x10 then ((mootmake_Stream_Next.f x102000 100).bind fun bt104 => ((mootmake_Stream_Next.f bt104.2 20).bind fun bt106 => (if x4.length < 8796093022208 then (mootkeep1_spells.l0 k (x4 ++ [(⟨bt104.1, wrap64 (bt104.1 + bt106.1)⟩ : S35)]) x10 (wrap64 (x11 + 1)) bt106.2) else (none)))) else (some x4)
def mootkeep1_spells.f (k : Nat) (l0 : List Int) : Option ((List (S35))) := (mootmake_Stream_Next.f l0 8).bind fun bt102 => (mootkeep1_spells.l0 k ([] : List (S35)) bt102.1 0 bt102.2)
theorem mootkeep1_spells.mono_l : ∀ k, (∀ y0 y1 y2 y3, LeO (mootkeep1_spells.l0 k y0 y1 y2 y3) (mootkeep1_spells.l0 (k + 1) y0 y1 y2 y3))
  | 0 => fun _ _ _ _ r h => by simp [mootkeep1_spells.l0] at h
  | k + 1 => by
    have ih0 := mootkeep1_spells.mono_l k
    · intro y0 y1 y2 y3
      unfold mootkeep1_spells.l0
      repeat' first
      | (with_reducible exact ih0 _ _ _ _)
      | (with_reducible exact LeO.refl _)
      | (with_reducible exact LeO.none _)
      | (with_reducible refine LeO.ite ?_ ?_)
      | (with_reducible refine LeO.bind ?_ (fun _ => ?_))
      | exact ih0 _ _ _ _
      | exact LeO.none _
      | refine LeO.ite ?_ ?_
      | refine LeO.bind ?_ (fun _ => ?_)
theorem mootkeep1_spells.mono : ∀ a0 k, LeO (mootkeep1_spells.f k a0) (mootkeep1_spells.f (k + 1) a0) := by
  intro a0 k
  have ih0 := mootkeep1_spells.mono_l k
  unfold mootkeep1_spells.f
  repeat' first
      | (with_reducible exact ih0 _ _ _ _)
      | (with_reducible exact LeO.refl _)
      | (with_reducible exact LeO.none _)
      | (with_reducible refine LeO.ite ?_ ?_)
      | (with_reducible refine LeO.bind ?_ (fun _ => ?_))
      | exact ih0 _ _ _ _
      | exact LeO.none _
      | refine LeO.ite ?_ ?_
      | refine LeO.bind ?_ (fun _ => ?_)
set_option maxHeartbeats 8000000 in
set_option maxRecDepth 100000 in
theorem mootkeep1_spells.calls (k : Nat) (A0 : Option Addr) (c0 : Nat) (l0 : List Int) (r : List (S35)) (w : World) (hr0 : Kd.C (Kd.int .i64) w A0 l0.length l0) (hc0 : l0.length ≤ c0) (h : mootkeep1_spells.f k l0 = some r) :
    Calls Try.prog 10 #[.slice A0 l0.length c0] w fun e w' => ∃ v0_ : Value, e = .returned (v0_) ∧ Kd.R k35 35 w' w.heap.size (fun _ => True) v0_ r ∧ Below w.heap.size w w' := by
  have hu69 := Try.underlying69
  have hu35 := Try.underlying35
  have HR0 := Aside0.mk hr0
  have HC0 := Aside0.mk hc0
  clear hr0 hc0
  have HB := Aside0.mk (Below.refl w.heap.size w)
  have H : ((mootmake_Stream_Next.f l0 8).bind fun bt102 => (mootkeep1_spells.l0 k ([] : List (S35)) bt102.1 0 bt102.2)) = some r := h
  clear h
  replace H := Option.bind_eq_some_iff.mp H
  obtain ⟨⟨t102, t103⟩, A20, H⟩ := H
  replace H : (mootkeep1_spells.l0 k ([] : List (S35)) t102 0 t103) = some r := H
  have A2 := Aside0.mk A20
  clear A20
  have H' := Aside0.mk H
  clear H
  go_enter Try.func10, Try.ntmps10
  go_wp2_with (first | ((with_reducible refine gate_dst (N := 8) rfl ?_); refine box_event ?hg (N := 8) ?hd (cs := #[.slice A0 l0.length c0]) (t := 69) ?hr ?_; (case hd => rfl); (case hg => rfl); (case hr => first | (go_simp; done) | (go_simp; rfl)); intro gb101 hg w3 hbox hb; have n0_ := Aside0.mk (below_step (by repeat (first | (with_reducible first | exact HB.out | apply below_alloc | apply pw_below_drewN | apply below_drew1) | exact HB.out)) hb); have n1_ := Aside0.mk ((⟨_, _, hbox, by rw [hg]; exact (below_size (by repeat (first | (with_reducible first | exact HB.out | apply below_alloc | apply pw_below_drewN | apply below_drew1) | exact HB.out))), HR0.out, HC0.out⟩ : IsS69 w w3 gb101 l0)); clear HB; have HB := n0_; have HI101 := n1_; clear n0_ n1_; clear hb hbox hg) | ((with_reducible refine gate_callee (f := 37) rfl ?_); refine goesL_ (some 10) rfl rfl Try.func37 (by kernel_rfl) rfl #[.pointer (some ⟨gb101, 0, none⟩), .int .i64 8] rfl (by (try simp only [List.map_toArray, List.map_cons, List.map_nil]); first | done | rfl | (simp only [List.length_drop, List.length_take]; rfl)) ?_; (with_reducible refine (mootmake_Stream_Next.calls gb101 l0 8 t102 t103 w _ ?side1 ?side2 A2.out).mono ?_); (case side1 => repeat (first | (with_reducible first | exact HI101.out | apply IsS69.alloc | apply IsS69.drewN | apply IsS69.drew) | exact HI101.out)); (case side2 => repeat (first | (with_reducible first | exact HB.out | apply below_alloc | apply pw_below_drewN | apply below_drew1 | refine below_set ?_ (IsS69.ge HI101.out)) | exact HB.out)); rintro e w4 ⟨rfl, hi, hb, hk⟩; refine ⟨_, rfl, ?_⟩; have n0_ := Aside0.mk (hb); have n1_ := Aside0.mk (hi); clear HB; clear HI101; have HB := n0_; have HI101 := n1_; clear n0_ n1_; (try clear hb); (try clear hb2); (try clear hk); (try clear hi)))
  go_loopg [4, 11] k (fun kq v4 v11 w' => ∃ (x4_1 : List (S35)) (x11_1 : Int) (x102000_1 : List Int), v11 = .int .i64 x11_1 ∧ Aside0 (mootkeep1_spells.l0 kq x4_1 t102 x11_1 x102000_1 = some r) ∧ Aside0 (kq ≤ k) ∧ Aside0 (Kd.R k35 35 w' w.heap.size (fun _ => True) v4 x4_1) ∧ Aside0 (IsS69 w w' gb101 x102000_1) ∧ Aside0 (Below w.heap.size w w'))
  case atStart => exact ⟨(([] : List (S35))), (0), (t103), (by first | rfl | (simp; done) | (simp [*]; done)), H', ⟨Nat.le_refl _⟩, ⟨by first | exact Kd.R_nil _ _ _ _ _ | exact Kd.N_nil _ _ _ _ _ | exact Kd.V_nil _ _ _ _ _ | exact Kd.Q_nil _ _ _ _ _ | exact Kd.S_nil _ _ _ _ _⟩, ⟨by repeat (first | (with_reducible first | exact HI101.out | apply IsS69.alloc | apply IsS69.drewN | apply IsS69.drew) | exact HI101.out)⟩, ⟨by repeat (first | (with_reducible first | exact HB.out | apply below_alloc | apply pw_below_drewN | apply below_drew1 | refine below_set ?_ (IsS69.ge HI101.out)) | exact HB.out)⟩⟩
  case round =>
    clear H'
    try clear c1
    try clear p1
    try clear p2
    try clear c3
    obtain ⟨x4_1, x11_1, x102000_1, rfl, HA, HK1, HO_4, HI101, HB⟩ := hrel
    cases gk with
    | zero => exact absurd HA.out (by simp [mootkeep1_spells.l0])
    | succ k1 =>
      have H := HA.out
      clear HA
      simp only [mootkeep1_spells.l0] at H
      by_cases c5 : x11_1 < t102
      · rw [if_pos c5] at H
        have c5b0 : decide (x11_1 < t102) = true := decide_eq_true c5
        clear c5
        replace H := Option.bind_eq_some_iff.mp H
        obtain ⟨⟨t104, t105⟩, A60, H⟩ := H
        replace H : ((mootmake_Stream_Next.f t105 20).bind fun bt106 => (if x4_1.length < 8796093022208 then (mootkeep1_spells.l0 k1 (x4_1 ++ [(⟨t104, wrap64 (t104 + bt106.1)⟩ : S35)]) t102 (wrap64 (x11_1 + 1)) bt106.2) else (none))) = some r := H
        have A6 := Aside0.mk A60
        clear A60
        replace H := Option.bind_eq_some_iff.mp H
        obtain ⟨⟨t106, t107⟩, A70, H⟩ := H
        replace H : (if x4_1.length < 8796093022208 then (mootkeep1_spells.l0 k1 (x4_1 ++ [(⟨t104, wrap64 (t104 + t106)⟩ : S35)]) t102 (wrap64 (x11_1 + 1)) t107) else (none)) = some r := H
        have A7 := Aside0.mk A70
        clear A70
        by_cases c8 : x4_1.length < 8796093022208
        · rw [if_pos c8] at H
          have LMc8 := Aside0.mk c8
          clear c8
          obtain ⟨y108, hy108⟩ : ∃ y_ : List (S35), y_ = (x4_1 ++ [(⟨t104, wrap64 (t104 + t106)⟩ : S35)]) := ⟨_, rfl⟩
          replace H : (mootkeep1_spells.l0 k1 y108 t102 (wrap64 (x11_1 + 1)) t107) = some r := by first | (rw [hy108]; with_reducible exact H) | (have H2_ := (Option.bind_some _ _).symm.trans H; rw [hy108]; with_reducible exact H2_) | (have H2_ := (Option.bind_some _ _).symm.trans H; with_reducible exact H2_) | with_reducible exact H | (rw [hy108]; exact H) | exact H
          have Ny108 := Aside0.mk hy108
          clear hy108
          have H' := Aside0.mk H
          clear H
          go_wp2_with (first | ((with_reducible refine gate_callee (f := 37) rfl ?_); refine goesL_ (some 14) rfl rfl Try.func37 (by kernel_rfl) rfl #[.pointer (some ⟨gb101, 0, none⟩), .int .i64 100] rfl (by (try simp only [List.map_toArray, List.map_cons, List.map_nil]); first | done | rfl | (simp only [List.length_drop, List.length_take]; rfl)) ?_; (with_reducible refine (mootmake_Stream_Next.calls gb101 x102000_1 100 t104 t105 w _ ?side1 ?side2 A6.out).mono ?_); (case side1 => repeat (first | (with_reducible first | exact HI101.out | apply IsS69.alloc | apply IsS69.drewN | apply IsS69.drew) | exact HI101.out)); (case side2 => repeat (first | (with_reducible first | exact HB.out | apply below_alloc | apply pw_below_drewN | apply below_drew1 | refine below_set ?_ (IsS69.ge HI101.out)) | exact HB.out)); rintro e w9 ⟨rfl, hi, hb, hk⟩; refine ⟨_, rfl, ?_⟩; have n0_ := Aside0.mk (Kd.R_mono (Kd.R_keep (IsS69.apart (show IsS69 w _ gb101 x102000_1 from by repeat (first | (with_reducible first | exact HI101.out | apply IsS69.alloc | apply IsS69.drewN | apply IsS69.drew) | exact HI101.out)) (by (with_reducible repeat (first | apply Kd.R_alloc | apply Kd.R_drewN | apply Kd.R_drew)); exact HO_4.out) (by decide)) hk (fun _ h => h.2)) (fun _ h => h.1)); have n1_ := Aside0.mk (hb); have n2_ := Aside0.mk (hi); clear HO_4; clear HB; clear HI101; have HO_4 := n0_; have HB := n1_; have HI101 := n2_; clear n0_ n1_ n2_; (try clear hb); (try clear hb2); (try clear hk); (try clear hi)) | ((with_reducible refine gate_callee (f := 37) rfl ?_); refine goesL_ (some 19) rfl rfl Try.func37 (by kernel_rfl) rfl #[.pointer (some ⟨gb101, 0, none⟩), .int .i64 20] rfl (by (try simp only [List.map_toArray, List.map_cons, List.map_nil]); first | done | rfl | (simp only [List.length_drop, List.length_take]; rfl)) ?_; (with_reducible refine (mootmake_Stream_Next.calls gb101 t105 20 t106 t107 w _ ?side1 ?side2 A7.out).mono ?_); (case side1 => repeat (first | (with_reducible first | exact HI101.out | apply IsS69.alloc | apply IsS69.drewN | apply IsS69.drew) | exact HI101.out)); (case side2 => repeat (first | (with_reducible first | exact HB.out | apply below_alloc | apply pw_below_drewN | apply below_drew1 | refine below_set ?_ (IsS69.ge HI101.out)) | exact HB.out)); rintro e w10 ⟨rfl, hi, hb, hk⟩; refine ⟨_, rfl, ?_⟩; have n0_ := Aside0.mk (Kd.R_mono (Kd.R_keep (IsS69.apart (show IsS69 w _ gb101 t105 from by repeat (first | (with_reducible first | exact HI101.out | apply IsS69.alloc | apply IsS69.drewN | apply IsS69.drew) | exact HI101.out)) (by (with_reducible repeat (first | apply Kd.R_alloc | apply Kd.R_drewN | apply Kd.R_drew)); exact HO_4.out) (by decide)) hk (fun _ h => h.2)) (fun _ h => h.1)); have n1_ := Aside0.mk (hb); have n2_ := Aside0.mk (hi); clear HO_4; clear HB; clear HI101; have HO_4 := n0_; have HB := n1_; have HI101 := n2_; clear n0_ n1_ n2_; (try clear hb); (try clear hb2); (try clear hk); (try clear hi)) | ((with_reducible refine gate_builtin (b := .append) (xs := #[.tmp 15, .tmp 22]) rfl ?_); at_builtin; refine Kd.R_append k35 (w0 := w) w.heap.size rfl (.tmp 15) (.tmp 22) 23 35 (.agg #[(.int .i64 0), (.int .i64 0)]) 16 rfl Try.underlying23 info35 rfl (by decide) (by omega) u4 x4_1 (⟨t104, wrap64 (t104 + t106)⟩ : S35) [.int .i64 t104, .int .i64 (wrap64 (t104 + t106))] (fun _ => True) (fun _ => False) rfl rfl ?aP (fun _ hk => hk.elim) ?aF ?aO ?aB ?aS ?aL ?_; (case aP => exact k35_mkM _ _ _ (⟨t104, wrap64 (t104 + t106)⟩ : S35)); (case aB => exact (by repeat (first | (with_reducible first | exact HB.out | apply below_alloc | apply pw_below_drewN | apply below_drew1 | refine below_set ?_ (IsS69.ge HI101.out)) | exact HB.out))); (case aF => exact (fun _ _ => trivial)); (case aO => exact (by (with_reducible repeat (first | apply Kd.R_alloc | apply Kd.R_drewN | apply Kd.R_drew)); exact HO_4.out)); (case aS => exact (below_size (by repeat (first | (with_reducible first | exact HB.out | apply below_alloc | apply pw_below_drewN | apply below_drew1 | refine below_set ?_ (IsS69.ge HI101.out)) | exact HB.out)))); (case aL => have := LMc8.out; omega); intro v109 w11 ho hb hg hat; rw [← Ny108.out] at ho; have n0_ := Aside0.mk (IsS69.grown (show IsS69 w _ gb101 t107 from by repeat (first | (with_reducible first | exact HI101.out | apply IsS69.alloc | apply IsS69.drewN | apply IsS69.drew) | exact HI101.out)) hg (IsS69.own_ne HI101.out HO_4.out (by decide))); have n1_ := Aside0.mk (hb); have n2_ := Aside0.mk (ho); clear HI101; clear HB; clear HO_4; have HI101 := n0_; have HB := n1_; have HO110 := n2_; clear n0_ n1_ n2_; clear ho hb hg hat))
          go_roundg k1
          case measure => have := HK1.out; omega
          case rel => exact ⟨(y108), (wrap64 (x11_1 + 1)), (t107), (by first | rfl | (simp; done) | (simp [*]; done)), H', ⟨by have := HK1.out; omega⟩, ⟨by (with_reducible repeat (first | apply Kd.R_alloc | apply Kd.R_drewN | apply Kd.R_drew)); exact HO110.out⟩, ⟨by repeat (first | (with_reducible first | exact HI101.out | apply IsS69.alloc | apply IsS69.drewN | apply IsS69.drew) | exact HI101.out)⟩, ⟨by repeat (first | (with_reducible first | exact HB.out | apply below_alloc | apply pw_below_drewN | apply below_drew1 | refine below_set ?_ (IsS69.ge HI101.out)) | exact HB.out)⟩⟩
        · rw [if_neg c8] at H
          exact absurd H (by simp)
      · rw [if_neg c5] at H
        have c5b0 : decide (x11_1 < t102) = false := decide_eq_false c5
        clear c5
        obtain rfl := Option.some.inj H
        go_wp2
        go_ret
        exact ⟨_, by first | rfl | (simp [errW_none, errW_some] <;> rfl) | (simp [*, errW_none, errW_some] <;> rfl), by (with_reducible repeat (first | apply Kd.R_alloc | apply Kd.R_drewN | apply Kd.R_drew)); exact HO_4.out, by repeat (first | (with_reducible first | exact HB.out | apply below_alloc | apply pw_below_drewN | apply below_drew1 | refine below_set ?_ (IsS69.ge HI101.out)) | exact HB.out)⟩

/-! ### spell_Spell_16: function 16 -/
attribute [local go_sem] eqArr35
def spell_Spell_16.l0 : Nat → List (S35) → List (S35) → Int → Int → Option (Bool)
  | 0, _, _, _, _ => none
  | k + 1, x0, x1, x12, x13 => if x13 < x12 then (if 0 ≤ x13 then (if x13 < (x0.length : Int) then (if x13 < (x1.length : Int) then (if ((rd_T35 x0 x13).f0) = ((rd_T35 x1 x13).f0) then (if ((rd_T35 x0 x13).f1) = ((rd_T35 x1 x13).f1) then (spell_Spell_16.l0 k x0 x1 x12 (wrap64 (x13 + 1))) else (some false)) else (some false)) else (none)) else (none)) else (none)) else (some true)
def spell_Spell_16.f (k : Nat) (l0 : List (S35)) (l1 : List (S35)) : Option (Bool) := if (l0.length : Int) = (l1.length : Int) then (spell_Spell_16.l0 k l0 l1 (l0.length : Int) 0) else (some false)
theorem spell_Spell_16.mono_l : ∀ k, (∀ y0 y1 y2 y3, LeO (spell_Spell_16.l0 k y0 y1 y2 y3) (spell_Spell_16.l0 (k + 1) y0 y1 y2 y3))
  | 0 => fun _ _ _ _ r h => by simp [spell_Spell_16.l0] at h
  | k + 1 => by
    have ih0 := spell_Spell_16.mono_l k
    · intro y0 y1 y2 y3
      unfold spell_Spell_16.l0
      repeat' first
      | (with_reducible exact ih0 _ _ _ _)
      | (with_reducible exact LeO.refl _)
      | (with_reducible exact LeO.none _)
      | (with_reducible refine LeO.ite ?_ ?_)
      | (with_reducible refine LeO.bind ?_ (fun _ => ?_))
      | exact ih0 _ _ _ _
      | exact LeO.none _
      | refine LeO.ite ?_ ?_
      | refine LeO.bind ?_ (fun _ => ?_)
theorem spell_Spell_16.mono : ∀ a0 a1 k, LeO (spell_Spell_16.f k a0 a1) (spell_Spell_16.f (k + 1) a0 a1) := by
  intro a0 a1 k
  have ih0 := spell_Spell_16.mono_l k
  unfold spell_Spell_16.f
  repeat' first
      | (with_reducible exact ih0 _ _ _ _)
      | (with_reducible exact LeO.refl _)
      | (with_reducible exact LeO.none _)
      | (with_reducible refine LeO.ite ?_ ?_)
      | (with_reducible refine LeO.bind ?_ (fun _ => ?_))
      | exact ih0 _ _ _ _
      | exact LeO.none _
      | refine LeO.ite ?_ ?_
      | refine LeO.bind ?_ (fun _ => ?_)
set_option maxHeartbeats 8000000 in
set_option maxRecDepth 100000 in
theorem spell_Spell_16.calls (k : Nat) (A0 : Option Addr) (c0 : Nat) (l0 : List (S35)) (A1 : Option Addr) (c1 : Nat) (l1 : List (S35)) (r : Bool) (w : World) (hr0 : Kd.C k35 w A0 l0.length l0) (hc0 : l0.length ≤ c0) (hr1 : Kd.C k35 w A1 l1.length l1) (hc1 : l1.length ≤ c1) (h : spell_Spell_16.f k l0 l1 = some r) :
    Calls Try.prog 16 #[.slice A0 l0.length c0, .slice A1 l1.length c1] w fun e w' => e = .returned (.bool r) ∧ Drawn0 w w' := by
  have hu35 := Try.underlying35
  have HR0 := Aside0.mk hr0
  have HC0 := Aside0.mk hc0
  clear hr0 hc0
  have HR1 := Aside0.mk hr1
  have HC1 := Aside0.mk hc1
  clear hr1 hc1
  have H : (if (l0.length : Int) = (l1.length : Int) then (spell_Spell_16.l0 k l0 l1 (l0.length : Int) 0) else (some false)) = some r := h
  clear h
  by_cases c3 : (l0.length : Int) = (l1.length : Int)
  · rw [if_pos c3] at H
    have c3b0 : ((l0.length : Int) == (l1.length : Int)) = true := beq_iff_eq.mpr c3
    have c3b1 : ((l0.length : Int) != (l1.length : Int)) = false := bne_eq_false_iff_eq.mpr c3
    have c3b2 : (l0.length == l1.length) = true := by first | simpa using c3 | (simp at c3 ⊢; omega)
    clear c3
    have H' := Aside0.mk H
    clear H
    go_enter Try.func16, Try.ntmps16
    go_wp2
    repeat (go_quiet (fail); try go_wp2)
    go_loopg [13] k (fun kq v13 w' => ∃ (x13_1 : Int), v13 = .int .i64 x13_1 ∧ Aside0 (spell_Spell_16.l0 kq l0 l1 (l0.length : Int) x13_1 = some r) ∧ Aside0 (kq ≤ k) ∧ Drawn0 w w')
    case atStart => exact ⟨(0), (by first | rfl | (simp; done) | (simp [*]; done)), H', ⟨Nat.le_refl _⟩, by repeat (first | exact Drawn0.refl _ | apply Drawn0.step)⟩
    case round =>
      clear H'
      try clear c1
      try clear p2
      try clear c3
      try clear c3b0
      try clear c3b1
      try clear c3b2
      obtain ⟨x13_1, rfl, HA, HK1, ⟨m1, rfl⟩⟩ := hrel
      cases gk with
      | zero => exact absurd HA.out (by simp [spell_Spell_16.l0])
      | succ k1 =>
        have H := HA.out
        clear HA
        simp only [spell_Spell_16.l0] at H
        by_cases c4 : x13_1 < (l0.length : Int)
        · rw [if_pos c4] at H
          have c4b0 : decide (x13_1 < (l0.length : Int)) = true := decide_eq_true c4
          clear c4
          by_cases c5 : 0 ≤ x13_1
          · rw [if_pos c5] at H
            have c5b0 : decide (0 ≤ x13_1) = true := decide_eq_true c5
            clear c5
            by_cases c6 : x13_1 < (l0.length : Int)
            · rw [if_pos c6] at H
              have c6b0 : decide (x13_1 < (l0.length : Int)) = true := decide_eq_true c6
              clear c6
              by_cases c7 : x13_1 < (l1.length : Int)
              · rw [if_pos c7] at H
                have c7b0 : decide (x13_1 < (l1.length : Int)) = true := decide_eq_true c7
                clear c7
                by_cases c8 : ((rd_T35 l0 x13_1).f0) = ((rd_T35 l1 x13_1).f0)
                · rw [if_pos c8] at H
                  have c8b0 : (((rd_T35 l0 x13_1).f0) == ((rd_T35 l1 x13_1).f0)) = true := beq_iff_eq.mpr c8
                  have c8b1 : (((rd_T35 l0 x13_1).f0) != ((rd_T35 l1 x13_1).f0)) = false := bne_eq_false_iff_eq.mpr c8
                  clear c8
                  by_cases c9 : ((rd_T35 l0 x13_1).f1) = ((rd_T35 l1 x13_1).f1)
                  · rw [if_pos c9] at H
                    have c9b0 : (((rd_T35 l0 x13_1).f1) == ((rd_T35 l1 x13_1).f1)) = true := beq_iff_eq.mpr c9
                    have c9b1 : (((rd_T35 l0 x13_1).f1) != ((rd_T35 l1 x13_1).f1)) = false := bne_eq_false_iff_eq.mpr c9
                    clear c9
                    have H' := Aside0.mk H
                    clear H
                    have p111 : 0 ≤ (x13_1 : Int) := of_decide_eq_true (by first | (with_reducible assumption) | assumption)
                    have q111 : x13_1 < (l0.length : Int) := of_decide_eq_true (by first | (with_reducible assumption) | assumption)
                    obtain ⟨ad111, e111, hx111_0, hx111_1⟩ := at_T35 HR0.out x13_1 p111 q111
                    cases e111
                    replace p111 := eq_true p111
                    replace q111 := eq_true q111
                    have p112 : 0 ≤ (x13_1 : Int) := of_decide_eq_true (by first | (with_reducible assumption) | assumption)
                    have q112 : x13_1 < (l1.length : Int) := of_decide_eq_true (by first | (with_reducible assumption) | assumption)
                    obtain ⟨ad112, e112, hx112_0, hx112_1⟩ := at_T35 HR1.out x13_1 p112 q112
                    cases e112
                    replace p112 := eq_true p112
                    replace q112 := eq_true q112
                    go_wp2
                    repeat (go_quiet (fail); try go_wp2)
                    go_roundg k1
                    case measure => have := HK1.out; omega
                    case rel => exact ⟨(wrap64 (x13_1 + 1)), (by first | rfl | (simp; done) | (simp [*]; done)), H', ⟨by have := HK1.out; omega⟩, by repeat (first | exact Drawn0.refl _ | apply Drawn0.step)⟩
                  · rw [if_neg c9] at H
                    have c9b0 : (((rd_T35 l0 x13_1).f1) == ((rd_T35 l1 x13_1).f1)) = false := beq_eq_false_iff_ne.mpr c9
                    have c9b1 : (((rd_T35 l0 x13_1).f1) != ((rd_T35 l1 x13_1).f1)) = true := bne_iff_ne.mpr c9
                    obtain rfl := Option.some.inj H
                    have p111 : 0 ≤ (x13_1 : Int) := of_decide_eq_true (by first | (with_reducible assumption) | assumption)
                    have q111 : x13_1 < (l0.length : Int) := of_decide_eq_true (by first | (with_reducible assumption) | assumption)
                    obtain ⟨ad111, e111, hx111_0, hx111_1⟩ := at_T35 HR0.out x13_1 p111 q111
                    cases e111
                    replace p111 := eq_true p111
                    replace q111 := eq_true q111
                    have p112 : 0 ≤ (x13_1 : Int) := of_decide_eq_true (by first | (with_reducible assumption) | assumption)
                    have q112 : x13_1 < (l1.length : Int) := of_decide_eq_true (by first | (with_reducible assumption) | assumption)
                    obtain ⟨ad112, e112, hx112_0, hx112_1⟩ := at_T35 HR1.out x13_1 p112 q112
                    cases e112
                    replace p112 := eq_true p112
                    replace q112 := eq_true q112
                    go_wp2
                    repeat (go_quiet (fail); try go_wp2)
                    go_ret
                    exact ⟨by first | rfl | (simp; done) | (simp [*]; done), by repeat (first | exact Drawn0.refl _ | apply Drawn0.step)⟩
                · rw [if_neg c8] at H
                  have c8b0 : (((rd_T35 l0 x13_1).f0) == ((rd_T35 l1 x13_1).f0)) = false := beq_eq_false_iff_ne.mpr c8
                  have c8b1 : (((rd_T35 l0 x13_1).f0) != ((rd_T35 l1 x13_1).f0)) = true := bne_iff_ne.mpr c8
                  obtain rfl := Option.some.inj H
                  have p111 : 0 ≤ (x13_1 : Int) := of_decide_eq_true (by first | (with_reducible assumption) | assumption)
                  have q111 : x13_1 < (l0.length : Int) := of_decide_eq_true (by first | (with_reducible assumption) | assumption)
                  obtain ⟨ad111, e111, hx111_0, hx111_1⟩ := at_T35 HR0.out x13_1 p111 q111
                  cases e111
                  replace p111 := eq_true p111
                  replace q111 := eq_true q111
                  have p112 : 0 ≤ (x13_1 : Int) := of_decide_eq_true (by first | (with_reducible assumption) | assumption)
                  have q112 : x13_1 < (l1.length : Int) := of_decide_eq_true (by first | (with_reducible assumption) | assumption)
                  obtain ⟨ad112, e112, hx112_0, hx112_1⟩ := at_T35 HR1.out x13_1 p112 q112
                  cases e112
                  replace p112 := eq_true p112
                  replace q112 := eq_true q112
                  go_wp2
                  repeat (go_quiet (fail); try go_wp2)
                  go_ret
                  exact ⟨by first | rfl | (simp; done) | (simp [*]; done), by repeat (first | exact Drawn0.refl _ | apply Drawn0.step)⟩
              · rw [if_neg c7] at H
                exact absurd H (by simp)
            · rw [if_neg c6] at H
              exact absurd H (by simp)
          · rw [if_neg c5] at H
            exact absurd H (by simp)
        · rw [if_neg c4] at H
          have c4b0 : decide (x13_1 < (l0.length : Int)) = false := decide_eq_false c4
          clear c4
          obtain rfl := Option.some.inj H
          go_wp2
          repeat (go_quiet (fail); try go_wp2)
          go_ret
          exact ⟨by first | rfl | (simp; done) | (simp [*]; done), by repeat (first | exact Drawn0.refl _ | apply Drawn0.step)⟩
  · rw [if_neg c3] at H
    have c3b0 : ((l0.length : Int) == (l1.length : Int)) = false := beq_eq_false_iff_ne.mpr c3
    have c3b1 : ((l0.length : Int) != (l1.length : Int)) = true := bne_iff_ne.mpr c3
    have c3b2 : (l0.length == l1.length) = false := by first | simpa using c3 | (simp at c3 ⊢; omega)
    obtain rfl := Option.some.inj H
    go_enter Try.func16, Try.ntmps16
    go_wp2
    repeat (go_quiet (fail); try go_wp2)
    go_ret
    exact ⟨by first | rfl | (simp; done) | (simp [*]; done), by repeat (first | exact Drawn0.refl _ | apply Drawn0.step)⟩

/-! ### spell_fit: function 41 (by hand) -/

/-- a number brought into the range of dates -/
def spell_fit.lm (n : Int) : Int := mx 0 (mn n 1048576)
def spell_fit.f (a0_0 : Int) (a0_1 : Int) : Option (Int × Int) := some (spell_fit.lm a0_0, spell_fit.lm a0_1)
theorem spell_fit.ix0 (g : Nat) (w : World) : (Instr.indexAt 35 (.pointer (some ⟨g, 0, none⟩)) (.int .i64 0)).run Try.prog w = .ok (.pointer (some ⟨g, 0, none⟩)) w := by kernel_rfl
theorem spell_fit.ix1 (g : Nat) (w : World) : (Instr.indexAt 35 (.pointer (some ⟨g, 0, none⟩)) (.int .i64 1)).run Try.prog w = .ok (.pointer (some ⟨g, 1, none⟩)) w := by kernel_rfl
/-- A call in a region that draws its order, of a function value that lies in a place. -/
theorem spell_fit.goesT_ {P : Program} {ops : Array Oper} {Q : Exit → Act → World → Prop} {oi : Oper} {N : Option Tmp} {a : Act} {w : World} {K : Act → World → Prop} {f : FuncId} {fn : Func} {c : Operand} {xs : Array Operand} {ts : Array TypeId} {cap : Array Value} (hf : P.funcs[f]? = some fn) (hname : (fn.name == "runtime.NumGoroutine") = false) (hb : fn.body.isSome = true) (args : Array Value)
    (hw : Region.wanted oi (yielded ops a.tmps) = true) (hN : oi.dst = N) (hop : oi.op = .call { callee := .value c, args := xs, argTypes := ts }) (hc : a.eval c = .func (.func f) #[] cap) (hargs : xs.map a.eval ++ cap = args)
    (h : Calls P f args w fun e w' => ∃ v, e = .returned v ∧ K (a.put N v) w') : if Region.wanted oi (yielded ops a.tmps) = true then Oper.wp P oi a w K Q else K (a.put N undef) w := by
  refine call_ f args hw hN ?_ h
  have he := enters_ hf hname hb args w
  unfold execOp
  simp [hop, resolve, Deferred.ofValue, invoke, hc, hargs, he]
theorem spell_fit.lim (n : Int) (w : World) : Calls Try.prog 61 #[.int .i64 n] w fun e w' => e = .returned (.int .i64 (spell_fit.lm n)) ∧ Below w.heap.size w w' := by
  unfold spell_fit.lm
  have HB := Aside0.mk (Below.refl w.heap.size w)
  obtain ⟨ji2, hji2⟩ : ∃ j_ : Int, (mn n 1048576) = j_ := ⟨_, rfl⟩
  have hji2_ : (if 1048576 < n then 1048576 else n) = ji2 := hji2
  rw [hji2]
  obtain ⟨ji3, hji3⟩ : ∃ j_ : Int, (mx 0 ji2) = j_ := ⟨_, rfl⟩
  have hji3_ : (if 0 < ji2 then ji2 else 0) = ji3 := hji3
  rw [hji3]
  go_enter Try.func61, Try.ntmps61
  go_wp2
  go_ret
  exact ⟨by first | rfl | (simp; done) | (simp [*]; done), (by repeat (first | (with_reducible first | exact HB.out | apply below_alloc | apply pw_below_drewN | apply below_drew1) | exact HB.out))⟩
set_option maxHeartbeats 8000000 in
set_option maxRecDepth 100000 in
theorem spell_fit.fit (s0_ s1_ : Int) (w : World) : Calls Try.prog 41 #[.agg #[.int .i64 (s0_), .int .i64 (s1_)]] w fun e w' => e = .returned (.agg #[.int .i64 (spell_fit.lm s0_), .int .i64 (spell_fit.lm s1_)]) ∧ Below w.heap.size w w' := by
  have hu35 := Try.underlying35
  have hix0 := spell_fit.ix0
  have hix1 := spell_fit.ix1
  have HB := Aside0.mk (Below.refl w.heap.size w)
  go_enter Try.func41, Try.ntmps41
  go_wp2_with (first | ((with_reducible refine gate_dst (N := 1) rfl ?_); refine box_event ?hg (N := 1) ?hd (cs := #[.int .i64 (s0_), .int .i64 (s1_)]) (t := 35) ?hr ?_; (case hd => rfl); (case hg => rfl); (case hr => first | (go_simp; done) | (go_simp; rfl)); intro gb1 hg w3 hbox hb; have n0_ := Aside0.mk (below_step (by repeat (first | (with_reducible first | exact HB.out | apply below_alloc | apply pw_below_drewN | apply below_drew1) | exact HB.out)) hb); have n1_ := Aside0.mk (hbox); have n3_ := Aside0.mk ((by rw [hg]; exact (below_size (by repeat (first | (with_reducible first | exact HB.out | apply below_alloc | apply pw_below_drewN | apply below_drew1) | exact HB.out)))) : w.heap.size ≤ gb1); clear HB; have HB := n0_; have BK1 := n1_; have GE1 := n3_; clear n0_ n1_ n3_; clear hb hbox hg) | ((with_reducible refine gate_dst (N := 2) rfl ?_); refine box_event ?hg (N := 2) ?hd (cs := #[.int .i64 (0), .int .i64 (0)]) (t := 35) ?hr ?_; (case hd => rfl); (case hg => rfl); (case hr => first | (go_simp; done) | (go_simp; rfl)); intro gb2 hg w4 hbox hb; have n0_ := Aside0.mk (below_step (by repeat (first | (with_reducible first | exact HB.out | apply below_alloc | apply pw_below_drewN | apply below_drew1) | exact HB.out)) hb); have n1_ := Aside0.mk (hbox); have n2_ := Aside0.mk (blk_below (g := gb1) (o := .cells #[.int .i64 (s0_), .int .i64 (s1_)] 35 (0, 0)) (by (with_reducible repeat (first | refine blk_drewN ?_ _ | refine blk_drew ?_ | refine blk_alloc ?_ _)); exact BK1.out) hb); have n3_ := Aside0.mk ((by rw [hg]; exact (below_size (by repeat (first | (with_reducible first | exact HB.out | apply below_alloc | apply pw_below_drewN | apply below_drew1) | exact HB.out)))) : w.heap.size ≤ gb2); clear HB BK1; have HB := n0_; have BK2 := n1_; have BK1 := n2_; have GE2 := n3_; clear n0_ n1_ n2_ n3_; clear hb hbox hg))
  have n0_ := Aside0.mk (blk_drew BK1.out)
  have n1_ := Aside0.mk (blk_drew BK2.out)
  have n2_ := Aside0.mk (below_drew1 HB.out)
  clear BK1 BK2 HB
  have BK1 := n0_
  have BK2 := n1_
  have HB := n2_
  clear n0_ n1_ n2_
  refine start_ (n := 10) (S := fun w' => w'.cell? ⟨gb1, 0, none⟩ = some (.int .i64 s0_) ∧ w'.cell? ⟨gb1, 1, none⟩ = some (.int .i64 s1_)) (ds := [9]) #[false, false, false, false, false, false, false, false, false, false] (by kernel_rfl) rfl rfl ⟨(blk_cell BK1.out 0).trans rfl, (blk_cell BK1.out 1).trans rfl⟩ (fun hHeld => ?_)
  refine pure_ (i := 0) (N := some 4) (v := ?_) (a' := ?_) #[true, false, false, false, false, false, false, false, false, false] rfl rfl (by kernel_rfl) (fun _ _ _ h => h) (Or.inl ⟨by rfl, ?_⟩) ?_ ?_
  rotate_left
  · intro w'
    go_simp
    with_reducible rfl
  rotate_left
  · simp only [Act.put, List.setIfInBounds_toArray, List.set_cons_zero, List.set_cons_succ, i64_w, i32_w]
    rfl
  refine pure_ (i := 1) (N := some 5) (v := ?_) (a' := ?_) #[true, true, false, false, false, false, false, false, false, false] rfl rfl (by kernel_rfl) (fun _ _ _ h => h) (Or.inl ⟨by rfl, ?_⟩) ?_ ?_
  rotate_left
  · intro w'
    go_simp
    with_reducible rfl
  rotate_left
  · simp only [Act.put, List.setIfInBounds_toArray, List.set_cons_zero, List.set_cons_succ, i64_w, i32_w]
    rfl
  refine pure_ (i := 4) (N := some 8) (v := ?_) (a' := ?_) #[true, true, false, false, true, false, false, false, false, false] rfl rfl (by kernel_rfl) (fun _ _ _ h => h) (Or.inl ⟨by rfl, ?_⟩) ?_ ?_
  rotate_left
  · intro w'
    go_simp
    with_reducible rfl
  rotate_left
  · simp only [Act.put, List.setIfInBounds_toArray, List.set_cons_zero, List.set_cons_succ, i64_w, i32_w]
    rfl
  refine pure_ (i := 5) (N := some 9) (v := ?_) (a' := ?_) #[true, true, false, false, true, true, false, false, false, false] rfl rfl (by kernel_rfl) (fun _ _ _ h => h) (Or.inl ⟨by rfl, ?_⟩) ?_ ?_
  rotate_left
  · intro w'
    go_simp
    with_reducible rfl
  rotate_left
  · simp only [Act.put, List.setIfInBounds_toArray, List.set_cons_zero, List.set_cons_succ, i64_w, i32_w]
    rfl
  refine take_ (i := 2) (N := some 6) (v := ?_) (a' := ?_) #[true, true, true, false, true, true, false, false, false, false] rfl rfl (by kernel_rfl) (fun _ _ _ h => h) (Or.inl ⟨by rfl, ?_⟩) hHeld ?_ ?_
  rotate_left
  · rintro w' ⟨s0, s1⟩
    go_simp
    with_reducible rfl
  rotate_left
  · simp only [Act.put, List.setIfInBounds_toArray, List.set_cons_zero, List.set_cons_succ, i64_w, i32_w]
    rfl
  refine take_ (i := 6) (N := some 10) (v := ?_) (a' := ?_) #[true, true, true, false, true, true, true, false, false, false] rfl rfl (by kernel_rfl) (fun _ _ _ h => h) (Or.inl ⟨by rfl, ?_⟩) hHeld ?_ ?_
  rotate_left
  · rintro w' ⟨s0, s1⟩
    go_simp
    with_reducible rfl
  rotate_left
  · simp only [Act.put, List.setIfInBounds_toArray, List.set_cons_zero, List.set_cons_succ, i64_w, i32_w]
    rfl
  refine one_ (i := 3) (N := some 7) #[true, true, true, true, true, true, true, false, false, false] rfl rfl (by kernel_rfl) (by decide) (fun K hK => ?_)
  refine spell_fit.goesT_ Try.func61 (by kernel_rfl) rfl #[.int .i64 s0_] (by rfl) rfl rfl rfl (by (try simp only [List.map_toArray, List.map_cons, List.map_nil, List.append_toArray, List.cons_append, List.nil_append]); first | done | rfl) ?_
  with_reducible refine (spell_fit.lim s0_ _).mono ?_
  rintro e w6 ⟨rfl, hb⟩
  refine ⟨_, rfl, ?_⟩
  have n0_ := Aside0.mk (blk_below (g := gb1) (o := .cells #[.int .i64 (s0_), .int .i64 (s1_)] 35 (0, 0)) (by (with_reducible repeat (first | refine blk_drewN ?_ _ | refine blk_drew ?_ | refine blk_alloc ?_ _)); exact BK1.out) hb)
  have n1_ := Aside0.mk (blk_below (g := gb2) (o := .cells #[.int .i64 (0), .int .i64 (0)] 35 (0, 0)) (by (with_reducible repeat (first | refine blk_drewN ?_ _ | refine blk_drew ?_ | refine blk_alloc ?_ _)); exact BK2.out) hb)
  have n2_ := Aside0.mk (below_step (by repeat (first | (with_reducible first | exact HB.out | apply below_alloc | apply pw_below_drewN | apply below_drew1) | exact HB.out)) hb)
  clear BK1 BK2 HB
  have BK1 := n0_
  have BK2 := n1_
  have HB := n2_
  clear n0_ n1_ n2_ hb
  refine hK.out _ _ ⟨(blk_cell BK1.out 0).trans rfl, (blk_cell BK1.out 1).trans rfl⟩ (fun hHeld => ?_)
  clear hK K
  refine norm_ (a' := ?_) ?_ ?_
  rotate_left
  · show Act.put _ (some 7) _ = _
    simp only [Act.put, List.setIfInBounds_toArray, List.set_cons_zero, List.set_cons_succ, i64_w, i32_w]
    rfl
  refine one_ (i := 7) (N := some 11) #[true, true, true, true, true, true, true, true, false, false] rfl rfl (by kernel_rfl) (by decide) (fun K hK => ?_)
  refine spell_fit.goesT_ Try.func61 (by kernel_rfl) rfl #[.int .i64 s1_] (by rfl) rfl rfl rfl (by (try simp only [List.map_toArray, List.map_cons, List.map_nil, List.append_toArray, List.cons_append, List.nil_append]); first | done | rfl) ?_
  with_reducible refine (spell_fit.lim s1_ _).mono ?_
  rintro e w8 ⟨rfl, hb⟩
  refine ⟨_, rfl, ?_⟩
  have n0_ := Aside0.mk (blk_below (g := gb1) (o := .cells #[.int .i64 (s0_), .int .i64 (s1_)] 35 (0, 0)) (by (with_reducible repeat (first | refine blk_drewN ?_ _ | refine blk_drew ?_ | refine blk_alloc ?_ _)); exact BK1.out) hb)
  have n1_ := Aside0.mk (blk_below (g := gb2) (o := .cells #[.int .i64 (0), .int .i64 (0)] 35 (0, 0)) (by (with_reducible repeat (first | refine blk_drewN ?_ _ | refine blk_drew ?_ | refine blk_alloc ?_ _)); exact BK2.out) hb)
  have n2_ := Aside0.mk (below_step (by repeat (first | (with_reducible first | exact HB.out | apply below_alloc | apply pw_below_drewN | apply below_drew1) | exact HB.out)) hb)
  clear BK1 BK2 HB
  have BK1 := n0_
  have BK2 := n1_
  have HB := n2_
  clear n0_ n1_ n2_ hb
  refine hK.out _ _ ⟨(blk_cell BK1.out 0).trans rfl, (blk_cell BK1.out 1).trans rfl⟩ (fun hHeld => ?_)
  clear hK K
  refine norm_ (a' := ?_) ?_ ?_
  rotate_left
  · show Act.put _ (some 11) _ = _
    simp only [Act.put, List.setIfInBounds_toArray, List.set_cons_zero, List.set_cons_succ, i64_w, i32_w]
    rfl
  refine pure_ (i := 8) (N := some 12) (v := ?_) (a' := ?_) #[true, true, true, true, true, true, true, true, true, false] rfl rfl (by kernel_rfl) (fun _ _ _ h => h) (Or.inl ⟨by rfl, ?_⟩) ?_ ?_
  rotate_left
  · intro w'
    go_simp
    with_reducible rfl
  rotate_left
  · simp only [Act.put, List.setIfInBounds_toArray, List.set_cons_zero, List.set_cons_succ, i64_w, i32_w]
    rfl
  refine last_ (i := 9) (N := none) #[true, true, true, true, true, true, true, true, true, true] rfl rfl (by kernel_rfl) (by decide) (fun K hK => ?_)
  have hs0 : w8.cell? ⟨gb2, 0, none⟩ = some (.int .i64 0) := (blk_cell BK2.out 0).trans rfl
  have hf0 := blk_frozen BK2.out 0
  have hs1 : w8.cell? ⟨gb2, 1, none⟩ = some (.int .i64 0) := (blk_cell BK2.out 1).trans rfl
  have hf1 := blk_frozen BK2.out 1
  refine skip_ (w1 := ?_) (by rfl) rfl ?_ ?_
  rotate_left
  · go_simp
    rfl
  refine hK.out _ _ ?_
  clear hK K
  refine done_ (by kernel_rfl) ?_

  clear hHeld
  go_wp2
  refine bodyPost_ret (results_cell_row rfl _ _ gb2 35 #[.int .i64 (spell_fit.lm s0_), .int .i64 (spell_fit.lm s1_)] (0, 0) _ rfl (by refine blk_put (cs := #[.int .i64 (spell_fit.lm s0_), .int .i64 (0)]) ?_ 1 _ rfl; refine blk_put (cs := #[.int .i64 (0), .int .i64 (0)]) ?_ 0 _ rfl; exact BK2.out) Try.underlying35 rfl (by kernel_rfl)) rfl ?_
  exact ⟨rfl, (by repeat (first | (with_reducible first | exact HB.out | apply below_alloc | apply pw_below_drewN | apply below_drew1 | refine below_set ?_ GE1.out | refine below_set ?_ GE2.out) | exact HB.out))⟩
theorem spell_fit.calls (a0_0 : Int) (a0_1 : Int) (r1 : Int) (r2 : Int) (w : World) (h : spell_fit.f a0_0 a0_1 = some (r1, r2)) :
    Calls Try.prog 41 #[.agg #[.int .i64 a0_0, .int .i64 a0_1]] w fun e w' => e = .returned (.agg #[.int .i64 r1, .int .i64 r2]) ∧ Below w.heap.size w w' := by
  have e := Option.some.inj h
  obtain ⟨rfl, rfl⟩ := Prod.mk.inj e
  exact spell_fit.fit a0_0 a0_1 w

/-! ### spell_Sort: function 58 (by hand) -/

def spell_Sort.lm (n : Int) : Int := mx 0 (mn n 1048576)
instance spell_Sort.inh : Inhabited (S35) := ⟨z35⟩
def spell_Sort.nz (s : S35) : S35 := ⟨spell_Sort.lm s.f0, s.f1⟩
def spell_Sort.cf (x y : S35) : Int := spell_Sort.lm x.f0 - spell_Sort.lm y.f0
def spell_Sort.srt (l : List (S35)) : List (S35) := (Sort.pdq (ltOf spell_Sort.cf) l.toArray 0 l.length (Lib.bitLen l.length) true true).toList.map spell_Sort.nz
def spell_Sort.f (l0 : List (S35)) : Option (List (S35)) := if l0.length = 0 then some [] else if l0.length ≤ 1000000 ∧ (l0.all fun s => decide (spell_Sort.lm s.f0 = s.f0)) = true then some (spell_Sort.srt l0) else none
def spell_Sort.ren : Go.Shelf.Ren := ⟨fun | 6 => 58 | 15 => 65 | 14 => 70 | 28 => 80 | 29 => 81 | 20 => 83 | 21 => 84 | 22 => 85 | 23 => 86 | 24 => 87 | 25 => 88 | 26 => 89 | 27 => 90 | 46 => 97 | 47 => 92 | 48 => 93 | 49 => 98 | 50 => 99 | 57 => 101 | n => n, fun | 22 => 23 | 24 => 35 | 25 => 91 | 3 => 3 | 39 => 98 | 0 => 0 | 53 => 114 | 55 => 116 | 4 => 4 | 46 => 107 | 45 => 106 | 50 => 111 | 5 => 5 | 9 => 9 | 66 => 123 | 70 => 127 | 76 => 131 | 77 => 99 | n => n, fun | n => n⟩
theorem spell_Sort.lays : Go.Proofs.SlLaysF0.n6 Try.prog spell_Sort.ren := {
  mixed := by kernel_rfl
  f6 := ⟨Try.f58.name, by decide, Try.func58.trans (congrArg some (by kernel_rfl))⟩
  f14 := ⟨Try.f70.name, by decide, Try.func70.trans (congrArg some (by kernel_rfl))⟩
  f15 := Try.func65.trans (congrArg some (by kernel_rfl))
  f20 := ⟨Try.f83.name, by decide, Try.func83.trans (congrArg some (by kernel_rfl))⟩
  f21 := ⟨Try.f84.name, by decide, Try.func84.trans (congrArg some (by kernel_rfl))⟩
  f22 := ⟨Try.f85.name, by decide, Try.func85.trans (congrArg some (by kernel_rfl))⟩
  f23 := ⟨Try.f86.name, by decide, Try.func86.trans (congrArg some (by kernel_rfl))⟩
  f24 := ⟨Try.f87.name, by decide, Try.func87.trans (congrArg some (by kernel_rfl))⟩
  f25 := ⟨Try.f88.name, by decide, Try.func88.trans (congrArg some (by kernel_rfl))⟩
  f26 := ⟨Try.f89.name, by decide, Try.func89.trans (congrArg some (by kernel_rfl))⟩
  f27 := ⟨Try.f90.name, by decide, Try.func90.trans (congrArg some (by kernel_rfl))⟩
  f28 := Try.func80.trans (congrArg some (by kernel_rfl))
  f29 := Try.func81.trans (congrArg some (by kernel_rfl))
  f46 := ⟨Try.f97.name, by decide, Try.func97.trans (congrArg some (by kernel_rfl))⟩
  f47 := Try.func92.trans (congrArg some (by kernel_rfl))
  f48 := Try.func93.trans (congrArg some (by kernel_rfl))
  f49 := ⟨Try.f98.name, by decide, Try.func98.trans (congrArg some (by kernel_rfl))⟩
  f50 := ⟨Try.f99.name, by decide, Try.func99.trans (congrArg some (by kernel_rfl))⟩
  f57 := ⟨Try.f101.name, by decide, Try.func101.trans (congrArg some (by kernel_rfl))⟩
  t0 := Try.underlying0
  a0 := Try.isAgg0
  z0 := Try.sizeOf0
  v0 := Try.zeroValue0
  t3 := Try.underlying3
  a3 := Try.isAgg3
  z3 := Try.sizeOf3
  v3 := Try.zeroValue3
  t4 := Try.underlying4
  a4 := Try.isAgg4
  z4 := Try.sizeOf4
  v4 := Try.zeroValue4
  t5 := Try.underlying5
  a5 := Try.isAgg5
  z5 := Try.sizeOf5
  v5 := Try.zeroValue5
  t9 := Try.underlying9
  a9 := Try.isAgg9
  z9 := Try.sizeOf9
  v9 := Try.zeroValue9
  t22 := Try.underlying23
  a22 := Try.isAgg23
  z22 := Try.sizeOf23
  v22 := Try.zeroValue23
  t25 := Try.underlying91
  a25 := Try.isAgg91
  z25 := Try.sizeOf91
  v25 := Try.zeroValue91
  t39 := Try.underlying98
  a39 := Try.isAgg98
  z39 := Try.sizeOf98
  v39 := Try.zeroValue98
  t45 := Try.underlying106
  a45 := Try.isAgg106
  z45 := Try.sizeOf106
  v45 := Try.zeroValue106
  t46 := Try.underlying107
  a46 := Try.isAgg107
  z46 := Try.sizeOf107
  v46 := Try.zeroValue107
  t50 := Try.underlying111
  a50 := Try.isAgg111
  z50 := Try.sizeOf111
  v50 := Try.zeroValue111
  t53 := Try.underlying114
  a53 := Try.isAgg114
  z53 := Try.sizeOf114
  v53 := Try.zeroValue114
  t55 := Try.underlying116
  a55 := Try.isAgg116
  z55 := Try.sizeOf116
  v55 := Try.zeroValue116
  t66 := Try.underlying123
  a66 := Try.isAgg123
  z66 := Try.sizeOf123
  v66 := Try.zeroValue123
  t70 := Try.underlying127
  a70 := Try.isAgg127
  z70 := Try.sizeOf127
  v70 := Try.zeroValue127
  t76 := Try.underlying131
  a76 := Try.isAgg131
  z76 := Try.sizeOf131
  v76 := Try.zeroValue131
  t77 := Try.underlying99
  a77 := Try.isAgg99
  z77 := Try.sizeOf99
  v77 := Try.zeroValue99 }
theorem spell_Sort.lm_id (n : Int) : spell_Sort.lm (spell_Sort.lm n) = spell_Sort.lm n := by unfold spell_Sort.lm mx mn; (repeat' split) <;> omega
theorem spell_Sort.lm_range (n : Int) : 0 ≤ spell_Sort.lm n ∧ spell_Sort.lm n ≤ 1048576 := by unfold spell_Sort.lm mx mn; (repeat' split) <;> omega
def spell_Sort.enc (s : S35) : List Value := [.int .i64 (spell_Sort.lm s.f0), .int .i64 s.f1]
theorem spell_Sort.swo : Sort.SWO (ltOf spell_Sort.cf) where
  irrefl x := by unfold ltOf spell_Sort.cf; simp
  trans x y z h1 h2 := by unfold ltOf spell_Sort.cf at *; simp at *; omega
  ntrans x y z h1 h2 := by unfold ltOf spell_Sort.cf at *; simp at *; omega
set_option maxHeartbeats 8000000 in
set_option maxRecDepth 100000 in
theorem spell_Sort.clo (x y : S35) (W : World) : Calls Try.prog 59 #[.agg #[.int .i64 (spell_Sort.lm x.f0), .int .i64 x.f1], .agg #[.int .i64 (spell_Sort.lm y.f0), .int .i64 y.f1]] W fun e w' => e = .returned (.int .i64 (spell_Sort.cf x y)) ∧ ∃ q os', w' = Sort.grow (W.drewN q) os' := by
  have hx := spell_Sort.lm_range x.f0
  have hy := spell_Sort.lm_range y.f0
  unfold spell_Sort.cf
  generalize spell_Sort.lm x.f0 = p at hx ⊢
  generalize spell_Sort.lm y.f0 = q at hy ⊢
  have hw : wrap64 (p - q) = p - q := by unfold wrap64; omega
  have hix0 : ∀ (g : Nat) (w : World), (Instr.indexAt 35 (.pointer (some ⟨g, 0, none⟩)) (.int .i64 0)).run Try.prog w = .ok (.pointer (some ⟨g, 0, none⟩)) w := fun g w => by kernel_rfl
  clear hx hy
  go_enter Try.func59, Try.ntmps59
  go_wp2
  go_ret
  exact ⟨(by show Ending.returned (.int .i64 (wrap64 (p - q))) = _; rw [hw]), 0, _, by rw [Sort.alloc_eq_grow, Sort.alloc_eq_grow, Sort.grow_grow]; rfl⟩
theorem spell_Sort.sw_g {w : World} {g n : Nat} {os : Array Obj} {cur : Array Value} {e : TypeId} {fr : Nat × Nat} (d : Array Value) (hb : w.heap[g]? = some (.cells cur e fr)) :
    (sortWorld id w g 0 n d os).heap[g]? = some (.cells (Sort.putCells id 0 d cur) e fr) := by
  have hg : g < w.heap.size := (Array.getElem?_eq_some_iff.1 hb).1
  unfold sortWorld
  rw [Sort.heap_grow_old _ _ (by simpa [Sort.putRow, Sort.mapBlock, Sort.ahead] using hg)]
  simp [Sort.putRow, Sort.mapBlock, Sort.ahead, Array.getElem?_modify, hb, Sort.onCells]
theorem spell_Sort.sw_grown {w : World} {g n : Nat} {os : Array Obj} (d : Array Value) : w.grownBy (sortWorld id w g 0 n d os) (some g) := by
  unfold sortWorld
  refine ⟨rfl, rfl, rfl, by simp [Sort.grow, Sort.putRow, Sort.mapBlock, Sort.ahead], fun k hk hne => ?_⟩
  rw [Sort.heap_grow_old _ _ (by simpa [Sort.putRow, Sort.mapBlock, Sort.ahead] using hk)]
  have : g ≠ k := fun e => hne (by rw [e])
  simp [Sort.putRow, Sort.mapBlock, Sort.ahead, Array.getElem?_modify, this]
theorem spell_Sort.put_take (cur : Array Value) (d : Array Value) (h : d.size ≤ cur.size) : (Sort.putCells id 0 d cur).toList.take d.size = d.toList := by
  apply List.ext_getElem?
  intro j
  by_cases hj : j < d.size
  · rw [List.getElem?_take_of_lt hj, Array.getElem?_toList]
    simp [Sort.putCells, hj, show j < cur.size by omega]
  · rw [List.getElem?_take_eq_none (by omega), List.getElem?_eq_none (by simp; omega)]
theorem spell_Sort.flat_size (d : Array (S35)) : (Sort.flatK spell_Sort.enc 2 d).size = d.size * 2 := Sort.size_flatK _ _ _
theorem spell_Sort.flat_at (d : Array (S35)) (j : Nat) (hj : j < d.size) : ((Sort.flatK spell_Sort.enc 2 d).toList.drop (j * 2)).take 2 = spell_Sort.enc d[j] := by
  have h0 : (Sort.flatK spell_Sort.enc 2 d).toList.length = d.size * 2 := by rw [Array.length_toList, spell_Sort.flat_size]
  have g : ∀ t, (ht : t < d.size * 2) → (Sort.flatK spell_Sort.enc 2 d).toList[t]? = some ((spell_Sort.enc d[t / 2]!)[t % 2]!) := by
    intro t ht
    have := Sort.get_flatK spell_Sort.enc 2 d t ht
    rw [Array.getElem?_toList, Array.getElem?_eq_getElem (by rw [spell_Sort.flat_size]; exact ht), ← this, getElem!_pos _ t (by rw [spell_Sort.flat_size]; exact ht)]
  apply List.ext_getElem?
  intro i
  by_cases hi : i < 2
  · rw [List.getElem?_take_of_lt hi, List.getElem?_drop, g (j * 2 + i) (by omega), show (j * 2 + i) / 2 = j by omega, show (j * 2 + i) % 2 = i by omega, getElem!_pos d j hj]
    rcases (show i = 0 ∨ i = 1 by omega) with rfl | rfl <;> rfl
  · rw [List.getElem?_take_eq_none (by omega), List.getElem?_eq_none (by show 2 ≤ i; omega)]
set_option maxHeartbeats 8000000 in
set_option maxRecDepth 100000 in
theorem spell_Sort.calls (P0_ : Nat → Prop) (u9000_ : Value) (l0 : List (S35)) (r : List (S35)) (w0 w : World) (hB : Below w0.heap.size w0 w) (ho0 : Kd.R k35 35 w w0.heap.size P0_ u9000_ l0) (h : spell_Sort.f l0 = some r) :
    Calls Try.prog 58 #[u9000_, .func (.func 59) #[] #[]] w fun e w' => e = .returned (.tuple #[]) ∧ Kd.R k35 35 w' w0.heap.size (fun k_ => (P0_ k_ ∨ w.heap.size ≤ k_)) u9000_ r ∧ Below w0.heap.size w0 w' ∧ Kept w w' (fun k_ => P0_ k_) := by
  unfold spell_Sort.f at h
  by_cases h0 : l0.length = 0
  · rw [if_pos h0] at h
    obtain rfl := Option.some.inj h
    obtain rfl := List.eq_nil_of_length_eq_zero h0
    have hro := Kd.R_mono (ok' := fun k_ => (P0_ k_ ∨ w.heap.size ≤ k_)) ho0 (fun k hk => .inl hk)
    obtain ⟨A, c, rfl⟩ := Kd.R_slice ho0
    refine (AnyF.slices_SortFunc_none spell_Sort.lays A c _ w).mono ?_
    rintro e w' ⟨rfl, rfl⟩
    exact ⟨rfl, hro, hB, Kept.refl _ _⟩
  · rw [if_neg h0] at h
    by_cases hc : l0.length ≤ 1000000 ∧ (l0.all fun s => decide (spell_Sort.lm s.f0 = s.f0)) = true
    · rw [if_pos hc] at h
      obtain rfl := Option.some.inj h
      obtain ⟨hl, hall⟩ := hc
      have hin : ∀ s ∈ l0, spell_Sort.lm s.f0 = s.f0 := fun s hs => of_decide_eq_true (List.all_eq_true.1 hall s hs)
      obtain ⟨hP0, inner, hown, hreps⟩ := ho0
      rcases hown.2 with ⟨_, hn0⟩ | ⟨g, cap, cur, hu, hbase, hb, h1, h2, h3, h4⟩
      · exact absurd hn0 h0
      · subst hu
        have hP : P0_ g := hP0 g rfl
        have hgs : g < w.heap.size := (Array.getElem?_eq_some_iff.1 hb).1
        have h3' : cur.size = cap * 2 := h3
        have h4' : cur.toList.take (l0.length * 2) = inner := h4
        have hkept : ∀ (n : Nat) (d : Array Value) (os : Array Obj), Kept w (sortWorld id w g 0 n d os) (fun k_ => P0_ k_) := fun n d os =>
          ⟨(spell_Sort.sw_grown d).size, fun i hi hn => (spell_Sort.sw_grown d).block i hi (fun e => hn (by rw [Option.some.inj e]; exact hP))⟩
        have hH : Sort.HoldsK spell_Sort.enc 2 w g 0 l0.toArray := by
          intro j hj
          rw [spell_Sort.flat_size] at hj
          have hj' : j < l0.length * 2 := by simpa using hj
          refine ⟨?_, by simp [World.frozen?, hb]⟩
          have hq : j / 2 < l0.length := by omega
          have hm := hreps.2 (j / 2) l0[j / 2] (List.getElem?_eq_getElem hq)
          have hop := k35_openM hm
          have hfl := Sort.get_flatK spell_Sort.enc 2 l0.toArray j hj
          have hz : l0.toArray[j / 2]! = l0[j / 2] := by simp [hq]
          have hlm := hin l0[j / 2] (List.getElem_mem hq)
          have hcell : w.cell? ⟨g, 0 + j, none⟩ = inner[j]? := by
            rw [← h4', List.getElem?_take_of_lt hj', Array.getElem?_toList]
            simp [World.cell?, hb]
          have hget : inner[j]? = ([.int .i64 (l0[j / 2]).f0, .int .i64 (l0[j / 2]).f1] : List Value)[j % 2]? := by
            rw [← hop]
            show inner[j]? = ((inner.drop (j / 2 * 2)).take 2)[j % 2]?
            rw [List.getElem?_take_of_lt (by omega), List.getElem?_drop, show j / 2 * 2 + j % 2 = j by omega]
          rw [hcell, hget, hfl, hz]
          unfold spell_Sort.enc
          rw [hlm]
          rcases (show j % 2 = 0 ∨ j % 2 = 1 by omega) with e | e <;> rw [e] <;> rfl
        have hcmp : CmpLays Try.prog 59 #[] spell_Sort.enc 2 spell_Sort.cf g 0 l0.toArray.size w := fun mm os dk _ x y => spell_Sort.clo x y _
        have C := AnyQ.slices_SortFunc_eq spell_Sort.lays 2 Try.isAgg35 Try.sizeOf35 spell_Sort.enc (fun _ => rfl) (fun x v hv => by simp [spell_Sort.enc] at hv; rcases hv with rfl | rfl <;> rfl) spell_Sort.cf spell_Sort.swo 59 #[] g 0 cap l0.toArray w (fun args w => enters_ Try.func59 (by kernel_rfl) rfl args w) hcmp hH hgs (by simp; omega)
        refine Calls.mono C ?_
        rintro e w' ⟨rfl, n, os, hw⟩
        obtain ⟨dd, hdd⟩ : ∃ dd, dd = Sort.pdq (ltOf spell_Sort.cf) l0.toArray 0 l0.toArray.size (Lib.bitLen l0.toArray.size) true true := ⟨_, rfl⟩
        rw [← hdd] at hw
        have hsz : dd.size = l0.length := by
          have hp := (Sort.pdq_sorts (ltOf spell_Sort.cf) spell_Sort.swo l0.toArray 0 l0.toArray.size (Lib.bitLen l0.toArray.size) true true (Nat.zero_le _) (Nat.le_refl _) (Or.inl rfl)).1.1
          rw [hdd, hp]; simp
        have hr : spell_Sort.srt l0 = dd.toList.map spell_Sort.nz := by rw [hdd]; rfl
        have hw2 : w' = sortWorld id w g 0 n (Sort.flatK spell_Sort.enc 2 dd) os := hw
        subst hw2
        have hlen : (spell_Sort.srt l0).length = l0.length := by rw [hr]; simp [hsz]
        refine ⟨rfl, ⟨fun k hk => .inl (hP0 k hk), (Sort.flatK spell_Sort.enc 2 dd).toList, ?_, ?_⟩, hB.grown (spell_Sort.sw_grown _) hB.size (fun k hk => by cases hk; exact hbase), hkept _ _ _⟩
        · refine ⟨?_, .inr ⟨g, cap, _, by rw [hlen], hbase, spell_Sort.sw_g _ hb, by omega, h2, ?_, ?_⟩⟩
          · rw [hlen]
            show (Sort.flatK spell_Sort.enc 2 dd).toList.length = l0.length * 2
            rw [Array.length_toList, spell_Sort.flat_size, hsz]
          · show _ = cap * 2
            simp [Sort.putCells, h3']
          · rw [hlen]
            show (Sort.putCells id 0 (Sort.flatK spell_Sort.enc 2 dd) cur).toList.take (l0.length * 2) = _
            have := spell_Sort.put_take cur (Sort.flatK spell_Sort.enc 2 dd) (by rw [spell_Sort.flat_size, hsz]; omega)
            rw [spell_Sort.flat_size, hsz] at this
            exact this
        · refine ⟨?_, fun j p hj => ?_⟩
          · rw [hlen]
            show (Sort.flatK spell_Sort.enc 2 dd).toList.length = l0.length * 2
            rw [Array.length_toList, spell_Sort.flat_size, hsz]
          · obtain ⟨hjl, hjp⟩ := List.getElem?_eq_some_iff.1 hj
            have hjd : j < dd.size := by omega
            have hf := spell_Sort.flat_at dd j hjd
            have hp : p = spell_Sort.nz dd[j] := by
              rw [← hjp]
              simp only [hr, List.getElem_map]
              rfl
            show k35.M _ _ _ p (((Sort.flatK spell_Sort.enc 2 dd).toList.drop (j * 2)).take 2)
            rw [hf, hp]
            exact k35_mkM _ _ _ (spell_Sort.nz dd[j])
    · rw [if_neg hc] at h
      cases h

end Go.Proofs.Ytmjlpoohghafnaa.PSpellLaws
