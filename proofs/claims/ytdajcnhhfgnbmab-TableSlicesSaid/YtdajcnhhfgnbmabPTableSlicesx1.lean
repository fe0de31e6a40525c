/- The machine side of a law, written by a program of this session (wip/mp). -/
import Derived.Test.YtdajcnhhfgnbmabPTableSlicesx0
namespace Go.Proofs.Ytdajcnhhfgnbmab.PTableSlices
open Go.RowKit Go.Proofs.YtdajcnhhfgnbmabW.PrintWords Go.Proofs.YtdajcnhhfgnbmabW.PrintLast Go.Proofs.YtdajcnhhfgnbmabW.PrintMore
attribute [local go_sem] max2_int min2_int max_two min_two max_three min_three max_four min_four   -- for this text's walks alone
set_option linter.unusedVariables false
set_option linter.unusedSimpArgs false

attribute [local go_sem] fld54_1
/-! ### mootmake_Below: function 17 -/
def mootmake_Below.f (a0 : Int) (a1 : Int) : Option (Int) := if a1 = 0 then (none) else (if (Int.tmod a0 a1) < 0 then (some (wrap64 ((Int.tmod a0 a1) + a1))) else (some (Int.tmod a0 a1)))
set_option maxHeartbeats 8000000 in
set_option maxRecDepth 100000 in
theorem mootmake_Below.calls (a0 : Int) (a1 : Int) (r : Int) (w : World) (h : mootmake_Below.f a0 a1 = some r) :
    Calls Try.prog 17 #[.int .i64 a0, .int .i64 a1] w fun e w' => e = .returned (.int .i64 r) ∧ Drawn0 w w' := by
  have H : (if a1 = 0 then (none) else (if (Int.tmod a0 a1) < 0 then (some (wrap64 ((Int.tmod a0 a1) + a1))) else (some (Int.tmod a0 a1)))) = some r := h
  clear h
  by_cases c3 : a1 = 0
  · rw [if_pos c3] at H
    exact absurd H (by simp)
  · rw [if_neg c3] at H
    have c3b0 : (a1 == 0) = false := beq_eq_false_iff_ne.mpr c3
    have c3b1 : (a1 != 0) = true := bne_iff_ne.mpr c3
    by_cases c4 : (Int.tmod a0 a1) < 0
    · rw [if_pos c4] at H
      have c4b0 : decide ((Int.tmod a0 a1) < 0) = true := decide_eq_true c4
      clear c4
      obtain rfl := Option.some.inj H
      go_enter Try.func17, Try.ntmps17
      go_wp2
      go_ret
      exact ⟨by first | rfl | (simp; done) | (simp [*]; done), by repeat (first | exact Drawn0.refl _ | apply Drawn0.step)⟩
    · rw [if_neg c4] at H
      have c4b0 : decide ((Int.tmod a0 a1) < 0) = false := decide_eq_false c4
      clear c4
      obtain rfl := Option.some.inj H
      go_enter Try.func17, Try.ntmps17
      go_wp2
      go_ret
      exact ⟨by first | rfl | (simp; done) | (simp [*]; done), by repeat (first | exact Drawn0.refl _ | apply Drawn0.step)⟩

/-! ### mootmake_Stream_Next: function 28 (by hand) -/
/-- A state of type 51 at block g of W; what its slices lead to came in by w0. -/
def IsS51 (w0 W : World) (g : Nat) (f0 : List Int) : Prop := ∃ A0 c0, W.heap[g]? = some (.cells #[.slice A0 f0.length c0] 51 (0, 0)) ∧ w0.heap.size ≤ g ∧ (Kd.C (Kd.int .i64) w0 A0 f0.length f0 ∧ f0.length ≤ c0)
theorem IsS51.grown {w0 W : World} {g : Nat} {f0 : List Int} {W1 : World} {row : Option Nat} (h : IsS51 w0 W g f0) (hw : W.grownBy W1 row) (hne : some g ≠ row) : IsS51 w0 W1 g f0 := by
  obtain ⟨A0, c0, hb, hg, hr0⟩ := h
  exact ⟨A0, c0, blk_grown hb hw hne, hg, hr0⟩
theorem IsS51.own_neN {w0 W : World} {g : Nat} {f0 : List Int} {α : Type} {d : Kd α} {e : Nat} {base : Nat} {ok : Nat → Prop} {v : Value} {xs : List α} (h : IsS51 w0 W g f0) (ho : Kd.N d e W base ok v xs) (ht : e ≠ 51) : some g ≠ v.ownBlock := by
  obtain ⟨A0, c0, hb, hg, hr0⟩ := h
  exact Kd.N_ne ho hb ht
theorem IsS51.fresh {w0 W : World} {g : Nat} {f0 : List Int} (h : IsS51 w0 W g f0) : ∀ k, W.heap.size ≤ k → k ≠ g := by
  obtain ⟨A0, c0, hb, hg, hr0⟩ := h
  exact Kd.freshB hb
theorem IsS51.kept {w0 W : World} {g : Nat} {f0 : List Int} {W1 : World} {S : Nat → Prop} (h : IsS51 w0 W g f0) (hk : Kept W W1 S) (hne : ¬ S g) : IsS51 w0 W1 g f0 := by
  obtain ⟨A0, c0, hb, hg, hr0⟩ := h
  exact ⟨A0, c0, blk_kept hb hk hne, hg, hr0⟩
theorem IsS51.below {w0 W : World} {g : Nat} {f0 : List Int} {W1 : World} (h : IsS51 w0 W g f0) (hw : Below W.heap.size W W1) : IsS51 w0 W1 g f0 := h.grown (grown_of_below hw none) (by simp)
theorem IsS51.alloc {w0 W : World} {g : Nat} {f0 : List Int} (h : IsS51 w0 W g f0) (o : Obj) : IsS51 w0 (W.alloc o) g f0 := h.below (below_alloc (Below.refl _ _) o)
theorem IsS51.drewN {w0 W : World} {g : Nat} {f0 : List Int} (h : IsS51 w0 W g f0) (m : Nat) : IsS51 w0 (W.drewN m) g f0 := h
theorem IsS51.drew {w0 W : World} {g : Nat} {f0 : List Int} (h : IsS51 w0 W g f0) : IsS51 w0 W.drew g f0 := h
theorem IsS51.at_ {w0 W : World} {g : Nat} {f0 : List Int} {w' : World} {m : Nat} (hq : W.drewN m = w') (h : IsS51 w0 W g f0) : IsS51 w0 w' g f0 := by subst hq; exact IsS51.drewN h m
theorem IsS51.apart {w0 W : World} {g : Nat} {f0 : List Int} {α : Type} {d : Kd α} {e : Nat} {base : Nat} {ok : Nat → Prop} {v : Value} {xs : List α} (h : IsS51 w0 W g f0) (ho : d.R e W base ok v xs) (ht : ∀ q, q ∈ e :: d.E → q ≠ 51) : d.R e W base (fun k => ok k ∧ k ≠ g) v xs := by
  obtain ⟨A0, c0, hb, hg, hr0⟩ := h
  exact Kd.R_types ho hb ht
theorem IsS51.own_ne {w0 W : World} {g : Nat} {f0 : List Int} {α : Type} {d : Kd α} {e : Nat} {base : Nat} {ok : Nat → Prop} {v : Value} {xs : List α} (h : IsS51 w0 W g f0) (ho : d.R e W base ok v xs) (ht : e ≠ 51) : some g ≠ v.ownBlock := by
  obtain ⟨A0, c0, hb, hg, hr0⟩ := h
  exact Kd.R_ne ho hb ht
theorem IsS51.apartQ {w0 W : World} {g : Nat} {f0 : List Int} {α : Type} {d : Kd α} {e : Nat} {base : Nat} {ok : Nat → Prop} {v : Value} {xs : List α} (h : IsS51 w0 W g f0) (ho : d.Q e W base ok v xs) (ht : ∀ q, q ∈ e :: d.E → q ≠ 51) : d.Q e W base (fun k => ok k ∧ k ≠ g) v xs := by
  obtain ⟨A0, c0, hb, hg, hr0⟩ := h
  exact Kd.Q_types ho hb ht
theorem IsS51.own_neQ {w0 W : World} {g : Nat} {f0 : List Int} {α : Type} {d : Kd α} {e : Nat} {base : Nat} {ok : Nat → Prop} {v : Value} {xs : List α} (h : IsS51 w0 W g f0) (ho : d.Q e W base ok v xs) (ht : e ≠ 51) : some g ≠ v.ownBlock := by
  obtain ⟨A0, c0, hb, hg, hr0⟩ := h
  exact Kd.Q_ne ho hb ht
theorem IsS51.apartS {w0 W : World} {g : Nat} {f0 : List Int} {α : Type} {d : Kd α} {e : Nat} {base : Nat} {ok : Nat → Prop} {v : Value} {xs : List α} (h : IsS51 w0 W g f0) (ho : d.S e W base ok v xs) (ht : ∀ q, q ∈ e :: d.E → q ≠ 51) : d.S e W base (fun k => ok k ∧ k ≠ g) v xs := by
  obtain ⟨A0, c0, hb, hg, hr0⟩ := h
  exact Kd.S_types ho hb ht
theorem IsS51.own_neS {w0 W : World} {g : Nat} {f0 : List Int} {α : Type} {d : Kd α} {e : Nat} {base : Nat} {ok : Nat → Prop} {v : Value} {xs : List α} (h : IsS51 w0 W g f0) (ho : d.S e W base ok v xs) (ht : e ≠ 51) : some g ≠ v.ownBlock := by
  obtain ⟨A0, c0, hb, hg, hr0⟩ := h
  exact Kd.S_ne ho hb ht
theorem IsS51.lt {w0 W : World} {g : Nat} {f0 : List Int} (h : IsS51 w0 W g f0) : g < W.heap.size := by
  obtain ⟨A0, c0, hb, hg, hr0⟩ := h
  exact blk_lt hb
theorem IsS51.ge {w0 W : World} {g : Nat} {f0 : List Int} (h : IsS51 w0 W g f0) : w0.heap.size ≤ g := by
  obtain ⟨A0, c0, hb, hg, hr0⟩ := h
  exact hg
theorem IsS51.ne_blk {w0 W : World} {g : Nat} {f0 : List Int} {a : Nat} {cs : Array Value} {t : TypeId} {fr : Nat × Nat} (h : IsS51 w0 W g f0) (hb2 : W.heap[a]? = some (.cells cs t fr)) (ht : t ≠ 51) : g ≠ a := by
  obtain ⟨A0, c0, hb, hg, hr0⟩ := h
  rintro rfl
  rw [hb] at hb2
  injection hb2 with hb2
  injection hb2 with _ ht2
  exact ht ht2.symm
theorem IsS51.far {w0 W : World} {g : Nat} {f0 : List Int} {p : Addr} (h : IsS51 w0 W g f0) (hne : g ≠ p.block) (u : Value) : IsS51 w0 (W.setCell p u) g f0 := by
  obtain ⟨A0, c0, hb, hg, hr0⟩ := h
  exact ⟨A0, c0, blk_far hb hne u, hg, hr0⟩
theorem cellS51_0 {W : World} {g : Nat} {A0 : Option Addr} {c0 : Nat} {f0 : List Int} (h : W.heap[g]? = some (.cells #[.slice A0 f0.length c0] 51 (0, 0))) : W.cell? ⟨g, 0, none⟩ = some (.slice A0 f0.length c0) := (blk_cell h 0).trans rfl
theorem IsS51.new (w0 W : World) (A0 : Option Addr) (c0 : Nat) (f0 : List Int) (hB : Below w0.heap.size w0 W) (hr0 : (Kd.C (Kd.int .i64) w0 A0 f0.length f0 ∧ f0.length ≤ c0)) : IsS51 w0 (W.alloc (.cells #[.slice A0 f0.length c0] 51)) W.heap.size f0 := ⟨A0, c0, by simpa using heap_alloc_new W _, hB.size, hr0⟩

def mootmake_Stream_Next.f (s0_0 : List Int) (a1 : Int) : Option (Int × List Int) := if a1 < 1 then some (0, s0_0) else if s0_0 = [] then some (0, s0_0) else (mootmake_Below.f (rd s0_0 0) a1).bind fun t => some (t, s0_0.drop 1)
set_option maxHeartbeats 8000000 in
set_option maxRecDepth 100000 in
theorem mootmake_Stream_Next.calls (g : Nat) (s0_0 : List Int) (a1 : Int) (r1 : Int) (r2 : List Int) (w0 w : World) (hI : IsS51 w0 w g s0_0) (hB : Below w0.heap.size w0 w) (h : mootmake_Stream_Next.f s0_0 a1 = some (r1, r2)) :
    Calls Try.prog 28 #[.pointer (some ⟨g, 0, none⟩), .int .i64 a1] w fun e w' => e = .returned (.int .i64 r1) ∧ IsS51 w0 w' g r2 ∧ Below w0.heap.size w0 w' ∧ KeepBut w w' g none := by
  unfold mootmake_Stream_Next.f at h
  have HI := Aside0.mk hI
  obtain ⟨A, c, hb, hg, hr, hc⟩ := hI
  have hcell : w.cell? ⟨g, 0, none⟩ = some (.slice A s0_0.length c) := (blk_cell hb 0).trans rfl
  have hfr : w.frozen? ⟨g, 0, none⟩ = false := blk_frozen hb 0
  have Hb := Aside0.mk hb
  have HB := Aside0.mk hB
  have Hg := Aside0.mk hg
  have Hr := Aside0.mk hr
  have Hc := Aside0.mk hc
  clear hb hB hg hr hc
  by_cases h1 : a1 < 1
  · rw [if_pos h1] at h
    simp only [Option.some.injEq, Prod.mk.injEq] at h
    obtain ⟨rfl, rfl⟩ := h
    have h1b : decide (a1 < 1) = true := decide_eq_true h1
    clear h1
    go_enter Try.func28, Try.ntmps28
    go_wp2_with fail
    go_ret
    exact ⟨rfl, HI.out, HB.out, KeepBut.refl _ _ _⟩
  · rw [if_neg h1] at h
    have h1b : decide (a1 < 1) = false := decide_eq_false h1
    by_cases h2 : s0_0 = []
    · rw [if_pos h2] at h
      simp only [Option.some.injEq, Prod.mk.injEq] at h
      obtain ⟨rfl, rfl⟩ := h
      have h2b : ((s0_0.length : Int) == 0) = true := by rw [h2]; rfl
      have h2c : (s0_0.length == 0) = true := by rw [h2]; rfl
      have H2 := Aside0.mk h2
      clear h2 h1
      go_enter Try.func28, Try.ntmps28
      go_wp2_with fail
      go_ret
      exact ⟨rfl, HI.out, HB.out, KeepBut.refl _ _ _⟩
    · rw [if_neg h2] at h
      have hlen : 0 < s0_0.length := List.length_pos_iff.2 h2
      obtain ⟨t, ht, h⟩ := Option.bind_eq_some_iff.mp h
      simp only [Option.some.injEq, Prod.mk.injEq] at h
      obtain ⟨rfl, rfl⟩ := h
      have HT := Aside0.mk ht
      have h2b : ((s0_0.length : Int) == 0) = false := by rw [beq_eq_false_iff_ne]; omega
      have h2c : (s0_0.length == 0) = false := by rw [beq_eq_false_iff_ne]; omega
      obtain ⟨ad, hA, hcs⟩ := (Kd.reads_of_C (d := (0 : Int)) Hr.out : ReadsOf (Value.int .i64) 0 w0 A s0_0.length s0_0).2.2 hlen
      have hel0 := hcs 0 hlen
      rw [Addr.add_zero'] at hel0
      have hel : w.cell? ad = some (.int .i64 (rd s0_0 0)) := (pw_cell_below HB.out hel0).trans rfl
      have hne : g ≠ ad.block := by
        have := World.block_lt_of_cell? _ _ hel0
        have := Hg.out
        omega
      obtain ⟨i0, hi0, _, hsz0, _⟩ := info_parts info3
      obtain ⟨A', hcut, hA', hC'⟩ := print_drop_of (P := Try.prog) (Value.int .i64) 0 22 3 .i64 Try.underlying22 hi0 hsz0 A c s0_0 1 (by omega) (by omega) Hc.out
      subst hA
      have HA' := Aside0.mk hA'
      have HC' := Aside0.mk hC'
      clear hA' hC' h2 h1 ht hcs hel0
      simp only [show ((1 : Int)).toNat = 1 from rfl] at hcut
      go_enter Try.func28, Try.ntmps28
      go_wp2_with (go_at_call 17; refine (mootmake_Below.calls _ _ _ _ HT.out).mono ?_; rintro e w' ⟨rfl, ⟨n, rfl⟩⟩)
      go_ret
      have hset := blk_set Hb.out 0 (.slice A' (s0_0.length - 1) (c - 1))
      have hl1 : (s0_0.drop 1).length = s0_0.length - 1 := List.length_drop
      refine ⟨rfl, ⟨A', c - 1, ?_, Hg.out, Kd.C_of_reads (HA'.out w0 (Kd.reads_of_C Hr.out)), HC'.out⟩, ?_, ?_⟩
      · rw [hl1]; exact hset
      · exact pw_below_drewN (HB.out.setCell Hg.out _) _
      · exact keep_drewN (KeepBut.set_ (KeepBut.refl _ _ _) 0 _) _

/-! ### mootmake_table: function 56 -/
mutual
def mootmake_table.j0 : Nat → List Int → ByteArray → Int → Int → Bool → Option (ByteArray × Int × Int × Bool × (List (S44)) × List Int)
  | 0, _, _, _, _, _ => none
  | k + 1, x2000, x109000, x109001, x109002, x109003 => (mootmake_Stream_Next.f x2000 3).bind fun bt111 => ((mootmake_Stream_Next.f bt111.2 5).bind fun bt113 => (mootmake_table.l0 k (wrap64 (bt111.1 * 1000)) (wrap64 (1 + bt113.1)) 0 bt113.2 x109000 x109001 x109002 x109003 ([] : List (S44))))
def mootmake_table.l0 : Nat → Int → Int → Int → List Int → ByteArray → Int → Int → Bool → List (S44) → Option (ByteArray × Int × Int × Bool × (List (S44)) × List Int)
  | 0, _, _, _, _, _, _, _, _, _ => none
  | k + 1, x6, x29, x30, x2000, x109000, x109001, x109002, x109003, x109004 => if x30 < x29 then ((mootmake_Stream_Next.f x2000 21).bind fun bt115 => (if x109002 = 2 then (mootmake_table.j2 k x6 (wrap64 (bt115.1 * 50000)) x29 x30 (!x109003) bt115.2 x109000 x109001 x109002 x109003 x109004) else (mootmake_table.j2 k x6 (wrap64 (bt115.1 * 50000)) x29 x30 false bt115.2 x109000 x109001 x109002 x109003 x109004))) else (some (x109000, x109001, x109002, x109003, x109004, x2000))
def mootmake_table.j2 : Nat → Int → Int → Int → Int → Bool → List Int → ByteArray → Int → Int → Bool → List (S44) → Option (ByteArray × Int × Int × Bool × (List (S44)) × List Int)
  | 0, _, _, _, _, _, _, _, _, _, _, _ => none
  | k + 1, x6, x7, x29, x30, x42, x2000, x109000, x109001, x109002, x109003, x109004 => if x42 = true then ((mootmake_Stream_Next.f x2000 100).bind fun bt117 => (if x109004.length < 8796093022208 then ((mootmake_Stream_Next.f bt117.2 60000).bind fun bt122 => (mootmake_table.l0 k (wrap64 (x6 + (wrap64 (1 + bt122.1)))) x29 (wrap64 (x30 + 1)) bt122.2 x109000 x109001 x109002 x109003 (x109004 ++ [(⟨x6, wrap64 (bt117.1 * 500)⟩ : S44)]))) else (none))) else (if x109004.length < 8796093022208 then ((mootmake_Stream_Next.f x2000 60000).bind fun bt127 => (mootmake_table.l0 k (wrap64 (x6 + (wrap64 (1 + bt127.1)))) x29 (wrap64 (x30 + 1)) bt127.2 x109000 x109001 x109002 x109003 (x109004 ++ [(⟨x6, x7⟩ : S44)]))) else (none))
end
def mootmake_table.f (k : Nat) (a0 : ByteArray) (s1_0 : List Int) : Option (ByteArray × Int × Int × Bool × (List (S44)) × List Int) := (some (([2, 6, 2] : List Int) : List Int)).bind fun y102 => ((mootmake_Stream_Next.f s1_0 3).bind fun bt105 => (if 0 ≤ bt105.1 then (if bt105.1 < (y102.length : Int) then (if (rd y102 bt105.1) = 2 then ((mootmake_Stream_Next.f bt105.2 2).bind fun bt109 => (mootmake_table.j0 k bt109.2 a0 2 (rd y102 bt105.1) (bt109.1 == 1))) else (mootmake_table.j0 k bt105.2 a0 2 (rd y102 bt105.1) false)) else (none)) else (none)))
theorem mootmake_table.mono_l : ∀ k, (∀ y0 y1 y2 y3 y4, LeO (mootmake_table.j0 k y0 y1 y2 y3 y4) (mootmake_table.j0 (k + 1) y0 y1 y2 y3 y4)) ∧ (∀ y0 y1 y2 y3 y4 y5 y6 y7 y8, LeO (mootmake_table.l0 k y0 y1 y2 y3 y4 y5 y6 y7 y8) (mootmake_table.l0 (k + 1) y0 y1 y2 y3 y4 y5 y6 y7 y8)) ∧ (∀ y0 y1 y2 y3 y4 y5 y6 y7 y8 y9 y10, LeO (mootmake_table.j2 k y0 y1 y2 y3 y4 y5 y6 y7 y8 y9 y10) (mootmake_table.j2 (k + 1) y0 y1 y2 y3 y4 y5 y6 y7 y8 y9 y10))
  | 0 => ⟨fun _ _ _ _ _ r h => by simp [mootmake_table.j0] at h, fun _ _ _ _ _ _ _ _ _ r h => by simp [mootmake_table.l0] at h, fun _ _ _ _ _ _ _ _ _ _ _ r h => by simp [mootmake_table.j2] at h⟩
  | k + 1 => by
    obtain ⟨ih0, ih1, ih2⟩ := mootmake_table.mono_l k
    refine ⟨?_, ?_, ?_⟩
    · intro y0 y1 y2 y3 y4
      unfold mootmake_table.j0
      repeat' first
      | (with_reducible exact ih0 _ _ _ _ _)
      | (with_reducible exact ih1 _ _ _ _ _ _ _ _ _)
      | (with_reducible exact ih2 _ _ _ _ _ _ _ _ _ _ _)
      | (with_reducible exact LeO.refl _)
      | (with_reducible exact LeO.none _)
      | (with_reducible refine LeO.ite ?_ ?_)
      | (with_reducible refine LeO.bind ?_ (fun _ => ?_))
      | exact ih0 _ _ _ _ _
      | exact ih1 _ _ _ _ _ _ _ _ _
      | exact ih2 _ _ _ _ _ _ _ _ _ _ _
      | exact LeO.none _
      | refine LeO.ite ?_ ?_
      | refine LeO.bind ?_ (fun _ => ?_)
    · intro y0 y1 y2 y3 y4 y5 y6 y7 y8
      unfold mootmake_table.l0
      repeat' first
      | (with_reducible exact ih0 _ _ _ _ _)
      | (with_reducible exact ih1 _ _ _ _ _ _ _ _ _)
      | (with_reducible exact ih2 _ _ _ _ _ _ _ _ _ _ _)
      | (with_reducible exact LeO.refl _)
      | (with_reducible exact LeO.none _)
      | (with_reducible refine LeO.ite ?_ ?_)
      | (with_reducible refine LeO.bind ?_ (fun _ => ?_))
      | exact ih0 _ _ _ _ _
      | exact ih1 _ _ _ _ _ _ _ _ _
      | exact ih2 _ _ _ _ _ _ _ _ _ _ _
      | exact LeO.none _
      | refine LeO.ite ?_ ?_
      | refine LeO.bind ?_ (fun _ => ?_)
    · intro y0 y1 y2 y3 y4 y5 y6 y7 y8 y9 y10
      unfold mootmake_table.j2
      repeat' first
      | (with_reducible exact ih0 _ _ _ _ _)
      | (with_reducible exact ih1 _ _ _ _ _ _ _ _ _)
      | (with_reducible exact ih2 _ _ _ _ _ _ _ _ _ _ _)
      | (with_reducible exact LeO.refl _)
      | (with_reducible exact LeO.none _)
      | (with_reducible refine LeO.ite ?_ ?_)
      | (with_reducible refine LeO.bind ?_ (fun _ => ?_))
      | exact ih0 _ _ _ _ _
      | exact ih1 _ _ _ _ _ _ _ _ _
      | exact ih2 _ _ _ _ _ _ _ _ _ _ _
      | exact LeO.none _
      | refine LeO.ite ?_ ?_
      | refine LeO.bind ?_ (fun _ => ?_)
theorem mootmake_table.mono : ∀ a0 a1 k, LeO (mootmake_table.f k a0 a1) (mootmake_table.f (k + 1) a0 a1) := by
  intro a0 a1 k
  obtain ⟨ih0, ih1, ih2⟩ := mootmake_table.mono_l k
  unfold mootmake_table.f
  repeat' first
      | (with_reducible exact ih0 _ _ _ _ _)
      | (with_reducible exact ih1 _ _ _ _ _ _ _ _ _)
      | (with_reducible exact ih2 _ _ _ _ _ _ _ _ _ _ _)
      | (with_reducible exact LeO.refl _)
      | (with_reducible exact LeO.none _)
      | (with_reducible refine LeO.ite ?_ ?_)
      | (with_reducible refine LeO.bind ?_ (fun _ => ?_))
      | exact ih0 _ _ _ _ _
      | exact ih1 _ _ _ _ _ _ _ _ _
      | exact ih2 _ _ _ _ _ _ _ _ _ _ _
      | exact LeO.none _
      | refine LeO.ite ?_ ?_
      | refine LeO.bind ?_ (fun _ => ?_)
set_option maxHeartbeats 8000000 in
set_option maxRecDepth 100000 in
theorem mootmake_table.calls (k : Nat) (a0 : ByteArray) (g : Nat) (s1_0 : List Int) (r1 : ByteArray) (r2 : Int) (r3 : Int) (r4 : Bool) (r5 : List (S44)) (r6 : List Int) (w0 w : World) (hI : IsS51 w0 w g s1_0) (hB : Below w0.heap.size w0 w) (h : mootmake_table.f k a0 s1_0 = some (r1, r2, r3, r4, r5, r6)) :
    Calls Try.prog 56 #[.string a0, .pointer (some ⟨g, 0, none⟩)] w fun e w' => ∃ v4_ : Value, e = .returned (.agg #[.string r1, .int .i64 r2, .int .i64 r3, .bool r4, v4_]) ∧ Kd.R k44 44 w' w.heap.size (fun _ => True) v4_ r5 ∧ IsS51 w0 w' g r6 ∧ Below w0.heap.size w0 w' ∧ KeepBut w w' g none := by
  have hu39 := Try.underlying39
  have hu44 := Try.underlying44
  have HI1 := Aside0.mk hI
  have HK := Aside0.mk (KeepBut.refl w g none)
  have HL := Aside0.mk hB.size
  clear hI
  have HW0 := Aside0.mk hB.size
  have HB := Aside0.mk hB
  clear hB
  have H : ((some (([2, 6, 2] : List Int) : List Int)).bind fun y102 => ((mootmake_Stream_Next.f s1_0 3).bind fun bt105 => (if 0 ≤ bt105.1 then (if bt105.1 < (y102.length : Int) then (if (rd y102 bt105.1) = 2 then ((mootmake_Stream_Next.f bt105.2 2).bind fun bt109 => (mootmake_table.j0 k bt109.2 a0 2 (rd y102 bt105.1) (bt109.1 == 1))) else (mootmake_table.j0 k bt105.2 a0 2 (rd y102 bt105.1) false)) else (none)) else (none)))) = some (r1, r2, r3, r4, r5, r6) := h
  clear h
  obtain ⟨y102, hy102⟩ : ∃ y_ : List Int, y_ = (([2, 6, 2] : List Int)) := ⟨_, rfl⟩
  replace H : ((mootmake_Stream_Next.f s1_0 3).bind fun bt105 => (if 0 ≤ bt105.1 then (if bt105.1 < (y102.length : Int) then (if (rd y102 bt105.1) = 2 then ((mootmake_Stream_Next.f bt105.2 2).bind fun bt109 => (mootmake_table.j0 k bt109.2 a0 2 (rd y102 bt105.1) (bt109.1 == 1))) else (mootmake_table.j0 k bt105.2 a0 2 (rd y102 bt105.1) false)) else (none)) else (none))) = some (r1, r2, r3, r4, r5, r6) := by first | (rw [hy102]; with_reducible exact H) | (have H2_ := (Option.bind_some _ _).symm.trans H; rw [hy102]; with_reducible exact H2_) | (have H2_ := (Option.bind_some _ _).symm.trans H; with_reducible exact H2_) | with_reducible exact H | (rw [hy102]; exact H) | exact H
  have Ny102 := Aside0.mk hy102
  clear hy102
  replace H := Option.bind_eq_some_iff.mp H
  obtain ⟨⟨t105, t106⟩, A30, H⟩ := H
  replace H : (if 0 ≤ t105 then (if t105 < (y102.length : Int) then (if (rd y102 t105) = 2 then ((mootmake_Stream_Next.f t106 2).bind fun bt109 => (mootmake_table.j0 k bt109.2 a0 2 (rd y102 t105) (bt109.1 == 1))) else (mootmake_table.j0 k t106 a0 2 (rd y102 t105) false)) else (none)) else (none)) = some (r1, r2, r3, r4, r5, r6) := H
  have A3 := Aside0.mk A30
  clear A30
  by_cases c4 : 0 ≤ t105
  · rw [if_pos c4] at H
    have c4b0 : decide (0 ≤ t105) = true := decide_eq_true c4
    clear c4
    by_cases c5 : t105 < (y102.length : Int)
    · rw [if_pos c5] at H
      have c5b0 : decide (t105 < (y102.length : Int)) = true := decide_eq_true c5
      clear c5
      have HC6 := Aside0.mk H
      clear H
      go_enter Try.func56, Try.ntmps56
      go_upto_region 2 with (first | ((with_reducible refine gate_dst (N := 4) rfl ?_); refine box_event ?hg (N := 4) ?hd (cs := #[.string (⟨#[]⟩ : ByteArray), .int .i64 0, .int .i64 0, .bool false, .slice none 0 0]) (t := 39) ?hr ?_; (case hd => rfl); (case hg => rfl); (case hr => first | (go_simp; done) | (go_simp; rfl)); intro gb101 hg w7 hbox hb; have n0_ := Aside0.mk (IsS51.below (by repeat (first | (with_reducible first | exact HI1.out | apply IsS51.alloc | apply IsS51.drewN | apply IsS51.drew) | exact HI1.out)) hb); have n1_ := Aside0.mk (KeepBut.trans (by repeat (first | (with_reducible first | exact HK.out | apply KeepBut.set_ | apply keep_drewN | apply keep_drew | apply keep_alloc) | exact HK.out)) (KeepBut.of_below hb g none) (.inl rfl)); have n2_ := Aside0.mk (below_step (by repeat (first | (with_reducible first | exact HB.out | apply below_alloc | apply pw_below_drewN | apply below_drew1 | refine below_set ?_ (IsS51.ge HI1.out)) | exact HB.out)) hb); have n3_ := Aside0.mk (hbox); have n4_ := Aside0.mk ((by rw [hg]; exact (keep_size (w := w) (g := g) (row := none) (by repeat (first | (with_reducible first | exact HK.out | apply KeepBut.set_ | apply keep_drewN | apply keep_drew | apply keep_alloc) | exact HK.out))) : w.heap.size ≤ gb101)); have n5_ := Aside0.mk ((Nat.le_trans HW0.out (by rw [hg]; exact (keep_size (w := w) (g := g) (row := none) (by repeat (first | (with_reducible first | exact HK.out | apply KeepBut.set_ | apply keep_drewN | apply keep_drew | apply keep_alloc) | exact HK.out))) : w.heap.size ≤ gb101) : w0.heap.size ≤ gb101)); have n6_ := Aside0.mk ((by rw [hg]; exact Nat.ne_of_lt (IsS51.lt (show IsS51 w0 _ g s1_0 from by repeat (first | (with_reducible first | exact HI1.out | apply IsS51.alloc | apply IsS51.drewN | apply IsS51.drew) | exact HI1.out))) : g ≠ gb101)); have n7_ := Aside0.mk ((by rw [hg]; exact Nat.ne_of_gt (IsS51.lt (show IsS51 w0 _ g s1_0 from by repeat (first | (with_reducible first | exact HI1.out | apply IsS51.alloc | apply IsS51.drewN | apply IsS51.drew) | exact HI1.out))) : gb101 ≠ g)); clear HI1; clear HK; clear HB; have HI1 := n0_; have HK := n1_; have HB := n2_; have BK101 := n3_; have GW101 := n4_; have GE101 := n5_; have NB1_101 := n6_; have NB101_1 := n7_; clear n0_ n1_ n2_ n3_ n4_ n5_ n6_ n7_; clear hb hbox hg) | ((with_reducible refine gate_dst (N := 9) rfl ?_); refine Kd.R_lit (Kd.int .i64) _ 3 ?hg (N := 9) ?hd (xs := ([2, 6, 2] : List Int)) (inner := [.int .i64 2, .int .i64 6, .int .i64 2]) (ok := fun _ => True) (okp := fun _ => True) ?hr ?hp (fun _ hk => hk) trivial (Below.refl _ _) (Nat.le_refl _) (by simp) ?_; (case hd => rfl); (case hg => rfl); (case hr => first | (go_simp; done) | (go_simp; rfl)); (case hp => exact (Reps.one (show Kd.M (Kd.int .i64) _ _ _ 2 [.int .i64 2] from rfl) (Reps.one (show Kd.M (Kd.int .i64) _ _ _ 6 [.int .i64 6] from rfl) (Reps.one (show Kd.M (Kd.int .i64) _ _ _ 2 [.int .i64 2] from rfl) (Reps.none _ _))))); intro v103 w8 ho9 hb hg_ hnew_; clear hg_ hnew_; (first | rw [← Ny102.out] at ho9 | (simp only [Int.reduceToNat] at ho9; rw [← Ny102.out] at ho9)); have n0_ := Aside0.mk (Kd.R_lower ho9 (keep_size (w := w) (g := g) (row := none) (by repeat (first | (with_reducible first | exact HK.out | apply KeepBut.set_ | apply keep_drewN | apply keep_drew | apply keep_alloc | refine keep_far ?_ GW101.out _) | exact HK.out)))); have n1_ := Aside0.mk (IsS51.below (by repeat (first | (with_reducible first | exact HI1.out | apply IsS51.alloc | apply IsS51.drewN | apply IsS51.drew | refine IsS51.far ?_ NB1_101.out _) | exact HI1.out)) hb); have n2_ := Aside0.mk (blk_below (g := gb101) (o := .cells #[.string (⟨#[]⟩ : ByteArray), .int .i64 0, .int .i64 0, .bool false, .slice none 0 0] 39 (0, 0)) (by (with_reducible repeat (first | refine blk_drewN ?_ _ | refine blk_drew ?_ | refine blk_alloc ?_ _)); exact BK101.out) hb); have n3_ := Aside0.mk (KeepBut.trans (by repeat (first | (with_reducible first | exact HK.out | apply KeepBut.set_ | apply keep_drewN | apply keep_drew | apply keep_alloc | refine keep_far ?_ GW101.out _) | exact HK.out)) (KeepBut.of_below hb g none) (.inl rfl)); have n4_ := Aside0.mk (below_step (by repeat (first | (with_reducible first | exact HB.out | apply below_alloc | apply pw_below_drewN | apply below_drew1 | refine below_set ?_ (IsS51.ge HI1.out) | refine below_set ?_ GE101.out) | exact HB.out)) hb); clear HI1; clear BK101; clear HK; clear HB; have HO104 := n0_; have HI1 := n1_; have BK101 := n2_; have HK := n3_; have HB := n4_; clear n0_ n1_ n2_ n3_ n4_; clear hb ho9) | ((with_reducible refine gate_callee (f := 28) rfl ?_); refine goesL_ (some 11) rfl rfl Try.func28 (by kernel_rfl) rfl #[.pointer (some ⟨g, 0, none⟩), .int .i64 3] rfl (by (try simp only [List.map_toArray, List.map_cons, List.map_nil]); first | done | rfl | (simp only [List.length_drop, List.length_take]; rfl)) ?_; (with_reducible refine (mootmake_Stream_Next.calls g s1_0 3 t105 t106 w0 _ ?side1 ?side2 A3.out).mono ?_); (case side1 => repeat (first | (with_reducible first | exact HI1.out | apply IsS51.alloc | apply IsS51.drewN | apply IsS51.drew | refine IsS51.far ?_ NB1_101.out _) | exact HI1.out)); (case side2 => repeat (first | (with_reducible first | exact HB.out | apply below_alloc | apply pw_below_drewN | apply below_drew1 | refine below_set ?_ (IsS51.ge HI1.out) | refine below_set ?_ GE101.out) | exact HB.out)); rintro e w10 ⟨rfl, hi, hb, hk⟩; refine ⟨_, rfl, ?_⟩; have n0_ := Aside0.mk (KeepBut.blk hk (g' := gb101) (o := .cells #[.string (⟨#[]⟩ : ByteArray), .int .i64 0, .int .i64 0, .bool false, .slice none 0 0] 39 (0, 0)) (by (with_reducible repeat (first | refine blk_drewN ?_ _ | refine blk_drew ?_ | refine blk_alloc ?_ _)); exact BK101.out) NB101_1.out (by simp)); have n1_ := Aside0.mk (Kd.R_mono (Kd.R_keep (IsS51.apart (show IsS51 w0 _ g s1_0 from by repeat (first | (with_reducible first | exact HI1.out | apply IsS51.alloc | apply IsS51.drewN | apply IsS51.drew | refine IsS51.far ?_ NB1_101.out _) | exact HI1.out)) (by (with_reducible repeat (first | apply Kd.R_alloc | apply Kd.R_drewN | apply Kd.R_drew)); exact HO104.out) (by decide)) hk (fun _ h => h.2)) (fun _ h => h.1)); have n2_ := Aside0.mk (KeepBut.trans (by repeat (first | (with_reducible first | exact HK.out | apply KeepBut.set_ | apply keep_drewN | apply keep_drew | apply keep_alloc | refine keep_far ?_ GW101.out _) | exact HK.out)) hk (.inl rfl)); have n3_ := Aside0.mk (hb); have n4_ := Aside0.mk (hi); clear BK101; clear HO104; clear HK; clear HB; clear HI1; have BK101 := n0_; have HO104 := n1_; have HK := n2_; have HB := n3_; have HI1 := n4_; clear n0_ n1_ n2_ n3_ n4_; (try clear hb); (try clear hb2); (try clear hk); (try clear hi); obtain ⟨Ao11, co11, eo11⟩ := Kd.R_slice HO104.out; subst eo11; have p107 : 0 ≤ (t105 : Int) := of_decide_eq_true (by first | (with_reducible assumption) | assumption); have q107 : t105 < (y102.length : Int) := of_decide_eq_true (by first | (with_reducible assumption) | assumption); obtain ⟨ad107, e107, hx107_0⟩ := Kd.at_int (Kd.R_reads' HO104.out).2.2 t105 p107 q107; cases e107; replace p107 := eq_true p107; replace q107 := eq_true q107) | ((with_reducible refine gate_dst (N := 5) rfl ?_); refine box_event ?hg (N := 5) ?hd (cs := #[.string (⟨#[]⟩ : ByteArray), .int .i64 0, .int .i64 0, .bool false, .slice none 0 0]) (t := 39) ?hr ?_; (case hd => rfl); (case hg => rfl); (case hr => first | (go_simp; done) | (go_simp; rfl)); intro gb108 hg w12 hbox hb; have n0_ := Aside0.mk (Kd.R_below (by (with_reducible repeat (first | apply Kd.R_alloc | apply Kd.R_drewN | apply Kd.R_drew)); exact HO104.out) hb); have n1_ := Aside0.mk (IsS51.below (by repeat (first | (with_reducible first | exact HI1.out | apply IsS51.alloc | apply IsS51.drewN | apply IsS51.drew | refine IsS51.far ?_ NB1_101.out _) | exact HI1.out)) hb); have n2_ := Aside0.mk (blk_below (g := gb101) (o := .cells #[.string (⟨#[]⟩ : ByteArray), .int .i64 0, .int .i64 0, .bool false, .slice none 0 0] 39 (0, 0)) (by (with_reducible repeat (first | refine blk_drewN ?_ _ | refine blk_drew ?_ | refine blk_alloc ?_ _)); exact BK101.out) hb); have n3_ := Aside0.mk (KeepBut.trans (by repeat (first | (with_reducible first | exact HK.out | apply KeepBut.set_ | apply keep_drewN | apply keep_drew | apply keep_alloc | refine keep_far ?_ GW101.out _) | exact HK.out)) (KeepBut.of_below hb g none) (.inl rfl)); have n4_ := Aside0.mk (below_step (by repeat (first | (with_reducible first | exact HB.out | apply below_alloc | apply pw_below_drewN | apply below_drew1 | refine below_set ?_ (IsS51.ge HI1.out) | refine below_set ?_ GE101.out) | exact HB.out)) hb); have n5_ := Aside0.mk (hbox); have n6_ := Aside0.mk ((by rw [hg]; exact (keep_size (w := w) (g := g) (row := none) (by repeat (first | (with_reducible first | exact HK.out | apply KeepBut.set_ | apply keep_drewN | apply keep_drew | apply keep_alloc | refine keep_far ?_ GW101.out _) | exact HK.out))) : w.heap.size ≤ gb108)); have n7_ := Aside0.mk ((Nat.le_trans HW0.out (by rw [hg]; exact (keep_size (w := w) (g := g) (row := none) (by repeat (first | (with_reducible first | exact HK.out | apply KeepBut.set_ | apply keep_drewN | apply keep_drew | apply keep_alloc | refine keep_far ?_ GW101.out _) | exact HK.out))) : w.heap.size ≤ gb108) : w0.heap.size ≤ gb108)); have n8_ := Aside0.mk ((by rw [hg]; exact Nat.ne_of_lt (blk_lt (g := gb101) (o := .cells #[.string (⟨#[]⟩ : ByteArray), .int .i64 0, .int .i64 0, .bool false, .slice none 0 0] 39 (0, 0)) (by (with_reducible repeat (first | refine blk_drewN ?_ _ | refine blk_drew ?_ | refine blk_alloc ?_ _)); exact BK101.out)) : gb101 ≠ gb108)); have n9_ := Aside0.mk ((by rw [hg]; exact Nat.ne_of_gt (blk_lt (g := gb101) (o := .cells #[.string (⟨#[]⟩ : ByteArray), .int .i64 0, .int .i64 0, .bool false, .slice none 0 0] 39 (0, 0)) (by (with_reducible repeat (first | refine blk_drewN ?_ _ | refine blk_drew ?_ | refine blk_alloc ?_ _)); exact BK101.out)) : gb108 ≠ gb101)); have n10_ := Aside0.mk ((by rw [hg]; exact Nat.ne_of_lt (IsS51.lt (show IsS51 w0 _ g t106 from by repeat (first | (with_reducible first | exact HI1.out | apply IsS51.alloc | apply IsS51.drewN | apply IsS51.drew | refine IsS51.far ?_ NB1_101.out _) | exact HI1.out))) : g ≠ gb108)); have n11_ := Aside0.mk ((by rw [hg]; exact Nat.ne_of_gt (IsS51.lt (show IsS51 w0 _ g t106 from by repeat (first | (with_reducible first | exact HI1.out | apply IsS51.alloc | apply IsS51.drewN | apply IsS51.drew | refine IsS51.far ?_ NB1_101.out _) | exact HI1.out))) : gb108 ≠ g)); clear HO104; clear HI1; clear BK101; clear HK; clear HB; have HO104 := n0_; have HI1 := n1_; have BK101 := n2_; have HK := n3_; have HB := n4_; have BK108 := n5_; have GW108 := n6_; have GE108 := n7_; have NB101_108 := n8_; have NB108_101 := n9_; have NB1_108 := n10_; have NB108_1 := n11_; clear n0_ n1_ n2_ n3_ n4_ n5_ n6_ n7_ n8_ n9_ n10_ n11_; clear hb hbox hg; have hnb13 := NB108_101.out; have hnc13 := NB101_108.out; have hnb14 := NB108_1.out; have hnc14 := NB1_108.out; have hcz15_0 : w12.cell? ⟨gb108, 0, none⟩ = some (.string (⟨#[]⟩ : ByteArray)) := (blk_cell BK108.out 0).trans rfl; have hcz15_1 : w12.cell? ⟨gb108, 1, none⟩ = some (.int .i64 0) := (blk_cell BK108.out 1).trans rfl; have hcz15_2 : w12.cell? ⟨gb108, 2, none⟩ = some (.int .i64 0) := (blk_cell BK108.out 2).trans rfl; have hcz15_3 : w12.cell? ⟨gb108, 3, none⟩ = some (.bool false) := (blk_cell BK108.out 3).trans rfl; have hcz15_4 : w12.cell? ⟨gb108, 4, none⟩ = some (.slice none 0 0) := (blk_cell BK108.out 4).trans rfl; have hfz15_0 := blk_frozen BK108.out 0; have hfz15_1 := blk_frozen BK108.out 1; have hfz15_2 := blk_frozen BK108.out 2; have hfz15_3 := blk_frozen BK108.out 3; have hfz15_4 := blk_frozen BK108.out 4))
      (try simp only [Act.put, List.setIfInBounds_toArray, List.set_cons_zero, List.set_cons_succ])
      go_cut [] (fun wc => ∃ (kq : Nat) (x2000_5 : List Int) (x109003_5 : Bool), Aside0 (mootmake_table.j0 kq x2000_5 a0 2 (rd y102 t105) x109003_5 = some (r1, r2, r3, r4, r5, r6)) ∧ Aside0 (kq ≤ k) ∧ Aside0 (wc.heap[gb101]? = some (.cells #[.string (⟨#[]⟩ : ByteArray), .int .i64 0, .int .i64 0, .bool false, (.slice none 0 0)] 39 (0, 0))) ∧ Aside0 (wc.heap[gb108]? = some (.cells #[.string a0, .int .i64 2, .int .i64 (rd y102 t105), .bool x109003_5, (.slice none 0 0)] 39 (0, 0))) ∧ Aside0 (IsS51 w0 wc g x2000_5) ∧ Aside0 (KeepBut w wc g none) ∧ Aside0 (Below w0.heap.size w0 wc))
      case first =>
        have H := HC6.out
        clear HC6
        by_cases c16 : (rd y102 t105) = 2
        · rw [if_pos c16] at H
          have c16b0 : ((rd y102 t105) == 2) = true := beq_iff_eq.mpr c16
          have c16b1 : ((rd y102 t105) != 2) = false := bne_eq_false_iff_eq.mpr c16
          clear c16
          (first | rw [c16b0] | (simp only [i64_w, i32_w]; rw [c16b0]) | skip)
          replace H := Option.bind_eq_some_iff.mp H
          obtain ⟨⟨t109, t110⟩, A170, H⟩ := H
          replace H : (mootmake_table.j0 k t110 a0 2 (rd y102 t105) (t109 == 1)) = some (r1, r2, r3, r4, r5, r6) := H
          have A17 := Aside0.mk A170
          clear A170
          have H' := Aside0.mk H
          clear H
          have hnb18 := NB108_101.out
          have hnc18 := NB101_108.out
          have hnb19 := NB108_1.out
          have hnc19 := NB1_108.out
          have hcz20_0 : w12.cell? ⟨gb108, 0, none⟩ = some (.string (⟨#[]⟩ : ByteArray)) := (blk_cell BK108.out 0).trans rfl
          have hcz20_1 : w12.cell? ⟨gb108, 1, none⟩ = some (.int .i64 0) := (blk_cell BK108.out 1).trans rfl
          have hcz20_2 : w12.cell? ⟨gb108, 2, none⟩ = some (.int .i64 0) := (blk_cell BK108.out 2).trans rfl
          have hcz20_3 : w12.cell? ⟨gb108, 3, none⟩ = some (.bool false) := (blk_cell BK108.out 3).trans rfl
          have hcz20_4 : w12.cell? ⟨gb108, 4, none⟩ = some (.slice none 0 0) := (blk_cell BK108.out 4).trans rfl
          have hfz20_0 := blk_frozen BK108.out 0
          have hfz20_1 := blk_frozen BK108.out 1
          have hfz20_2 := blk_frozen BK108.out 2
          have hfz20_3 := blk_frozen BK108.out 3
          have hfz20_4 := blk_frozen BK108.out 4
          go_wp2_with (first | (go_at_call 28; (with_reducible refine (mootmake_Stream_Next.calls g t106 2 t109 t110 w0 _ ?side1 ?side2 A17.out).mono ?_); (case side1 => repeat (first | (with_reducible first | exact HI1.out | apply IsS51.alloc | apply IsS51.drewN | apply IsS51.drew | refine IsS51.far ?_ NB1_101.out _ | refine IsS51.far ?_ NB1_108.out _) | exact HI1.out)); (case side2 => repeat (first | (with_reducible first | exact HB.out | apply below_alloc | apply pw_below_drewN | apply below_drew1 | refine below_set ?_ (IsS51.ge HI1.out) | refine below_set ?_ GE101.out | refine below_set ?_ GE108.out) | exact HB.out)); rintro e w21 ⟨rfl, hi, hb, hk⟩; have n0_ := Aside0.mk (KeepBut.blk hk (g' := gb101) (o := .cells #[.string (⟨#[]⟩ : ByteArray), .int .i64 0, .int .i64 0, .bool false, .slice none 0 0] 39 (0, 0)) (by (with_reducible repeat (first | refine blk_drewN ?_ _ | refine blk_drew ?_ | refine blk_alloc ?_ _)); refine blk_far ?_ NB101_108.out _; (with_reducible repeat (first | refine blk_drewN ?_ _ | refine blk_drew ?_ | refine blk_alloc ?_ _)); refine blk_far ?_ NB101_108.out _; (with_reducible repeat (first | refine blk_drewN ?_ _ | refine blk_drew ?_ | refine blk_alloc ?_ _)); refine blk_far ?_ NB101_108.out _; (with_reducible repeat (first | refine blk_drewN ?_ _ | refine blk_drew ?_ | refine blk_alloc ?_ _)); refine blk_far ?_ NB101_108.out _; (with_reducible repeat (first | refine blk_drewN ?_ _ | refine blk_drew ?_ | refine blk_alloc ?_ _)); refine blk_far ?_ NB101_108.out _; (with_reducible repeat (first | refine blk_drewN ?_ _ | refine blk_drew ?_ | refine blk_alloc ?_ _)); exact BK101.out) NB101_1.out (by simp)); have n1_ := Aside0.mk (Kd.R_mono (Kd.R_keep (IsS51.apart (show IsS51 w0 _ g t106 from by repeat (first | (with_reducible first | exact HI1.out | apply IsS51.alloc | apply IsS51.drewN | apply IsS51.drew | refine IsS51.far ?_ NB1_101.out _ | refine IsS51.far ?_ NB1_108.out _) | exact HI1.out)) (by (with_reducible repeat (first | apply Kd.R_alloc | apply Kd.R_drewN | apply Kd.R_drew)); exact (Kd.R_mono (Kd.R_far (p := ⟨gb108, 4, none⟩) (Kd.R_far (p := ⟨gb108, 3, none⟩) (Kd.R_far (p := ⟨gb108, 2, none⟩) (Kd.R_far (p := ⟨gb108, 1, none⟩) (Kd.R_far (p := ⟨gb108, 0, none⟩) (Kd.R_types HO104.out BK108.out (by decide)) (fun _ hk => hk.2) (.string a0)) (fun _ hk => hk.2) (.int .i64 2)) (fun _ hk => hk.2) (.int .i64 (rd y102 t105))) (fun _ hk => hk.2) (.bool false)) (fun _ hk => hk.2) (.slice none 0 0)) (fun _ h_ => h_.1))) (by decide)) hk (fun _ h => h.2)) (fun _ h => h.1)); have n2_ := Aside0.mk (KeepBut.blk hk (g' := gb108) (o := .cells #[.string a0, .int .i64 2, .int .i64 (rd y102 t105), .bool false, .slice none 0 0] 39 (0, 0)) (by (with_reducible repeat (first | refine blk_drewN ?_ _ | refine blk_drew ?_ | refine blk_alloc ?_ _)); refine blk_put (cs := #[.string a0, .int .i64 2, .int .i64 (rd y102 t105), .bool false, .slice none 0 0]) ?_ 4 _ rfl; (with_reducible repeat (first | refine blk_drewN ?_ _ | refine blk_drew ?_ | refine blk_alloc ?_ _)); refine blk_put (cs := #[.string a0, .int .i64 2, .int .i64 (rd y102 t105), .bool false, .slice none 0 0]) ?_ 3 _ rfl; (with_reducible repeat (first | refine blk_drewN ?_ _ | refine blk_drew ?_ | refine blk_alloc ?_ _)); refine blk_put (cs := #[.string a0, .int .i64 2, .int .i64 0, .bool false, .slice none 0 0]) ?_ 2 _ rfl; (with_reducible repeat (first | refine blk_drewN ?_ _ | refine blk_drew ?_ | refine blk_alloc ?_ _)); refine blk_put (cs := #[.string a0, .int .i64 0, .int .i64 0, .bool false, .slice none 0 0]) ?_ 1 _ rfl; (with_reducible repeat (first | refine blk_drewN ?_ _ | refine blk_drew ?_ | refine blk_alloc ?_ _)); refine blk_put (cs := #[.string (⟨#[]⟩ : ByteArray), .int .i64 0, .int .i64 0, .bool false, .slice none 0 0]) ?_ 0 _ rfl; (with_reducible repeat (first | refine blk_drewN ?_ _ | refine blk_drew ?_ | refine blk_alloc ?_ _)); exact BK108.out) NB108_1.out (by simp)); have n3_ := Aside0.mk (KeepBut.trans (by repeat (first | (with_reducible first | exact HK.out | apply KeepBut.set_ | apply keep_drewN | apply keep_drew | apply keep_alloc | refine keep_far ?_ GW101.out _ | refine keep_far ?_ GW108.out _) | exact HK.out)) hk (.inl rfl)); have n4_ := Aside0.mk (hb); have n5_ := Aside0.mk (hi); clear BK101; clear HO104; clear BK108; clear HK; clear HB; clear HI1; have BK101 := n0_; have HO104 := n1_; have BK108 := n2_; have HK := n3_; have HB := n4_; have HI1 := n5_; clear n0_ n1_ n2_ n3_ n4_ n5_; (try clear hb); (try clear hb2); (try clear hk); (try clear hi); have hcz22_0 : w21.cell? ⟨gb108, 0, none⟩ = some (.string a0) := (blk_cell BK108.out 0).trans rfl; have hcz22_1 : w21.cell? ⟨gb108, 1, none⟩ = some (.int .i64 2) := (blk_cell BK108.out 1).trans rfl; have hcz22_2 : w21.cell? ⟨gb108, 2, none⟩ = some (.int .i64 (rd y102 t105)) := (blk_cell BK108.out 2).trans rfl; have hcz22_3 : w21.cell? ⟨gb108, 3, none⟩ = some (.bool false) := (blk_cell BK108.out 3).trans rfl; have hcz22_4 : w21.cell? ⟨gb108, 4, none⟩ = some (.slice none 0 0) := (blk_cell BK108.out 4).trans rfl; have hfz22_0 := blk_frozen BK108.out 0; have hfz22_1 := blk_frozen BK108.out 1; have hfz22_2 := blk_frozen BK108.out 2; have hfz22_3 := blk_frozen BK108.out 3; have hfz22_4 := blk_frozen BK108.out 4))
          go_meet
          case rel => exact ⟨_, (t110), ((t109 == 1)), H', ⟨by first | omega | exact Nat.le_refl _⟩, ⟨by (with_reducible repeat (first | refine blk_drewN ?_ _ | refine blk_drew ?_ | refine blk_alloc ?_ _)); refine blk_far ?_ NB101_108.out _; (with_reducible repeat (first | refine blk_drewN ?_ _ | refine blk_drew ?_ | refine blk_alloc ?_ _)); exact BK101.out⟩, ⟨by (with_reducible repeat (first | refine blk_drewN ?_ _ | refine blk_drew ?_ | refine blk_alloc ?_ _)); refine blk_put (cs := #[.string a0, .int .i64 2, .int .i64 (rd y102 t105), .bool false, .slice none 0 0]) ?_ 3 _ rfl; (with_reducible repeat (first | refine blk_drewN ?_ _ | refine blk_drew ?_ | refine blk_alloc ?_ _)); exact BK108.out⟩, ⟨by repeat (first | (with_reducible first | exact HI1.out | apply IsS51.alloc | apply IsS51.drewN | apply IsS51.drew | refine IsS51.far ?_ NB1_101.out _ | refine IsS51.far ?_ NB1_108.out _) | exact HI1.out)⟩, ⟨by repeat (first | (with_reducible first | exact HK.out | apply KeepBut.set_ | apply keep_drewN | apply keep_drew | apply keep_alloc | refine keep_far ?_ GW101.out _ | refine keep_far ?_ GW108.out _) | exact HK.out)⟩, ⟨by repeat (first | (with_reducible first | exact HB.out | apply below_alloc | apply pw_below_drewN | apply below_drew1 | refine below_set ?_ (IsS51.ge HI1.out) | refine below_set ?_ GE101.out | refine below_set ?_ GE108.out) | exact HB.out)⟩⟩
        · rw [if_neg c16] at H
          have c16b0 : ((rd y102 t105) == 2) = false := beq_eq_false_iff_ne.mpr c16
          have c16b1 : ((rd y102 t105) != 2) = true := bne_iff_ne.mpr c16
          (first | rw [c16b0] | (simp only [i64_w, i32_w]; rw [c16b0]) | skip)
          have H' := Aside0.mk H
          clear H
          have hnb23 := NB108_101.out
          have hnc23 := NB101_108.out
          have hnb24 := NB108_1.out
          have hnc24 := NB1_108.out
          have hcz25_0 : w12.cell? ⟨gb108, 0, none⟩ = some (.string (⟨#[]⟩ : ByteArray)) := (blk_cell BK108.out 0).trans rfl
          have hcz25_1 : w12.cell? ⟨gb108, 1, none⟩ = some (.int .i64 0) := (blk_cell BK108.out 1).trans rfl
          have hcz25_2 : w12.cell? ⟨gb108, 2, none⟩ = some (.int .i64 0) := (blk_cell BK108.out 2).trans rfl
          have hcz25_3 : w12.cell? ⟨gb108, 3, none⟩ = some (.bool false) := (blk_cell BK108.out 3).trans rfl
          have hcz25_4 : w12.cell? ⟨gb108, 4, none⟩ = some (.slice none 0 0) := (blk_cell BK108.out 4).trans rfl
          have hfz25_0 := blk_frozen BK108.out 0
          have hfz25_1 := blk_frozen BK108.out 1
          have hfz25_2 := blk_frozen BK108.out 2
          have hfz25_3 := blk_frozen BK108.out 3
          have hfz25_4 := blk_frozen BK108.out 4
          go_wp2
          go_meet
          case rel => exact ⟨_, (t106), (false), H', ⟨by first | omega | exact Nat.le_refl _⟩, ⟨by (with_reducible repeat (first | refine blk_drewN ?_ _ | refine blk_drew ?_ | refine blk_alloc ?_ _)); refine blk_far ?_ NB101_108.out _; (with_reducible repeat (first | refine blk_drewN ?_ _ | refine blk_drew ?_ | refine blk_alloc ?_ _)); refine blk_far ?_ NB101_108.out _; (with_reducible repeat (first | refine blk_drewN ?_ _ | refine blk_drew ?_ | refine blk_alloc ?_ _)); refine blk_far ?_ NB101_108.out _; (with_reducible repeat (first | refine blk_drewN ?_ _ | refine blk_drew ?_ | refine blk_alloc ?_ _)); refine blk_far ?_ NB101_108.out _; (with_reducible repeat (first | refine blk_drewN ?_ _ | refine blk_drew ?_ | refine blk_alloc ?_ _)); refine blk_far ?_ NB101_108.out _; (with_reducible repeat (first | refine blk_drewN ?_ _ | refine blk_drew ?_ | refine blk_alloc ?_ _)); refine blk_far ?_ NB101_108.out _; (with_reducible repeat (first | refine blk_drewN ?_ _ | refine blk_drew ?_ | refine blk_alloc ?_ _)); exact BK101.out⟩, ⟨by (with_reducible repeat (first | refine blk_drewN ?_ _ | refine blk_drew ?_ | refine blk_alloc ?_ _)); refine blk_put (cs := #[.string a0, .int .i64 2, .int .i64 (rd y102 t105), .bool false, .slice none 0 0]) ?_ 3 _ rfl; (with_reducible repeat (first | refine blk_drewN ?_ _ | refine blk_drew ?_ | refine blk_alloc ?_ _)); refine blk_put (cs := #[.string a0, .int .i64 2, .int .i64 (rd y102 t105), .bool false, .slice none 0 0]) ?_ 4 _ rfl; (with_reducible repeat (first | refine blk_drewN ?_ _ | refine blk_drew ?_ | refine blk_alloc ?_ _)); refine blk_put (cs := #[.string a0, .int .i64 2, .int .i64 (rd y102 t105), .bool false, .slice none 0 0]) ?_ 3 _ rfl; (with_reducible repeat (first | refine blk_drewN ?_ _ | refine blk_drew ?_ | refine blk_alloc ?_ _)); refine blk_put (cs := #[.string a0, .int .i64 2, .int .i64 0, .bool false, .slice none 0 0]) ?_ 2 _ rfl; (with_reducible repeat (first | refine blk_drewN ?_ _ | refine blk_drew ?_ | refine blk_alloc ?_ _)); refine blk_put (cs := #[.string a0, .int .i64 0, .int .i64 0, .bool false, .slice none 0 0]) ?_ 1 _ rfl; (with_reducible repeat (first | refine blk_drewN ?_ _ | refine blk_drew ?_ | refine blk_alloc ?_ _)); refine blk_put (cs := #[.string (⟨#[]⟩ : ByteArray), .int .i64 0, .int .i64 0, .bool false, .slice none 0 0]) ?_ 0 _ rfl; (with_reducible repeat (first | refine blk_drewN ?_ _ | refine blk_drew ?_ | refine blk_alloc ?_ _)); exact BK108.out⟩, ⟨by repeat (first | (with_reducible first | exact HI1.out | apply IsS51.alloc | apply IsS51.drewN | apply IsS51.drew | refine IsS51.far ?_ NB1_101.out _ | refine IsS51.far ?_ NB1_108.out _) | exact HI1.out)⟩, ⟨by repeat (first | (with_reducible first | exact HK.out | apply KeepBut.set_ | apply keep_drewN | apply keep_drew | apply keep_alloc | refine keep_far ?_ GW101.out _ | refine keep_far ?_ GW108.out _) | exact HK.out)⟩, ⟨by repeat (first | (with_reducible first | exact HB.out | apply below_alloc | apply pw_below_drewN | apply below_drew1 | refine below_set ?_ (IsS51.ge HI1.out) | refine below_set ?_ GE101.out | refine below_set ?_ GE108.out) | exact HB.out)⟩⟩
      case rest =>
        clear HC6
        try clear c1
        try clear p1
        try clear q1
        try clear hx1
        try clear c2
        try clear p2
        try clear c4
        try clear c4b0
        try clear c5
        try clear c5b0
        try clear p10
        try clear q10
        try clear hx10
        try clear c13
        try clear c14
        try clear c16
        try clear c16b0
        try clear c16b1
        try clear c18
        try clear c19
        try clear c23
        try clear c24
        try clear hcz15_0
        try clear hcz15_1
        try clear hcz15_2
        try clear hcz15_3
        try clear hcz15_4
        try clear hcz20_0
        try clear hcz20_1
        try clear hcz20_2
        try clear hcz20_3
        try clear hcz20_4
        try clear hcz22_0
        try clear hcz22_1
        try clear hcz22_2
        try clear hcz22_3
        try clear hcz22_4
        try clear hcz25_0
        try clear hcz25_1
        try clear hcz25_2
        try clear hcz25_3
        try clear hcz25_4
        try clear hfz15_0
        try clear hfz15_1
        try clear hfz15_2
        try clear hfz15_3
        try clear hfz15_4
        try clear hfz20_0
        try clear hfz20_1
        try clear hfz20_2
        try clear hfz20_3
        try clear hfz20_4
        try clear hfz22_0
        try clear hfz22_1
        try clear hfz22_2
        try clear hfz22_3
        try clear hfz22_4
        try clear hfz25_0
        try clear hfz25_1
        try clear hfz25_2
        try clear hfz25_3
        try clear hfz25_4
        try clear hx107_0
        try clear p107
        try clear q107
        obtain ⟨kq, x2000_5, x109003_5, HA, HJ5, BK101, BK108, HI1, HK, HB⟩ := hcut
        cases kq with
        | zero => exact absurd HA.out (by simp [mootmake_table.j0])
        | succ kj5 =>
          have H := HA.out
          clear HA
          simp only [mootmake_table.j0] at H
          replace H := Option.bind_eq_some_iff.mp H
          obtain ⟨⟨t111, t112⟩, A260, H⟩ := H
          replace H : ((mootmake_Stream_Next.f t112 5).bind fun bt113 => (mootmake_table.l0 kj5 (wrap64 (t111 * 1000)) (wrap64 (1 + bt113.1)) 0 bt113.2 a0 2 (rd y102 t105) x109003_5 ([] : List (S44)))) = some (r1, r2, r3, r4, r5, r6) := H
          have A26 := Aside0.mk A260
          clear A260
          replace H := Option.bind_eq_some_iff.mp H
          obtain ⟨⟨t113, t114⟩, A270, H⟩ := H
          replace H : (mootmake_table.l0 kj5 (wrap64 (t111 * 1000)) (wrap64 (1 + t113)) 0 t114 a0 2 (rd y102 t105) x109003_5 ([] : List (S44))) = some (r1, r2, r3, r4, r5, r6) := H
          have A27 := Aside0.mk A270
          clear A270
          have H' := Aside0.mk H
          clear H
          go_wp2_with (first | ((with_reducible refine gate_callee (f := 28) rfl ?_); refine goesL_ (some 25) rfl rfl Try.func28 (by kernel_rfl) rfl #[.pointer (some ⟨g, 0, none⟩), .int .i64 3] rfl (by (try simp only [List.map_toArray, List.map_cons, List.map_nil]); first | done | rfl | (simp only [List.length_drop, List.length_take]; rfl)) ?_; (with_reducible refine (mootmake_Stream_Next.calls g x2000_5 3 t111 t112 w0 _ ?side1 ?side2 A26.out).mono ?_); (case side1 => repeat (first | (with_reducible first | exact HI1.out | apply IsS51.alloc | apply IsS51.drewN | apply IsS51.drew | refine IsS51.far ?_ NB1_101.out _ | refine IsS51.far ?_ NB1_108.out _) | exact HI1.out)); (case side2 => repeat (first | (with_reducible first | exact HB.out | apply below_alloc | apply pw_below_drewN | apply below_drew1 | refine below_set ?_ (IsS51.ge HI1.out) | refine below_set ?_ GE101.out | refine below_set ?_ GE108.out) | exact HB.out)); rintro e w28 ⟨rfl, hi, hb, hk⟩; refine ⟨_, rfl, ?_⟩; have n0_ := Aside0.mk (KeepBut.blk hk (g' := gb101) (o := .cells #[.string (⟨#[]⟩ : ByteArray), .int .i64 0, .int .i64 0, .bool false, .slice none 0 0] 39 (0, 0)) (by (with_reducible repeat (first | refine blk_drewN ?_ _ | refine blk_drew ?_ | refine blk_alloc ?_ _)); exact BK101.out) NB101_1.out (by simp)); have n1_ := Aside0.mk (KeepBut.blk hk (g' := gb108) (o := .cells #[.string a0, .int .i64 2, .int .i64 (rd y102 t105), .bool x109003_5, .slice none 0 0] 39 (0, 0)) (by (with_reducible repeat (first | refine blk_drewN ?_ _ | refine blk_drew ?_ | refine blk_alloc ?_ _)); exact BK108.out) NB108_1.out (by simp)); have n2_ := Aside0.mk (KeepBut.trans (by repeat (first | (with_reducible first | exact HK.out | apply KeepBut.set_ | apply keep_drewN | apply keep_drew | apply keep_alloc | refine keep_far ?_ GW101.out _ | refine keep_far ?_ GW108.out _) | exact HK.out)) hk (.inl rfl)); have n3_ := Aside0.mk (hb); have n4_ := Aside0.mk (hi); clear BK101; clear BK108; clear HK; clear HB; clear HI1; have BK101 := n0_; have BK108 := n1_; have HK := n2_; have HB := n3_; have HI1 := n4_; clear n0_ n1_ n2_ n3_ n4_; (try clear hb); (try clear hb2); (try clear hk); (try clear hi)) | ((with_reducible refine gate_callee (f := 28) rfl ?_); refine goesL_ (some 28) rfl rfl Try.func28 (by kernel_rfl) rfl #[.pointer (some ⟨g, 0, none⟩), .int .i64 5] rfl (by (try simp only [List.map_toArray, List.map_cons, List.map_nil]); first | done | rfl | (simp only [List.length_drop, List.length_take]; rfl)) ?_; (with_reducible refine (mootmake_Stream_Next.calls g t112 5 t113 t114 w0 _ ?side1 ?side2 A27.out).mono ?_); (case side1 => repeat (first | (with_reducible first | exact HI1.out | apply IsS51.alloc | apply IsS51.drewN | apply IsS51.drew | refine IsS51.far ?_ NB1_101.out _ | refine IsS51.far ?_ NB1_108.out _) | exact HI1.out)); (case side2 => repeat (first | (with_reducible first | exact HB.out | apply below_alloc | apply pw_below_drewN | apply below_drew1 | refine below_set ?_ (IsS51.ge HI1.out) | refine below_set ?_ GE101.out | refine below_set ?_ GE108.out) | exact HB.out)); rintro e w29 ⟨rfl, hi, hb, hk⟩; refine ⟨_, rfl, ?_⟩; have n0_ := Aside0.mk (KeepBut.blk hk (g' := gb101) (o := .cells #[.string (⟨#[]⟩ : ByteArray), .int .i64 0, .int .i64 0, .bool false, .slice none 0 0] 39 (0, 0)) (by (with_reducible repeat (first | refine blk_drewN ?_ _ | refine blk_drew ?_ | refine blk_alloc ?_ _)); exact BK101.out) NB101_1.out (by simp)); have n1_ := Aside0.mk (KeepBut.blk hk (g' := gb108) (o := .cells #[.string a0, .int .i64 2, .int .i64 (rd y102 t105), .bool x109003_5, .slice none 0 0] 39 (0, 0)) (by (with_reducible repeat (first | refine blk_drewN ?_ _ | refine blk_drew ?_ | refine blk_alloc ?_ _)); exact BK108.out) NB108_1.out (by simp)); have n2_ := Aside0.mk (KeepBut.trans (by repeat (first | (with_reducible first | exact HK.out | apply KeepBut.set_ | apply keep_drewN | apply keep_drew | apply keep_alloc | refine keep_far ?_ GW101.out _ | refine keep_far ?_ GW108.out _) | exact HK.out)) hk (.inl rfl)); have n3_ := Aside0.mk (hb); have n4_ := Aside0.mk (hi); clear BK101; clear BK108; clear HK; clear HB; clear HI1; have BK101 := n0_; have BK108 := n1_; have HK := n2_; have HB := n3_; have HI1 := n4_; clear n0_ n1_ n2_ n3_ n4_; (try clear hb); (try clear hb2); (try clear hk); (try clear hi)))
          go_loopg [6, 30] kj5 (fun kq v6 v30 w' => ∃ (x6_2 : Int) (x30_2 : Int) (x2000_2 : List Int) (x109004_2 : List (S44)) (u109004 : Value), v6 = .int .i64 x6_2 ∧ v30 = .int .i64 x30_2 ∧ Aside0 (mootmake_table.l0 kq x6_2 (wrap64 (1 + t113)) x30_2 x2000_2 a0 2 (rd y102 t105) x109003_5 x109004_2 = some (r1, r2, r3, r4, r5, r6)) ∧ Aside0 (kq ≤ kj5) ∧ Aside0 (Kd.R k44 44 w' w.heap.size (fun _ => True) u109004 x109004_2) ∧ Aside0 (w'.heap[gb101]? = some (.cells #[.string (⟨#[]⟩ : ByteArray), .int .i64 0, .int .i64 0, .bool false, (.slice none 0 0)] 39 (0, 0))) ∧ Aside0 (w'.heap[gb108]? = some (.cells #[.string a0, .int .i64 2, .int .i64 (rd y102 t105), .bool x109003_5, u109004] 39 (0, 0))) ∧ Aside0 (IsS51 w0 w' g x2000_2) ∧ Aside0 (KeepBut w w' g none) ∧ Aside0 (Below w0.heap.size w0 w'))
          case atStart => exact ⟨(wrap64 (t111 * 1000)), (0), (t114), (([] : List (S44))), (.slice none 0 0), (by first | rfl | (simp; done) | (simp [*]; done)), (by first | rfl | (simp; done) | (simp [*]; done)), H', ⟨Nat.le_refl _⟩, ⟨by first | exact Kd.R_nil _ _ _ _ _ | exact Kd.N_nil _ _ _ _ _ | exact Kd.V_nil _ _ _ _ _ | exact Kd.Q_nil _ _ _ _ _ | exact Kd.S_nil _ _ _ _ _⟩, ⟨by (with_reducible repeat (first | refine blk_drewN ?_ _ | refine blk_drew ?_ | refine blk_alloc ?_ _)); exact BK101.out⟩, ⟨by (with_reducible repeat (first | refine blk_drewN ?_ _ | refine blk_drew ?_ | refine blk_alloc ?_ _)); exact BK108.out⟩, ⟨by repeat (first | (with_reducible first | exact HI1.out | apply IsS51.alloc | apply IsS51.drewN | apply IsS51.drew | refine IsS51.far ?_ NB1_101.out _ | refine IsS51.far ?_ NB1_108.out _) | exact HI1.out)⟩, ⟨by repeat (first | (with_reducible first | exact HK.out | apply KeepBut.set_ | apply keep_drewN | apply keep_drew | apply keep_alloc | refine keep_far ?_ GW101.out _ | refine keep_far ?_ GW108.out _) | exact HK.out)⟩, ⟨by repeat (first | (with_reducible first | exact HB.out | apply below_alloc | apply pw_below_drewN | apply below_drew1 | refine below_set ?_ (IsS51.ge HI1.out) | refine below_set ?_ GE101.out | refine below_set ?_ GE108.out) | exact HB.out)⟩⟩
          case round =>
            clear H'
            try clear c1
            try clear p1
            try clear q1
            try clear hx1
            try clear c2
            try clear p2
            try clear c4
            try clear c4b0
            try clear c5
            try clear c5b0
            try clear p6
            try clear p10
            try clear q10
            try clear hx10
            try clear c13
            try clear c14
            try clear c16
            try clear c16b0
            try clear c16b1
            try clear c18
            try clear c19
            try clear c23
            try clear c24
            try clear c28
            try clear hcz15_0
            try clear hcz15_1
            try clear hcz15_2
            try clear hcz15_3
            try clear hcz15_4
            try clear hcz20_0
            try clear hcz20_1
            try clear hcz20_2
            try clear hcz20_3
            try clear hcz20_4
            try clear hcz22_0
            try clear hcz22_1
            try clear hcz22_2
            try clear hcz22_3
            try clear hcz22_4
            try clear hcz25_0
            try clear hcz25_1
            try clear hcz25_2
            try clear hcz25_3
            try clear hcz25_4
            try clear hfz15_0
            try clear hfz15_1
            try clear hfz15_2
            try clear hfz15_3
            try clear hfz15_4
            try clear hfz20_0
            try clear hfz20_1
            try clear hfz20_2
            try clear hfz20_3
            try clear hfz20_4
            try clear hfz22_0
            try clear hfz22_1
            try clear hfz22_2
            try clear hfz22_3
            try clear hfz22_4
            try clear hfz25_0
            try clear hfz25_1
            try clear hfz25_2
            try clear hfz25_3
            try clear hfz25_4
            try clear hx107_0
            try clear p1
            try clear p10
            try clear p107
            try clear p2
            try clear q1
            try clear q10
            try clear q107
            obtain ⟨x6_2, x30_2, x2000_2, x109004_2, u109004, rfl, rfl, HA, HK2, HO_109004, BK101, BK108, HI1, HK, HB⟩ := hrel
            cases gk with
            | zero => exact absurd HA.out (by simp [mootmake_table.l0])
            | succ k2 =>
              have H := HA.out
              clear HA
              simp only [mootmake_table.l0] at H
              by_cases c30 : x30_2 < (wrap64 (1 + t113))
              · rw [if_pos c30] at H
                have c30b0 : decide (x30_2 < (wrap64 (1 + t113))) = true := decide_eq_true c30
                clear c30
                replace H := Option.bind_eq_some_iff.mp H
                obtain ⟨⟨t115, t116⟩, A310, H⟩ := H
                replace H : (if (rd y102 t105) = 2 then (mootmake_table.j2 k2 x6_2 (wrap64 (t115 * 50000)) (wrap64 (1 + t113)) x30_2 (!x109003_5) t116 a0 2 (rd y102 t105) x109003_5 x109004_2) else (mootmake_table.j2 k2 x6_2 (wrap64 (t115 * 50000)) (wrap64 (1 + t113)) x30_2 false t116 a0 2 (rd y102 t105) x109003_5 x109004_2)) = some (r1, r2, r3, r4, r5, r6) := H
                have A31 := Aside0.mk A310
                clear A310
                have HC32 := Aside0.mk H
                clear H
                go_upto_region 7 with (first | ((with_reducible refine gate_callee (f := 28) rfl ?_); refine goesL_ (some 33) rfl rfl Try.func28 (by kernel_rfl) rfl #[.pointer (some ⟨g, 0, none⟩), .int .i64 21] rfl (by (try simp only [List.map_toArray, List.map_cons, List.map_nil]); first | done | rfl | (simp only [List.length_drop, List.length_take]; rfl)) ?_; (with_reducible refine (mootmake_Stream_Next.calls g x2000_2 21 t115 t116 w0 _ ?side1 ?side2 A31.out).mono ?_); (case side1 => repeat (first | (with_reducible first | exact HI1.out | apply IsS51.alloc | apply IsS51.drewN | apply IsS51.drew | refine IsS51.far ?_ NB1_101.out _ | refine IsS51.far ?_ NB1_108.out _) | exact HI1.out)); (case side2 => repeat (first | (with_reducible first | exact HB.out | apply below_alloc | apply pw_below_drewN | apply below_drew1 | refine below_set ?_ (IsS51.ge HI1.out) | refine below_set ?_ GE101.out | refine below_set ?_ GE108.out) | exact HB.out)); rintro e w33 ⟨rfl, hi, hb, hk⟩; refine ⟨_, rfl, ?_⟩; have n0_ := Aside0.mk (Kd.R_mono (Kd.R_keep (IsS51.apart (show IsS51 w0 _ g x2000_2 from by repeat (first | (with_reducible first | exact HI1.out | apply IsS51.alloc | apply IsS51.drewN | apply IsS51.drew | refine IsS51.far ?_ NB1_101.out _ | refine IsS51.far ?_ NB1_108.out _) | exact HI1.out)) (by (with_reducible repeat (first | apply Kd.R_alloc | apply Kd.R_drewN | apply Kd.R_drew)); exact HO_109004.out) (by decide)) hk (fun _ h => h.2)) (fun _ h => h.1)); have n1_ := Aside0.mk (KeepBut.blk hk (g' := gb101) (o := .cells #[.string (⟨#[]⟩ : ByteArray), .int .i64 0, .int .i64 0, .bool false, .slice none 0 0] 39 (0, 0)) (by (with_reducible repeat (first | refine blk_drewN ?_ _ | refine blk_drew ?_ | refine blk_alloc ?_ _)); exact BK101.out) NB101_1.out (by simp)); have n2_ := Aside0.mk (KeepBut.blk hk (g' := gb108) (o := .cells #[.string a0, .int .i64 2, .int .i64 (rd y102 t105), .bool x109003_5, u109004] 39 (0, 0)) (by (with_reducible repeat (first | refine blk_drewN ?_ _ | refine blk_drew ?_ | refine blk_alloc ?_ _)); exact BK108.out) NB108_1.out (by simp)); have n3_ := Aside0.mk (KeepBut.trans (by repeat (first | (with_reducible first | exact HK.out | apply KeepBut.set_ | apply keep_drewN | apply keep_drew | apply keep_alloc | refine keep_far ?_ GW101.out _ | refine keep_far ?_ GW108.out _) | exact HK.out)) hk (.inl rfl)); have n4_ := Aside0.mk (hb); have n5_ := Aside0.mk (hi); clear HO_109004; clear BK101; clear BK108; clear HK; clear HB; clear HI1; have HO_109004 := n0_; have BK101 := n1_; have BK108 := n2_; have HK := n3_; have HB := n4_; have HI1 := n5_; clear n0_ n1_ n2_ n3_ n4_ n5_; (try clear hb); (try clear hb2); (try clear hk); (try clear hi)))
                (try simp only [Act.put, List.setIfInBounds_toArray, List.set_cons_zero, List.set_cons_succ])
                go_cut [42] (fun v42 wc => ∃ (kq : Nat) (x42_31 : Bool), v42 = .bool x42_31 ∧ Aside0 (mootmake_table.j2 kq x6_2 (wrap64 (t115 * 50000)) (wrap64 (1 + t113)) x30_2 x42_31 t116 a0 2 (rd y102 t105) x109003_5 x109004_2 = some (r1, r2, r3, r4, r5, r6)) ∧ Aside0 (kq ≤ k2) ∧ Aside0 (Kd.R k44 44 wc w.heap.size (fun _ => True) u109004 x109004_2) ∧ Aside0 (wc.heap[gb101]? = some (.cells #[.string (⟨#[]⟩ : ByteArray), .int .i64 0, .int .i64 0, .bool false, (.slice none 0 0)] 39 (0, 0))) ∧ Aside0 (wc.heap[gb108]? = some (.cells #[.string a0, .int .i64 2, .int .i64 (rd y102 t105), .bool x109003_5, u109004] 39 (0, 0))) ∧ Aside0 (IsS51 w0 wc g t116) ∧ Aside0 (KeepBut w wc g none) ∧ Aside0 (Below w0.heap.size w0 wc))
                case first =>
                  have H := HC32.out
                  clear HC32
                  by_cases c34 : (rd y102 t105) = 2
                  · rw [if_pos c34] at H
                    have c34b0 : ((rd y102 t105) == 2) = true := beq_iff_eq.mpr c34
                    have c34b1 : ((rd y102 t105) != 2) = false := bne_eq_false_iff_eq.mpr c34
                    clear c34
                    (first | rw [c34b0] | (simp only [i64_w, i32_w]; rw [c34b0]) | skip)
                    have H' := Aside0.mk H
                    clear H
                    have hnb35 := NB108_101.out
                    have hnc35 := NB101_108.out
                    have hnb36 := NB108_1.out
                    have hnc36 := NB1_108.out
                    have hcz37_0 : w33.cell? ⟨gb108, 0, none⟩ = some (.string a0) := (blk_cell BK108.out 0).trans rfl
                    have hcz37_1 : w33.cell? ⟨gb108, 1, none⟩ = some (.int .i64 2) := (blk_cell BK108.out 1).trans rfl
                    have hcz37_2 : w33.cell? ⟨gb108, 2, none⟩ = some (.int .i64 (rd y102 t105)) := (blk_cell BK108.out 2).trans rfl
                    have hcz37_3 : w33.cell? ⟨gb108, 3, none⟩ = some (.bool x109003_5) := (blk_cell BK108.out 3).trans rfl
                    have hcz37_4 : w33.cell? ⟨gb108, 4, none⟩ = some (u109004) := (blk_cell BK108.out 4).trans rfl
                    have hfz37_0 := blk_frozen BK108.out 0
                    have hfz37_1 := blk_frozen BK108.out 1
                    have hfz37_2 := blk_frozen BK108.out 2
                    have hfz37_3 := blk_frozen BK108.out 3
                    have hfz37_4 := blk_frozen BK108.out 4
                    go_wp2
                    go_meet
                    case rel => exact ⟨_, (!x109003_5), (by first | rfl | (simp; done) | (simp [*]; done)), H', ⟨by have := HJ5.out; have := HK2.out; first | omega | exact Nat.le_refl _⟩, ⟨by (with_reducible repeat (first | apply Kd.R_alloc | apply Kd.R_drewN | apply Kd.R_drew)); exact HO_109004.out⟩, ⟨by (with_reducible repeat (first | refine blk_drewN ?_ _ | refine blk_drew ?_ | refine blk_alloc ?_ _)); exact BK101.out⟩, ⟨by (with_reducible repeat (first | refine blk_drewN ?_ _ | refine blk_drew ?_ | refine blk_alloc ?_ _)); exact BK108.out⟩, ⟨by repeat (first | (with_reducible first | exact HI1.out | apply IsS51.alloc | apply IsS51.drewN | apply IsS51.drew | refine IsS51.far ?_ NB1_101.out _ | refine IsS51.far ?_ NB1_108.out _) | exact HI1.out)⟩, ⟨by repeat (first | (with_reducible first | exact HK.out | apply KeepBut.set_ | apply keep_drewN | apply keep_drew | apply keep_alloc | refine keep_far ?_ GW101.out _ | refine keep_far ?_ GW108.out _) | exact HK.out)⟩, ⟨by repeat (first | (with_reducible first | exact HB.out | apply below_alloc | apply pw_below_drewN | apply below_drew1 | refine below_set ?_ (IsS51.ge HI1.out) | refine below_set ?_ GE101.out | refine below_set ?_ GE108.out) | exact HB.out)⟩⟩
                  · rw [if_neg c34] at H
                    have c34b0 : ((rd y102 t105) == 2) = false := beq_eq_false_iff_ne.mpr c34
                    have c34b1 : ((rd y102 t105) != 2) = true := bne_iff_ne.mpr c34
                    (first | rw [c34b0] | (simp only [i64_w, i32_w]; rw [c34b0]) | skip)
                    have H' := Aside0.mk H
                    clear H
                    have hnb38 := NB108_101.out
                    have hnc38 := NB101_108.out
                    have hnb39 := NB108_1.out
                    have hnc39 := NB1_108.out
                    have hcz40_0 : w33.cell? ⟨gb108, 0, none⟩ = some (.string a0) := (blk_cell BK108.out 0).trans rfl
                    have hcz40_1 : w33.cell? ⟨gb108, 1, none⟩ = some (.int .i64 2) := (blk_cell BK108.out 1).trans rfl
                    have hcz40_2 : w33.cell? ⟨gb108, 2, none⟩ = some (.int .i64 (rd y102 t105)) := (blk_cell BK108.out 2).trans rfl
                    have hcz40_3 : w33.cell? ⟨gb108, 3, none⟩ = some (.bool x109003_5) := (blk_cell BK108.out 3).trans rfl
                    have hcz40_4 : w33.cell? ⟨gb108, 4, none⟩ = some (u109004) := (blk_cell BK108.out 4).trans rfl
                    have hfz40_0 := blk_frozen BK108.out 0
                    have hfz40_1 := blk_frozen BK108.out 1
                    have hfz40_2 := blk_frozen BK108.out 2
                    have hfz40_3 := blk_frozen BK108.out 3
                    have hfz40_4 := blk_frozen BK108.out 4
                    go_wp2
                    go_meet
                    case rel => exact ⟨_, (false), (by first | rfl | (simp; done) | (simp [*]; done)), H', ⟨by have := HJ5.out; have := HK2.out; first | omega | exact Nat.le_refl _⟩, ⟨by (with_reducible repeat (first | apply Kd.R_alloc | apply Kd.R_drewN | apply Kd.R_drew)); exact HO_109004.out⟩, ⟨by (with_reducible repeat (first | refine blk_drewN ?_ _ | refine blk_drew ?_ | refine blk_alloc ?_ _)); exact BK101.out⟩, ⟨by (with_reducible repeat (first | refine blk_drewN ?_ _ | refine blk_drew ?_ | refine blk_alloc ?_ _)); exact BK108.out⟩, ⟨by repeat (first | (with_reducible first | exact HI1.out | apply IsS51.alloc | apply IsS51.drewN | apply IsS51.drew | refine IsS51.far ?_ NB1_101.out _ | refine IsS51.far ?_ NB1_108.out _) | exact HI1.out)⟩, ⟨by repeat (first | (with_reducible first | exact HK.out | apply KeepBut.set_ | apply keep_drewN | apply keep_drew | apply keep_alloc | refine keep_far ?_ GW101.out _ | refine keep_far ?_ GW108.out _) | exact HK.out)⟩, ⟨by repeat (first | (with_reducible first | exact HB.out | apply below_alloc | apply pw_below_drewN | apply below_drew1 | refine below_set ?_ (IsS51.ge HI1.out) | refine below_set ?_ GE101.out | refine below_set ?_ GE108.out) | exact HB.out)⟩⟩
                case rest =>
                  clear HC32
                  try clear c1
                  try clear p1
                  try clear q1
                  try clear hx1
                  try clear c2
                  try clear p2
                  try clear c3
                  try clear c4
                  try clear c4b0
                  try clear c5
                  try clear c5b0
                  try clear p6
                  try clear p10
                  try clear q10
                  try clear hx10
                  try clear c13
                  try clear c14
                  try clear c16
                  try clear c16b0
                  try clear c16b1
                  try clear c18
                  try clear c19
                  try clear c23
                  try clear c24
                  try clear c28
                  try clear c30
                  try clear c30b0
                  try clear c34
                  try clear c34b0
                  try clear c34b1
                  try clear c35
                  try clear c36
                  try clear c38
                  try clear c39
                  try clear hcz15_0
                  try clear hcz15_1
                  try clear hcz15_2
                  try clear hcz15_3
                  try clear hcz15_4
                  try clear hcz20_0
                  try clear hcz20_1
                  try clear hcz20_2
                  try clear hcz20_3
                  try clear hcz20_4
                  try clear hcz22_0
                  try clear hcz22_1
                  try clear hcz22_2
                  try clear hcz22_3
                  try clear hcz22_4
                  try clear hcz25_0
                  try clear hcz25_1
                  try clear hcz25_2
                  try clear hcz25_3
                  try clear hcz25_4
                  try clear hcz37_0
                  try clear hcz37_1
                  try clear hcz37_2
                  try clear hcz37_3
                  try clear hcz37_4
                  try clear hcz40_0
                  try clear hcz40_1
                  try clear hcz40_2
                  try clear hcz40_3
                  try clear hcz40_4
                  try clear hfz15_0
                  try clear hfz15_1
                  try clear hfz15_2
                  try clear hfz15_3
                  try clear hfz15_4
                  try clear hfz20_0
                  try clear hfz20_1
                  try clear hfz20_2
                  try clear hfz20_3
                  try clear hfz20_4
                  try clear hfz22_0
                  try clear hfz22_1
                  try clear hfz22_2
                  try clear hfz22_3
                  try clear hfz22_4
                  try clear hfz25_0
                  try clear hfz25_1
                  try clear hfz25_2
                  try clear hfz25_3
                  try clear hfz25_4
                  try clear hfz37_0
                  try clear hfz37_1
                  try clear hfz37_2
                  try clear hfz37_3
                  try clear hfz37_4
                  try clear hfz40_0
                  try clear hfz40_1
                  try clear hfz40_2
                  try clear hfz40_3
                  try clear hfz40_4
                  try clear hx107_0
                  try clear p1
                  try clear p10
                  try clear p107
                  try clear p2
                  try clear p6
                  try clear q1
                  try clear q10
                  try clear q107
                  obtain ⟨kq, x42_31, rfl, HA, HJ31, HO_109004, BK101, BK108, HI1, HK, HB⟩ := hcut
                  cases kq with
                  | zero => exact absurd HA.out (by simp [mootmake_table.j2])
                  | succ kj31 =>
                    have H := HA.out
                    clear HA
                    simp only [mootmake_table.j2] at H
                    by_cases c41 : x42_31 = true
                    · subst c41
                      have H1 : ((mootmake_Stream_Next.f t116 100).bind fun bt117 => (if x109004_2.length < 8796093022208 then ((mootmake_Stream_Next.f bt117.2 60000).bind fun bt122 => (mootmake_table.l0 kj31 (wrap64 (x6_2 + (wrap64 (1 + bt122.1)))) (wrap64 (1 + t113)) (wrap64 (x30_2 + 1)) bt122.2 a0 2 (rd y102 t105) x109003_5 (x109004_2 ++ [(⟨x6_2, wrap64 (bt117.1 * 500)⟩ : S44)]))) else (none))) = some (r1, r2, r3, r4, r5, r6) := by rw [if_pos rfl] at H; exact H
                      clear H
                      have H := H1
                      clear H1
                      replace H := Option.bind_eq_some_iff.mp H
                      obtain ⟨⟨t117, t118⟩, A420, H⟩ := H
                      replace H : (if x109004_2.length < 8796093022208 then ((mootmake_Stream_Next.f t118 60000).bind fun bt122 => (mootmake_table.l0 kj31 (wrap64 (x6_2 + (wrap64 (1 + bt122.1)))) (wrap64 (1 + t113)) (wrap64 (x30_2 + 1)) bt122.2 a0 2 (rd y102 t105) x109003_5 (x109004_2 ++ [(⟨x6_2, wrap64 (t117 * 500)⟩ : S44)]))) else (none)) = some (r1, r2, r3, r4, r5, r6) := H
                      have A42 := Aside0.mk A420
                      clear A420
                      by_cases c43 : x109004_2.length < 8796093022208
                      · rw [if_pos c43] at H
                        have LMc43 := Aside0.mk c43
                        clear c43
                        obtain ⟨y119, hy119⟩ : ∃ y_ : List (S44), y_ = (x109004_2 ++ [(⟨x6_2, wrap64 (t117 * 500)⟩ : S44)]) := ⟨_, rfl⟩
                        replace H : ((mootmake_Stream_Next.f t118 60000).bind fun bt122 => (mootmake_table.l0 kj31 (wrap64 (x6_2 + (wrap64 (1 + bt122.1)))) (wrap64 (1 + t113)) (wrap64 (x30_2 + 1)) bt122.2 a0 2 (rd y102 t105) x109003_5 y119)) = some (r1, r2, r3, r4, r5, r6) := by first | (rw [hy119]; with_reducible exact H) | (have H2_ := (Option.bind_some _ _).symm.trans H; rw [hy119]; with_reducible exact H2_) | (have H2_ := (Option.bind_some _ _).symm.trans H; with_reducible exact H2_) | with_reducible exact H | (rw [hy119]; exact H) | exact H
                        have Ny119 := Aside0.mk hy119
                        clear hy119
                        replace H := Option.bind_eq_some_iff.mp H
                        obtain ⟨⟨t122, t123⟩, A440, H⟩ := H
                        replace H : (mootmake_table.l0 kj31 (wrap64 (x6_2 + (wrap64 (1 + t122)))) (wrap64 (1 + t113)) (wrap64 (x30_2 + 1)) t123 a0 2 (rd y102 t105) x109003_5 y119) = some (r1, r2, r3, r4, r5, r6) := H
                        have A44 := Aside0.mk A440
                        clear A440
                        have H' := Aside0.mk H
                        clear H
                        go_wp2_with (first | ((with_reducible refine gate_callee (f := 28) rfl ?_); refine goesL_ (some 44) rfl rfl Try.func28 (by kernel_rfl) rfl #[.pointer (some ⟨g, 0, none⟩), .int .i64 100] rfl (by (try simp only [List.map_toArray, List.map_cons, List.map_nil]); first | done | rfl | (simp only [List.length_drop, List.length_take]; rfl)) ?_; (with_reducible refine (mootmake_Stream_Next.calls g t116 100 t117 t118 w0 _ ?side1 ?side2 A42.out).mono ?_); (case side1 => repeat (first | (with_reducible first | exact HI1.out | apply IsS51.alloc | apply IsS51.drewN | apply IsS51.drew | refine IsS51.far ?_ NB1_101.out _ | refine IsS51.far ?_ NB1_108.out _) | exact HI1.out)); (case side2 => repeat (first | (with_reducible first | exact HB.out | apply below_alloc | apply pw_below_drewN | apply below_drew1 | refine below_set ?_ (IsS51.ge HI1.out) | refine below_set ?_ GE101.out | refine below_set ?_ GE108.out) | exact HB.out)); rintro e w45 ⟨rfl, hi, hb, hk⟩; refine ⟨_, rfl, ?_⟩; have n0_ := Aside0.mk (Kd.R_mono (Kd.R_keep (IsS51.apart (show IsS51 w0 _ g t116 from by repeat (first | (with_reducible first | exact HI1.out | apply IsS51.alloc | apply IsS51.drewN | apply IsS51.drew | refine IsS51.far ?_ NB1_101.out _ | refine IsS51.far ?_ NB1_108.out _) | exact HI1.out)) (by (with_reducible repeat (first | apply Kd.R_alloc | apply Kd.R_drewN | apply Kd.R_drew)); exact HO_109004.out) (by decide)) hk (fun _ h => h.2)) (fun _ h => h.1)); have n1_ := Aside0.mk (KeepBut.blk hk (g' := gb101) (o := .cells #[.string (⟨#[]⟩ : ByteArray), .int .i64 0, .int .i64 0, .bool false, .slice none 0 0] 39 (0, 0)) (by (with_reducible repeat (first | refine blk_drewN ?_ _ | refine blk_drew ?_ | refine blk_alloc ?_ _)); exact BK101.out) NB101_1.out (by simp)); have n2_ := Aside0.mk (KeepBut.blk hk (g' := gb108) (o := .cells #[.string a0, .int .i64 2, .int .i64 (rd y102 t105), .bool x109003_5, u109004] 39 (0, 0)) (by (with_reducible repeat (first | refine blk_drewN ?_ _ | refine blk_drew ?_ | refine blk_alloc ?_ _)); exact BK108.out) NB108_1.out (by simp)); have n3_ := Aside0.mk (KeepBut.trans (by repeat (first | (with_reducible first | exact HK.out | apply KeepBut.set_ | apply keep_drewN | apply keep_drew | apply keep_alloc | refine keep_far ?_ GW101.out _ | refine keep_far ?_ GW108.out _) | exact HK.out)) hk (.inl rfl)); have n4_ := Aside0.mk (hb); have n5_ := Aside0.mk (hi); clear HO_109004; clear BK101; clear BK108; clear HK; clear HB; clear HI1; have HO_109004 := n0_; have BK101 := n1_; have BK108 := n2_; have HK := n3_; have HB := n4_; have HI1 := n5_; clear n0_ n1_ n2_ n3_ n4_ n5_; (try clear hb); (try clear hb2); (try clear hk); (try clear hi); have hnb46 := NB108_101.out; have hnc46 := NB101_108.out; have hnb47 := NB108_1.out; have hnc47 := NB1_108.out; have hcz48_0 : w45.cell? ⟨gb108, 0, none⟩ = some (.string a0) := (blk_cell BK108.out 0).trans rfl; have hcz48_1 : w45.cell? ⟨gb108, 1, none⟩ = some (.int .i64 2) := (blk_cell BK108.out 1).trans rfl; have hcz48_2 : w45.cell? ⟨gb108, 2, none⟩ = some (.int .i64 (rd y102 t105)) := (blk_cell BK108.out 2).trans rfl; have hcz48_3 : w45.cell? ⟨gb108, 3, none⟩ = some (.bool x109003_5) := (blk_cell BK108.out 3).trans rfl; have hcz48_4 : w45.cell? ⟨gb108, 4, none⟩ = some (u109004) := (blk_cell BK108.out 4).trans rfl; have hfz48_0 := blk_frozen BK108.out 0; have hfz48_1 := blk_frozen BK108.out 1; have hfz48_2 := blk_frozen BK108.out 2; have hfz48_3 := blk_frozen BK108.out 3; have hfz48_4 := blk_frozen BK108.out 4) | ((with_reducible refine gate_builtin (b := .append) (xs := #[.tmp 47, .tmp 51]) rfl ?_); at_builtin; refine Kd.R_append k44 w.heap.size rfl (.tmp 47) (.tmp 51) 37 44 (.agg #[(.int .i64 0), (.int .i64 0)]) 16 rfl Try.underlying37 info44 rfl (by decide) (by omega) u109004 x109004_2 (⟨x6_2, wrap64 (t117 * 500)⟩ : S44) [.int .i64 x6_2, .int .i64 (wrap64 (t117 * 500))] (fun _ => True) (fun _ => False) rfl rfl ?aP (fun _ hk => hk.elim) ?aF ?aO (Below.refl _ _) ?aS ?aL ?_; (case aP => exact k44_mkM _ _ _ (⟨x6_2, wrap64 (t117 * 500)⟩ : S44)); (case aF => exact (fun _ _ => trivial)); (case aO => exact (by (with_reducible repeat (first | apply Kd.R_alloc | apply Kd.R_drewN | apply Kd.R_drew)); exact HO_109004.out)); (case aS => exact (keep_size (w := w) (g := g) (row := none) (by repeat (first | (with_reducible first | exact HK.out | apply KeepBut.set_ | apply keep_drewN | apply keep_drew | apply keep_alloc | refine keep_far ?_ GW101.out _ | refine keep_far ?_ GW108.out _) | exact HK.out)))); (case aL => have := LMc43.out; omega); intro v120 w49 ho hb hg hat; rw [← Ny119.out] at ho; have n0_ := Aside0.mk (blk_grown (g := gb101) (o := .cells #[.string (⟨#[]⟩ : ByteArray), .int .i64 0, .int .i64 0, .bool false, .slice none 0 0] 39 (0, 0)) (by (with_reducible repeat (first | refine blk_drewN ?_ _ | refine blk_drew ?_ | refine blk_alloc ?_ _)); exact BK101.out) hg (Kd.R_ne HO_109004.out BK101.out (by decide))); have n1_ := Aside0.mk (blk_grown (g := gb108) (o := .cells #[.string a0, .int .i64 2, .int .i64 (rd y102 t105), .bool x109003_5, u109004] 39 (0, 0)) (by (with_reducible repeat (first | refine blk_drewN ?_ _ | refine blk_drew ?_ | refine blk_alloc ?_ _)); exact BK108.out) hg (Kd.R_ne HO_109004.out BK108.out (by decide))); have n2_ := Aside0.mk (IsS51.grown (show IsS51 w0 _ g t118 from by repeat (first | (with_reducible first | exact HI1.out | apply IsS51.alloc | apply IsS51.drewN | apply IsS51.drew | refine IsS51.far ?_ NB1_101.out _ | refine IsS51.far ?_ NB1_108.out _) | exact HI1.out)) hg (IsS51.own_ne HI1.out HO_109004.out (by decide))); have n3_ := Aside0.mk (below_weaken (by repeat (first | (with_reducible first | exact HB.out | apply below_alloc | apply pw_below_drewN | apply below_drew1 | refine below_set ?_ (IsS51.ge HI1.out) | refine below_set ?_ GE101.out | refine below_set ?_ GE108.out) | exact HB.out)) HL.out hb); have n4_ := Aside0.mk (KeepBut.trans (by repeat (first | (with_reducible first | exact HK.out | apply KeepBut.set_ | apply keep_drewN | apply keep_drew | apply keep_alloc | refine keep_far ?_ GW101.out _ | refine keep_far ?_ GW108.out _) | exact HK.out)) (KeepBut.of_grown hg g) (Kd.R_base2 HO_109004.out)); have n5_ := Aside0.mk (ho); clear BK101; clear BK108; clear HI1; clear HB; clear HK; clear HO_109004; have BK101 := n0_; have BK108 := n1_; have HI1 := n2_; have HB := n3_; have HK := n4_; have HO121 := n5_; clear n0_ n1_ n2_ n3_ n4_ n5_; clear ho hb hg hat; obtain ⟨Ao50, co50, eo50⟩ := Kd.R_slice HO121.out; subst eo50; have hcz51_0 : w49.cell? ⟨gb108, 0, none⟩ = some (.string a0) := (blk_cell BK108.out 0).trans rfl; have hcz51_1 : w49.cell? ⟨gb108, 1, none⟩ = some (.int .i64 2) := (blk_cell BK108.out 1).trans rfl; have hcz51_2 : w49.cell? ⟨gb108, 2, none⟩ = some (.int .i64 (rd y102 t105)) := (blk_cell BK108.out 2).trans rfl; have hcz51_3 : w49.cell? ⟨gb108, 3, none⟩ = some (.bool x109003_5) := (blk_cell BK108.out 3).trans rfl; have hcz51_4 : w49.cell? ⟨gb108, 4, none⟩ = some (u109004) := (blk_cell BK108.out 4).trans rfl; have hfz51_0 := blk_frozen BK108.out 0; have hfz51_1 := blk_frozen BK108.out 1; have hfz51_2 := blk_frozen BK108.out 2; have hfz51_3 := blk_frozen BK108.out 3; have hfz51_4 := blk_frozen BK108.out 4) | ((with_reducible refine gate_callee (f := 28) rfl ?_); refine goesL_ (some 56) rfl rfl Try.func28 (by kernel_rfl) rfl #[.pointer (some ⟨g, 0, none⟩), .int .i64 60000] rfl (by (try simp only [List.map_toArray, List.map_cons, List.map_nil]); first | done | rfl | (simp only [List.length_drop, List.length_take]; rfl)) ?_; (with_reducible refine (mootmake_Stream_Next.calls g t118 60000 t122 t123 w0 _ ?side1 ?side2 A44.out).mono ?_); (case side1 => repeat (first | (with_reducible first | exact HI1.out | apply IsS51.alloc | apply IsS51.drewN | apply IsS51.drew | refine IsS51.far ?_ NB1_101.out _ | refine IsS51.far ?_ NB1_108.out _) | exact HI1.out)); (case side2 => repeat (first | (with_reducible first | exact HB.out | apply below_alloc | apply pw_below_drewN | apply below_drew1 | refine below_set ?_ (IsS51.ge HI1.out) | refine below_set ?_ GE101.out | refine below_set ?_ GE108.out) | exact HB.out)); rintro e w52 ⟨rfl, hi, hb, hk⟩; refine ⟨_, rfl, ?_⟩; have n0_ := Aside0.mk (KeepBut.blk hk (g' := gb101) (o := .cells #[.string (⟨#[]⟩ : ByteArray), .int .i64 0, .int .i64 0, .bool false, .slice none 0 0] 39 (0, 0)) (by (with_reducible repeat (first | refine blk_drewN ?_ _ | refine blk_drew ?_ | refine blk_alloc ?_ _)); refine blk_far ?_ NB101_108.out _; (with_reducible repeat (first | refine blk_drewN ?_ _ | refine blk_drew ?_ | refine blk_alloc ?_ _)); exact BK101.out) NB101_1.out (by simp)); have n1_ := Aside0.mk (KeepBut.blk hk (g' := gb108) (o := .cells #[.string a0, .int .i64 2, .int .i64 (rd y102 t105), .bool x109003_5, .slice Ao50 y119.length co50] 39 (0, 0)) (by (with_reducible repeat (first | refine blk_drewN ?_ _ | refine blk_drew ?_ | refine blk_alloc ?_ _)); refine blk_put (cs := #[.string a0, .int .i64 2, .int .i64 (rd y102 t105), .bool x109003_5, u109004]) ?_ 4 _ rfl; (with_reducible repeat (first | refine blk_drewN ?_ _ | refine blk_drew ?_ | refine blk_alloc ?_ _)); exact BK108.out) NB108_1.out (by simp)); have n2_ := Aside0.mk (Kd.R_mono (Kd.R_keep (IsS51.apart (show IsS51 w0 _ g t118 from by repeat (first | (with_reducible first | exact HI1.out | apply IsS51.alloc | apply IsS51.drewN | apply IsS51.drew | refine IsS51.far ?_ NB1_101.out _ | refine IsS51.far ?_ NB1_108.out _) | exact HI1.out)) (by (with_reducible repeat (first | apply Kd.R_alloc | apply Kd.R_drewN | apply Kd.R_drew)); exact (Kd.R_mono (Kd.R_far (p := ⟨gb108, 4, none⟩) (Kd.R_types HO121.out BK108.out (by decide)) (fun _ hk => hk.2) (.slice Ao50 y119.length co50)) (fun _ h_ => h_.1))) (by decide)) hk (fun _ h => h.2)) (fun _ h => h.1)); have n3_ := Aside0.mk (KeepBut.trans (by repeat (first | (with_reducible first | exact HK.out | apply KeepBut.set_ | apply keep_drewN | apply keep_drew | apply keep_alloc | refine keep_far ?_ GW101.out _ | refine keep_far ?_ GW108.out _) | exact HK.out)) hk (.inl rfl)); have n4_ := Aside0.mk (hb); have n5_ := Aside0.mk (hi); clear BK101; clear BK108; clear HO121; clear HK; clear HB; clear HI1; have BK101 := n0_; have BK108 := n1_; have HO121 := n2_; have HK := n3_; have HB := n4_; have HI1 := n5_; clear n0_ n1_ n2_ n3_ n4_ n5_; (try clear hb); (try clear hb2); (try clear hk); (try clear hi)))
                        go_roundg kj31
                        case measure => have := HJ5.out; have := HK2.out; have := HJ31.out; omega
                        case rel => exact ⟨(wrap64 (x6_2 + (wrap64 (1 + t122)))), (wrap64 (x30_2 + 1)), (t123), (y119), (.slice Ao50 y119.length co50), (by first | rfl | (simp; done) | (simp [*]; done)), (by first | rfl | (simp; done) | (simp [*]; done)), H', ⟨by have := HJ5.out; have := HK2.out; have := HJ31.out; omega⟩, ⟨by (with_reducible repeat (first | apply Kd.R_alloc | apply Kd.R_drewN | apply Kd.R_drew)); exact HO121.out⟩, ⟨by (with_reducible repeat (first | refine blk_drewN ?_ _ | refine blk_drew ?_ | refine blk_alloc ?_ _)); exact BK101.out⟩, ⟨by (with_reducible repeat (first | refine blk_drewN ?_ _ | refine blk_drew ?_ | refine blk_alloc ?_ _)); exact BK108.out⟩, ⟨by repeat (first | (with_reducible first | exact HI1.out | apply IsS51.alloc | apply IsS51.drewN | apply IsS51.drew | refine IsS51.far ?_ NB1_101.out _ | refine IsS51.far ?_ NB1_108.out _) | exact HI1.out)⟩, ⟨by repeat (first | (with_reducible first | exact HK.out | apply KeepBut.set_ | apply keep_drewN | apply keep_drew | apply keep_alloc | refine keep_far ?_ GW101.out _ | refine keep_far ?_ GW108.out _) | exact HK.out)⟩, ⟨by repeat (first | (with_reducible first | exact HB.out | apply below_alloc | apply pw_below_drewN | apply below_drew1 | refine below_set ?_ (IsS51.ge HI1.out) | refine below_set ?_ GE101.out | refine below_set ?_ GE108.out) | exact HB.out)⟩⟩
                      · rw [if_neg c43] at H
                        exact absurd H (by simp)
                    · replace c41 := Bool.eq_false_iff.mpr c41
                      subst c41
                      have H1 : (if x109004_2.length < 8796093022208 then ((mootmake_Stream_Next.f t116 60000).bind fun bt127 => (mootmake_table.l0 kj31 (wrap64 (x6_2 + (wrap64 (1 + bt127.1)))) (wrap64 (1 + t113)) (wrap64 (x30_2 + 1)) bt127.2 a0 2 (rd y102 t105) x109003_5 (x109004_2 ++ [(⟨x6_2, (wrap64 (t115 * 50000))⟩ : S44)]))) else (none)) = some (r1, r2, r3, r4, r5, r6) := by rw [if_neg (show ¬ (false = true) by decide)] at H; exact H
                      clear H
                      have H := H1
                      clear H1
                      by_cases c53 : x109004_2.length < 8796093022208
                      · rw [if_pos c53] at H
                        have LMc53 := Aside0.mk c53
                        clear c53
                        obtain ⟨y124, hy124⟩ : ∃ y_ : List (S44), y_ = (x109004_2 ++ [(⟨x6_2, (wrap64 (t115 * 50000))⟩ : S44)]) := ⟨_, rfl⟩
                        replace H : ((mootmake_Stream_Next.f t116 60000).bind fun bt127 => (mootmake_table.l0 kj31 (wrap64 (x6_2 + (wrap64 (1 + bt127.1)))) (wrap64 (1 + t113)) (wrap64 (x30_2 + 1)) bt127.2 a0 2 (rd y102 t105) x109003_5 y124)) = some (r1, r2, r3, r4, r5, r6) := by first | (rw [hy124]; with_reducible exact H) | (have H2_ := (Option.bind_some _ _).symm.trans H; rw [hy124]; with_reducible exact H2_) | (have H2_ := (Option.bind_some _ _).symm.trans H; with_reducible exact H2_) | with_reducible exact H | (rw [hy124]; exact H) | exact H
                        have Ny124 := Aside0.mk hy124
                        clear hy124
                        replace H := Option.bind_eq_some_iff.mp H
                        obtain ⟨⟨t127, t128⟩, A540, H⟩ := H
                        replace H : (mootmake_table.l0 kj31 (wrap64 (x6_2 + (wrap64 (1 + t127)))) (wrap64 (1 + t113)) (wrap64 (x30_2 + 1)) t128 a0 2 (rd y102 t105) x109003_5 y124) = some (r1, r2, r3, r4, r5, r6) := H
                        have A54 := Aside0.mk A540
                        clear A540
                        have H' := Aside0.mk H
                        clear H
                        have hnb55 := NB108_101.out
                        have hnc55 := NB101_108.out
                        have hnb56 := NB108_1.out
                        have hnc56 := NB1_108.out
                        have hcz57_0 : wc.cell? ⟨gb108, 0, none⟩ = some (.string a0) := (blk_cell BK108.out 0).trans rfl
                        have hcz57_1 : wc.cell? ⟨gb108, 1, none⟩ = some (.int .i64 2) := (blk_cell BK108.out 1).trans rfl
                        have hcz57_2 : wc.cell? ⟨gb108, 2, none⟩ = some (.int .i64 (rd y102 t105)) := (blk_cell BK108.out 2).trans rfl
                        have hcz57_3 : wc.cell? ⟨gb108, 3, none⟩ = some (.bool x109003_5) := (blk_cell BK108.out 3).trans rfl
                        have hcz57_4 : wc.cell? ⟨gb108, 4, none⟩ = some (u109004) := (blk_cell BK108.out 4).trans rfl
                        have hfz57_0 := blk_frozen BK108.out 0
                        have hfz57_1 := blk_frozen BK108.out 1
                        have hfz57_2 := blk_frozen BK108.out 2
                        have hfz57_3 := blk_frozen BK108.out 3
                        have hfz57_4 := blk_frozen BK108.out 4
                        go_wp2_with (first | ((with_reducible refine gate_builtin (b := .append) (xs := #[.tmp 47, .tmp 51]) rfl ?_); at_builtin; refine Kd.R_append k44 w.heap.size rfl (.tmp 47) (.tmp 51) 37 44 (.agg #[(.int .i64 0), (.int .i64 0)]) 16 rfl Try.underlying37 info44 rfl (by decide) (by omega) u109004 x109004_2 (⟨x6_2, (wrap64 (t115 * 50000))⟩ : S44) [.int .i64 x6_2, .int .i64 (wrap64 (t115 * 50000))] (fun _ => True) (fun _ => False) rfl rfl ?aP (fun _ hk => hk.elim) ?aF ?aO (Below.refl _ _) ?aS ?aL ?_; (case aP => exact k44_mkM _ _ _ (⟨x6_2, (wrap64 (t115 * 50000))⟩ : S44)); (case aF => exact (fun _ _ => trivial)); (case aO => exact (by (with_reducible repeat (first | apply Kd.R_alloc | apply Kd.R_drewN | apply Kd.R_drew)); exact HO_109004.out)); (case aS => exact (keep_size (w := w) (g := g) (row := none) (by repeat (first | (with_reducible first | exact HK.out | apply KeepBut.set_ | apply keep_drewN | apply keep_drew | apply keep_alloc | refine keep_far ?_ GW101.out _ | refine keep_far ?_ GW108.out _) | exact HK.out)))); (case aL => have := LMc53.out; omega); intro v125 w58 ho hb hg hat; rw [← Ny124.out] at ho; have n0_ := Aside0.mk (blk_grown (g := gb101) (o := .cells #[.string (⟨#[]⟩ : ByteArray), .int .i64 0, .int .i64 0, .bool false, .slice none 0 0] 39 (0, 0)) (by (with_reducible repeat (first | refine blk_drewN ?_ _ | refine blk_drew ?_ | refine blk_alloc ?_ _)); exact BK101.out) hg (Kd.R_ne HO_109004.out BK101.out (by decide))); have n1_ := Aside0.mk (blk_grown (g := gb108) (o := .cells #[.string a0, .int .i64 2, .int .i64 (rd y102 t105), .bool x109003_5, u109004] 39 (0, 0)) (by (with_reducible repeat (first | refine blk_drewN ?_ _ | refine blk_drew ?_ | refine blk_alloc ?_ _)); exact BK108.out) hg (Kd.R_ne HO_109004.out BK108.out (by decide))); have n2_ := Aside0.mk (IsS51.grown (show IsS51 w0 _ g t116 from by repeat (first | (with_reducible first | exact HI1.out | apply IsS51.alloc | apply IsS51.drewN | apply IsS51.drew | refine IsS51.far ?_ NB1_101.out _ | refine IsS51.far ?_ NB1_108.out _) | exact HI1.out)) hg (IsS51.own_ne HI1.out HO_109004.out (by decide))); have n3_ := Aside0.mk (below_weaken (by repeat (first | (with_reducible first | exact HB.out | apply below_alloc | apply pw_below_drewN | apply below_drew1 | refine below_set ?_ (IsS51.ge HI1.out) | refine below_set ?_ GE101.out | refine below_set ?_ GE108.out) | exact HB.out)) HL.out hb); have n4_ := Aside0.mk (KeepBut.trans (by repeat (first | (with_reducible first | exact HK.out | apply KeepBut.set_ | apply keep_drewN | apply keep_drew | apply keep_alloc | refine keep_far ?_ GW101.out _ | refine keep_far ?_ GW108.out _) | exact HK.out)) (KeepBut.of_grown hg g) (Kd.R_base2 HO_109004.out)); have n5_ := Aside0.mk (ho); clear BK101; clear BK108; clear HI1; clear HB; clear HK; clear HO_109004; have BK101 := n0_; have BK108 := n1_; have HI1 := n2_; have HB := n3_; have HK := n4_; have HO126 := n5_; clear n0_ n1_ n2_ n3_ n4_ n5_; clear ho hb hg hat; obtain ⟨Ao59, co59, eo59⟩ := Kd.R_slice HO126.out; subst eo59; have hcz60_0 : w58.cell? ⟨gb108, 0, none⟩ = some (.string a0) := (blk_cell BK108.out 0).trans rfl; have hcz60_1 : w58.cell? ⟨gb108, 1, none⟩ = some (.int .i64 2) := (blk_cell BK108.out 1).trans rfl; have hcz60_2 : w58.cell? ⟨gb108, 2, none⟩ = some (.int .i64 (rd y102 t105)) := (blk_cell BK108.out 2).trans rfl; have hcz60_3 : w58.cell? ⟨gb108, 3, none⟩ = some (.bool x109003_5) := (blk_cell BK108.out 3).trans rfl; have hcz60_4 : w58.cell? ⟨gb108, 4, none⟩ = some (u109004) := (blk_cell BK108.out 4).trans rfl; have hfz60_0 := blk_frozen BK108.out 0; have hfz60_1 := blk_frozen BK108.out 1; have hfz60_2 := blk_frozen BK108.out 2; have hfz60_3 := blk_frozen BK108.out 3; have hfz60_4 := blk_frozen BK108.out 4) | ((with_reducible refine gate_callee (f := 28) rfl ?_); refine goesL_ (some 56) rfl rfl Try.func28 (by kernel_rfl) rfl #[.pointer (some ⟨g, 0, none⟩), .int .i64 60000] rfl (by (try simp only [List.map_toArray, List.map_cons, List.map_nil]); first | done | rfl | (simp only [List.length_drop, List.length_take]; rfl)) ?_; (with_reducible refine (mootmake_Stream_Next.calls g t116 60000 t127 t128 w0 _ ?side1 ?side2 A54.out).mono ?_); (case side1 => repeat (first | (with_reducible first | exact HI1.out | apply IsS51.alloc | apply IsS51.drewN | apply IsS51.drew | refine IsS51.far ?_ NB1_101.out _ | refine IsS51.far ?_ NB1_108.out _) | exact HI1.out)); (case side2 => repeat (first | (with_reducible first | exact HB.out | apply below_alloc | apply pw_below_drewN | apply below_drew1 | refine below_set ?_ (IsS51.ge HI1.out) | refine below_set ?_ GE101.out | refine below_set ?_ GE108.out) | exact HB.out)); rintro e w61 ⟨rfl, hi, hb, hk⟩; refine ⟨_, rfl, ?_⟩; have n0_ := Aside0.mk (KeepBut.blk hk (g' := gb101) (o := .cells #[.string (⟨#[]⟩ : ByteArray), .int .i64 0, .int .i64 0, .bool false, .slice none 0 0] 39 (0, 0)) (by (with_reducible repeat (first | refine blk_drewN ?_ _ | refine blk_drew ?_ | refine blk_alloc ?_ _)); refine blk_far ?_ NB101_108.out _; (with_reducible repeat (first | refine blk_drewN ?_ _ | refine blk_drew ?_ | refine blk_alloc ?_ _)); exact BK101.out) NB101_1.out (by simp)); have n1_ := Aside0.mk (KeepBut.blk hk (g' := gb108) (o := .cells #[.string a0, .int .i64 2, .int .i64 (rd y102 t105), .bool x109003_5, .slice Ao59 y124.length co59] 39 (0, 0)) (by (with_reducible repeat (first | refine blk_drewN ?_ _ | refine blk_drew ?_ | refine blk_alloc ?_ _)); refine blk_put (cs := #[.string a0, .int .i64 2, .int .i64 (rd y102 t105), .bool x109003_5, u109004]) ?_ 4 _ rfl; (with_reducible repeat (first | refine blk_drewN ?_ _ | refine blk_drew ?_ | refine blk_alloc ?_ _)); exact BK108.out) NB108_1.out (by simp)); have n2_ := Aside0.mk (Kd.R_mono (Kd.R_keep (IsS51.apart (show IsS51 w0 _ g t116 from by repeat (first | (with_reducible first | exact HI1.out | apply IsS51.alloc | apply IsS51.drewN | apply IsS51.drew | refine IsS51.far ?_ NB1_101.out _ | refine IsS51.far ?_ NB1_108.out _) | exact HI1.out)) (by (with_reducible repeat (first | apply Kd.R_alloc | apply Kd.R_drewN | apply Kd.R_drew)); exact (Kd.R_mono (Kd.R_far (p := ⟨gb108, 4, none⟩) (Kd.R_types HO126.out BK108.out (by decide)) (fun _ hk => hk.2) (.slice Ao59 y124.length co59)) (fun _ h_ => h_.1))) (by decide)) hk (fun _ h => h.2)) (fun _ h => h.1)); have n3_ := Aside0.mk (KeepBut.trans (by repeat (first | (with_reducible first | exact HK.out | apply KeepBut.set_ | apply keep_drewN | apply keep_drew | apply keep_alloc | refine keep_far ?_ GW101.out _ | refine keep_far ?_ GW108.out _) | exact HK.out)) hk (.inl rfl)); have n4_ := Aside0.mk (hb); have n5_ := Aside0.mk (hi); clear BK101; clear BK108; clear HO126; clear HK; clear HB; clear HI1; have BK101 := n0_; have BK108 := n1_; have HO126 := n2_; have HK := n3_; have HB := n4_; have HI1 := n5_; clear n0_ n1_ n2_ n3_ n4_ n5_; (try clear hb); (try clear hb2); (try clear hk); (try clear hi)))
                        go_roundg kj31
                        case measure => have := HJ5.out; have := HK2.out; have := HJ31.out; omega
                        case rel => exact ⟨(wrap64 (x6_2 + (wrap64 (1 + t127)))), (wrap64 (x30_2 + 1)), (t128), (y124), (.slice Ao59 y124.length co59), (by first | rfl | (simp; done) | (simp [*]; done)), (by first | rfl | (simp; done) | (simp [*]; done)), H', ⟨by have := HJ5.out; have := HK2.out; have := HJ31.out; omega⟩, ⟨by (with_reducible repeat (first | apply Kd.R_alloc | apply Kd.R_drewN | apply Kd.R_drew)); exact HO126.out⟩, ⟨by (with_reducible repeat (first | refine blk_drewN ?_ _ | refine blk_drew ?_ | refine blk_alloc ?_ _)); exact BK101.out⟩, ⟨by (with_reducible repeat (first | refine blk_drewN ?_ _ | refine blk_drew ?_ | refine blk_alloc ?_ _)); exact BK108.out⟩, ⟨by repeat (first | (with_reducible first | exact HI1.out | apply IsS51.alloc | apply IsS51.drewN | apply IsS51.drew | refine IsS51.far ?_ NB1_101.out _ | refine IsS51.far ?_ NB1_108.out _) | exact HI1.out)⟩, ⟨by repeat (first | (with_reducible first | exact HK.out | apply KeepBut.set_ | apply keep_drewN | apply keep_drew | apply keep_alloc | refine keep_far ?_ GW101.out _ | refine keep_far ?_ GW108.out _) | exact HK.out)⟩, ⟨by repeat (first | (with_reducible first | exact HB.out | apply below_alloc | apply pw_below_drewN | apply below_drew1 | refine below_set ?_ (IsS51.ge HI1.out) | refine below_set ?_ GE101.out | refine below_set ?_ GE108.out) | exact HB.out)⟩⟩
                      · rw [if_neg c53] at H
                        exact absurd H (by simp)
              · rw [if_neg c30] at H
                have c30b0 : decide (x30_2 < (wrap64 (1 + t113))) = false := decide_eq_false c30
                clear c30
                simp only [Option.some.injEq, Prod.mk.injEq] at H
                obtain ⟨rfl, rfl, rfl, rfl, rfl, rfl⟩ := H
                have hnb62 := NB108_101.out
                have hnc62 := NB101_108.out
                have hnb63 := NB108_1.out
                have hnc63 := NB1_108.out
                have hcz64_0 : wr.cell? ⟨gb108, 0, none⟩ = some (.string a0) := (blk_cell BK108.out 0).trans rfl
                have hcz64_1 : wr.cell? ⟨gb108, 1, none⟩ = some (.int .i64 2) := (blk_cell BK108.out 1).trans rfl
                have hcz64_2 : wr.cell? ⟨gb108, 2, none⟩ = some (.int .i64 (rd y102 t105)) := (blk_cell BK108.out 2).trans rfl
                have hcz64_3 : wr.cell? ⟨gb108, 3, none⟩ = some (.bool x109003_5) := (blk_cell BK108.out 3).trans rfl
                have hcz64_4 : wr.cell? ⟨gb108, 4, none⟩ = some (u109004) := (blk_cell BK108.out 4).trans rfl
                have hfz64_0 := blk_frozen BK108.out 0
                have hfz64_1 := blk_frozen BK108.out 1
                have hfz64_2 := blk_frozen BK108.out 2
                have hfz64_3 := blk_frozen BK108.out 3
                have hfz64_4 := blk_frozen BK108.out 4
                have hnb65 := NB101_1.out
                have hnc65 := NB1_101.out
                have hcz66_0 : wr.cell? ⟨gb101, 0, none⟩ = some (.string (⟨#[]⟩ : ByteArray)) := (blk_cell BK101.out 0).trans rfl
                have hcz66_1 : wr.cell? ⟨gb101, 1, none⟩ = some (.int .i64 0) := (blk_cell BK101.out 1).trans rfl
                have hcz66_2 : wr.cell? ⟨gb101, 2, none⟩ = some (.int .i64 0) := (blk_cell BK101.out 2).trans rfl
                have hcz66_3 : wr.cell? ⟨gb101, 3, none⟩ = some (.bool false) := (blk_cell BK101.out 3).trans rfl
                have hcz66_4 : wr.cell? ⟨gb101, 4, none⟩ = some (.slice none 0 0) := (blk_cell BK101.out 4).trans rfl
                have hfz66_0 := blk_frozen BK101.out 0
                have hfz66_1 := blk_frozen BK101.out 1
                have hfz66_2 := blk_frozen BK101.out 2
                have hfz66_3 := blk_frozen BK101.out 3
                have hfz66_4 := blk_frozen BK101.out 4
                obtain ⟨Ao67, co67, eo67⟩ := Kd.R_slice HO_109004.out
                subst eo67
                go_wp2
                refine bodyPost_ret (results_cell_row rfl _ _ gb101 39 #[.string a0, .int .i64 2, .int .i64 (rd y102 t105), .bool x109003_5, .slice Ao67 x109004_2.length co67] (0, 0) _ rfl (by (with_reducible repeat (first | refine blk_drewN ?_ _ | refine blk_drew ?_ | refine blk_alloc ?_ _)); refine blk_put (cs := #[.string a0, .int .i64 2, .int .i64 (rd y102 t105), .bool x109003_5, .slice none 0 0]) ?_ 4 _ rfl; (with_reducible repeat (first | refine blk_drewN ?_ _ | refine blk_drew ?_ | refine blk_alloc ?_ _)); refine blk_put (cs := #[.string a0, .int .i64 2, .int .i64 (rd y102 t105), .bool false, .slice none 0 0]) ?_ 3 _ rfl; (with_reducible repeat (first | refine blk_drewN ?_ _ | refine blk_drew ?_ | refine blk_alloc ?_ _)); refine blk_put (cs := #[.string a0, .int .i64 2, .int .i64 0, .bool false, .slice none 0 0]) ?_ 2 _ rfl; (with_reducible repeat (first | refine blk_drewN ?_ _ | refine blk_drew ?_ | refine blk_alloc ?_ _)); refine blk_put (cs := #[.string a0, .int .i64 0, .int .i64 0, .bool false, .slice none 0 0]) ?_ 1 _ rfl; (with_reducible repeat (first | refine blk_drewN ?_ _ | refine blk_drew ?_ | refine blk_alloc ?_ _)); refine blk_put (cs := #[.string (⟨#[]⟩ : ByteArray), .int .i64 0, .int .i64 0, .bool false, .slice none 0 0]) ?_ 0 _ rfl; (with_reducible repeat (first | refine blk_drewN ?_ _ | refine blk_drew ?_ | refine blk_alloc ?_ _)); exact BK101.out) Try.underlying39 rfl (by kernel_rfl)) rfl ?_
                exact ⟨_, by first | rfl | (simp [errW_none, errW_some] <;> rfl) | (simp [*, errW_none, errW_some] <;> rfl), by (with_reducible repeat (first | apply Kd.R_alloc | apply Kd.R_drewN | apply Kd.R_drew)); exact Kd.R_mono (Kd.R_far (p := ⟨gb101, 4, none⟩) (Kd.R_far (p := ⟨gb101, 3, none⟩) (Kd.R_far (p := ⟨gb101, 2, none⟩) (Kd.R_far (p := ⟨gb101, 1, none⟩) (Kd.R_far (p := ⟨gb101, 0, none⟩) (Kd.R_types HO_109004.out BK101.out (by decide)) (fun _ hk => hk.2) (.string a0)) (fun _ hk => hk.2) (.int .i64 2)) (fun _ hk => hk.2) (.int .i64 (rd y102 t105))) (fun _ hk => hk.2) (.bool x109003_5)) (fun _ hk => hk.2) (.slice Ao67 x109004_2.length co67)) (fun _ hk => trivial), by repeat (first | (with_reducible first | exact HI1.out | apply IsS51.alloc | apply IsS51.drewN | apply IsS51.drew | refine IsS51.far ?_ NB1_101.out _ | refine IsS51.far ?_ NB1_108.out _) | exact HI1.out), by repeat (first | (with_reducible first | exact HB.out | apply below_alloc | apply pw_below_drewN | apply below_drew1 | refine below_set ?_ (IsS51.ge HI1.out) | refine below_set ?_ GE101.out | refine below_set ?_ GE108.out) | exact HB.out), by repeat (first | (with_reducible first | exact HK.out | apply KeepBut.set_ | apply keep_drewN | apply keep_drew | apply keep_alloc | refine keep_far ?_ GW101.out _ | refine keep_far ?_ GW108.out _) | exact HK.out)⟩
    · rw [if_neg c5] at H
      exact absurd H (by simp)
  · rw [if_neg c4] at H
    exact absurd H (by simp)

/-! ### mootmake_Table: function 22 -/
def mootmake_Table.f (k : Nat) (l0 : List Int) : Option (ByteArray × Int × Int × Bool × (List (S44))) := (mootmake_table.f k (⟨#[116, 97, 98, 108, 101, 45, 97]⟩ : ByteArray) l0).bind fun bt131 => (some (bt131.1, bt131.2.1, bt131.2.2.1, bt131.2.2.2.1, bt131.2.2.2.2.1))
theorem mootmake_Table.mono : ∀ a0 k, LeO (mootmake_Table.f k a0) (mootmake_Table.f (k + 1) a0) := by
  intro a0 k
  unfold mootmake_Table.f
  repeat' first
      | (with_reducible exact mootmake_table.mono _ _ _)
      | (with_reducible exact LeO.refl _)
      | (with_reducible exact LeO.none _)
      | (with_reducible refine LeO.ite ?_ ?_)
      | (with_reducible refine LeO.bind ?_ (fun _ => ?_))
      | exact mootmake_table.mono _ _ _
      | exact LeO.none _
      | refine LeO.ite ?_ ?_
      | refine LeO.bind ?_ (fun _ => ?_)
set_option maxHeartbeats 8000000 in
set_option maxRecDepth 100000 in
theorem mootmake_Table.calls (k : Nat) (A0 : Option Addr) (c0 : Nat) (l0 : List Int) (r1 : ByteArray) (r2 : Int) (r3 : Int) (r4 : Bool) (r5 : List (S44)) (w : World) (hr0 : Kd.C (Kd.int .i64) w A0 l0.length l0) (hc0 : l0.length ≤ c0) (h : mootmake_Table.f k l0 = some (r1, r2, r3, r4, r5)) :
    Calls Try.prog 22 #[.slice A0 l0.length c0] w fun e w' => ∃ v4_ : Value, e = .returned (.agg #[.string r1, .int .i64 r2, .int .i64 r3, .bool r4, v4_]) ∧ Kd.R k44 44 w' w.heap.size (fun _ => True) v4_ r5 ∧ Below w.heap.size w w' := by
  have hu39 := Try.underlying39
  have hu51 := Try.underlying51
  have HR0 := Aside0.mk hr0
  have HC0 := Aside0.mk hc0
  clear hr0 hc0
  have HB := Aside0.mk (Below.refl w.heap.size w)
  have H : ((mootmake_table.f k (⟨#[116, 97, 98, 108, 101, 45, 97]⟩ : ByteArray) l0).bind fun bt131 => (some (bt131.1, bt131.2.1, bt131.2.2.1, bt131.2.2.2.1, bt131.2.2.2.2.1))) = some (r1, r2, r3, r4, r5) := h
  clear h
  replace H := Option.bind_eq_some_iff.mp H
  obtain ⟨⟨t131, t132, t133, t134, t135, t138⟩, A20, H⟩ := H
  replace H : (some (t131, t132, t133, t134, t135)) = some (r1, r2, r3, r4, r5) := H
  have A2 := Aside0.mk A20
  clear A20
  simp only [Option.some.injEq, Prod.mk.injEq] at H
  obtain ⟨rfl, rfl, rfl, rfl, rfl⟩ := H
  go_enter Try.func22, Try.ntmps22
  go_wp2_with (first | ((with_reducible refine gate_dst (N := 2) rfl ?_); refine box_event ?hg (N := 2) ?hd (cs := #[.string (⟨#[]⟩ : ByteArray), .int .i64 0, .int .i64 0, .bool false, .slice none 0 0]) (t := 39) ?hr ?_; (case hd => rfl); (case hg => rfl); (case hr => first | (go_simp; done) | (go_simp; rfl)); intro gb129 hg w3 hbox hb; have n0_ := Aside0.mk (below_step (by repeat (first | (with_reducible first | exact HB.out | apply below_alloc | apply pw_below_drewN | apply below_drew1) | exact HB.out)) hb); have n1_ := Aside0.mk (hbox); have n2_ := Aside0.mk ((by rw [hg]; exact (below_size (by repeat (first | (with_reducible first | exact HB.out | apply below_alloc | apply pw_below_drewN | apply below_drew1) | exact HB.out))) : w.heap.size ≤ gb129)); have n3_ := Aside0.mk ((by rw [hg]; exact (below_size (by repeat (first | (with_reducible first | exact HB.out | apply below_alloc | apply pw_below_drewN | apply below_drew1) | exact HB.out))) : w.heap.size ≤ gb129)); clear HB; have HB := n0_; have BK129 := n1_; have GW129 := n2_; have GE129 := n3_; clear n0_ n1_ n2_ n3_; clear hb hbox hg) | ((with_reducible refine gate_dst (N := 5) rfl ?_); refine box_event ?hg (N := 5) ?hd (cs := #[.slice A0 l0.length c0]) (t := 51) ?hr ?_; (case hd => rfl); (case hg => rfl); (case hr => first | (go_simp; done) | (go_simp; rfl)); intro gb130 hg w4 hbox hb; have n0_ := Aside0.mk (blk_below (g := gb129) (o := .cells #[.string (⟨#[]⟩ : ByteArray), .int .i64 0, .int .i64 0, .bool false, .slice none 0 0] 39 (0, 0)) (by (with_reducible repeat (first | refine blk_drewN ?_ _ | refine blk_drew ?_ | refine blk_alloc ?_ _)); exact BK129.out) hb); have n1_ := Aside0.mk (below_step (by repeat (first | (with_reducible first | exact HB.out | apply below_alloc | apply pw_below_drewN | apply below_drew1 | refine below_set ?_ GE129.out) | exact HB.out)) hb); have n2_ := Aside0.mk ((⟨_, _, hbox, by rw [hg]; exact (below_size (by repeat (first | (with_reducible first | exact HB.out | apply below_alloc | apply pw_below_drewN | apply below_drew1 | refine below_set ?_ GE129.out) | exact HB.out))), HR0.out, HC0.out⟩ : IsS51 w w4 gb130 l0)); have n3_ := Aside0.mk ((by rw [hg]; exact Nat.ne_of_lt (blk_lt (g := gb129) (o := .cells #[.string (⟨#[]⟩ : ByteArray), .int .i64 0, .int .i64 0, .bool false, .slice none 0 0] 39 (0, 0)) (by (with_reducible repeat (first | refine blk_drewN ?_ _ | refine blk_drew ?_ | refine blk_alloc ?_ _)); exact BK129.out)) : gb129 ≠ gb130)); have n4_ := Aside0.mk ((by rw [hg]; exact Nat.ne_of_gt (blk_lt (g := gb129) (o := .cells #[.string (⟨#[]⟩ : ByteArray), .int .i64 0, .int .i64 0, .bool false, .slice none 0 0] 39 (0, 0)) (by (with_reducible repeat (first | refine blk_drewN ?_ _ | refine blk_drew ?_ | refine blk_alloc ?_ _)); exact BK129.out)) : gb130 ≠ gb129)); clear BK129; clear HB; have BK129 := n0_; have HB := n1_; have HI130 := n2_; have NB129_130 := n3_; have NB130_129 := n4_; clear n0_ n1_ n2_ n3_ n4_; clear hb hbox hg) | ((with_reducible refine gate_callee (f := 56) rfl ?_); refine goesL_ (some 6) rfl rfl Try.func56 (by kernel_rfl) rfl #[.string (⟨#[116, 97, 98, 108, 101, 45, 97]⟩ : ByteArray), .pointer (some ⟨gb130, 0, none⟩)] rfl (by (try simp only [List.map_toArray, List.map_cons, List.map_nil]); first | done | rfl | (simp only [List.length_drop, List.length_take]; rfl)) ?_; (with_reducible refine (mootmake_table.calls k (⟨#[116, 97, 98, 108, 101, 45, 97]⟩ : ByteArray) gb130 l0 t131 t132 t133 t134 t135 t138 w _ ?side1 ?side2 A2.out).mono ?_); (case side1 => repeat (first | (with_reducible first | exact HI130.out | apply IsS51.alloc | apply IsS51.drewN | apply IsS51.drew | refine IsS51.far ?_ NB130_129.out _) | exact HI130.out)); (case side2 => repeat (first | (with_reducible first | exact HB.out | apply below_alloc | apply pw_below_drewN | apply below_drew1 | refine below_set ?_ (IsS51.ge HI130.out) | refine below_set ?_ GE129.out) | exact HB.out)); rintro e w5 ⟨v136, rfl, ho0, hi, hb, hk⟩; refine ⟨_, rfl, ?_⟩; have n0_ := Aside0.mk (KeepBut.blk hk (g' := gb129) (o := .cells #[.string (⟨#[]⟩ : ByteArray), .int .i64 0, .int .i64 0, .bool false, .slice none 0 0] 39 (0, 0)) (by (with_reducible repeat (first | refine blk_drewN ?_ _ | refine blk_drew ?_ | refine blk_alloc ?_ _)); exact BK129.out) NB129_130.out (by simp)); have n1_ := Aside0.mk (Kd.R_lower ho0 (below_size (by repeat (first | (with_reducible first | exact HB.out | apply below_alloc | apply pw_below_drewN | apply below_drew1 | refine below_set ?_ (IsS51.ge HI130.out) | refine below_set ?_ GE129.out) | exact HB.out)))); have n2_ := Aside0.mk (hb); have n3_ := Aside0.mk (hi); clear BK129; clear HB; clear HI130; have BK129 := n0_; have HO137 := n1_; have HB := n2_; have HI130 := n3_; clear n0_ n1_ n2_ n3_; (try clear hb); (try clear hb2); (try clear hk); (try clear hi); (try clear ho0); have hnb6 := NB129_130.out; have hnc6 := NB130_129.out; have hcz7_0 : w5.cell? ⟨gb129, 0, none⟩ = some (.string (⟨#[]⟩ : ByteArray)) := (blk_cell BK129.out 0).trans rfl; have hcz7_1 : w5.cell? ⟨gb129, 1, none⟩ = some (.int .i64 0) := (blk_cell BK129.out 1).trans rfl; have hcz7_2 : w5.cell? ⟨gb129, 2, none⟩ = some (.int .i64 0) := (blk_cell BK129.out 2).trans rfl; have hcz7_3 : w5.cell? ⟨gb129, 3, none⟩ = some (.bool false) := (blk_cell BK129.out 3).trans rfl; have hcz7_4 : w5.cell? ⟨gb129, 4, none⟩ = some (.slice none 0 0) := (blk_cell BK129.out 4).trans rfl; have hfz7_0 := blk_frozen BK129.out 0; have hfz7_1 := blk_frozen BK129.out 1; have hfz7_2 := blk_frozen BK129.out 2; have hfz7_3 := blk_frozen BK129.out 3; have hfz7_4 := blk_frozen BK129.out 4; obtain ⟨Ao8, co8, eo8⟩ := Kd.R_slice HO137.out; subst eo8))
  refine bodyPost_ret (results_cell_row rfl _ _ gb129 39 #[.string t131, .int .i64 t132, .int .i64 t133, .bool t134, .slice Ao8 t135.length co8] (0, 0) _ rfl (by (with_reducible repeat (first | refine blk_drewN ?_ _ | refine blk_drew ?_ | refine blk_alloc ?_ _)); refine blk_put (cs := #[.string t131, .int .i64 t132, .int .i64 t133, .bool t134, .slice none 0 0]) ?_ 4 _ rfl; (with_reducible repeat (first | refine blk_drewN ?_ _ | refine blk_drew ?_ | refine blk_alloc ?_ _)); refine blk_put (cs := #[.string t131, .int .i64 t132, .int .i64 t133, .bool false, .slice none 0 0]) ?_ 3 _ rfl; (with_reducible repeat (first | refine blk_drewN ?_ _ | refine blk_drew ?_ | refine blk_alloc ?_ _)); refine blk_put (cs := #[.string t131, .int .i64 t132, .int .i64 0, .bool false, .slice none 0 0]) ?_ 2 _ rfl; (with_reducible repeat (first | refine blk_drewN ?_ _ | refine blk_drew ?_ | refine blk_alloc ?_ _)); refine blk_put (cs := #[.string t131, .int .i64 0, .int .i64 0, .bool false, .slice none 0 0]) ?_ 1 _ rfl; (with_reducible repeat (first | refine blk_drewN ?_ _ | refine blk_drew ?_ | refine blk_alloc ?_ _)); refine blk_put (cs := #[.string (⟨#[]⟩ : ByteArray), .int .i64 0, .int .i64 0, .bool false, .slice none 0 0]) ?_ 0 _ rfl; (with_reducible repeat (first | refine blk_drewN ?_ _ | refine blk_drew ?_ | refine blk_alloc ?_ _)); exact BK129.out) Try.underlying39 rfl (by kernel_rfl)) rfl ?_
  exact ⟨_, by first | rfl | (simp [errW_none, errW_some] <;> rfl) | (simp [*, errW_none, errW_some] <;> rfl), by (with_reducible repeat (first | apply Kd.R_alloc | apply Kd.R_drewN | apply Kd.R_drew)); exact Kd.R_mono (Kd.R_far (p := ⟨gb129, 4, none⟩) (Kd.R_far (p := ⟨gb129, 3, none⟩) (Kd.R_far (p := ⟨gb129, 2, none⟩) (Kd.R_far (p := ⟨gb129, 1, none⟩) (Kd.R_far (p := ⟨gb129, 0, none⟩) (Kd.R_types HO137.out BK129.out (by decide)) (fun _ hk => hk.2) (.string t131)) (fun _ hk => hk.2) (.int .i64 t132)) (fun _ hk => hk.2) (.int .i64 t133)) (fun _ hk => hk.2) (.bool t134)) (fun _ hk => hk.2) (.slice Ao8 t135.length co8)) (fun _ hk => trivial), by repeat (first | (with_reducible first | exact HB.out | apply below_alloc | apply pw_below_drewN | apply below_drew1 | refine below_set ?_ (IsS51.ge HI130.out) | refine below_set ?_ GE129.out) | exact HB.out)⟩

end Go.Proofs.Ytdajcnhhfgnbmab.PTableSlices
