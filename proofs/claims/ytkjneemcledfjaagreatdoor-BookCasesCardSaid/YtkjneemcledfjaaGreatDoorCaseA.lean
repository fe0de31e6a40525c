import Derived.Test.YtkjneemcledfjaaGreatDoorPBookCasesx0
import Derived.Test.YtkjneemcledfjaaGreatDoorPBookCasesx10
import Derived.Test.YtkjneemcledfjaaGreatDoorPBookCasesx11
import Derived.Test.YtkjneemcledfjaaGreatDoorPBookCasesx12
namespace Go.Proofs.YtkjneemcledfjaaGreatDoor.PBookCases
open Go.RowKit Go.Proofs.YtkjneemcledfjaaGreatDoorW.PrintWords Go.Proofs.YtkjneemcledfjaaGreatDoorW.PrintLast Go.Proofs.YtkjneemcledfjaaGreatDoorW.PrintMore
set_option linter.unusedVariables false
set_option linter.unusedSimpArgs false
set_option maxHeartbeats 8000000
set_option maxRecDepth 100000
def anyK (n : Nat) : Kd (List Value) where
 sz := n
 E := []
 K := fun _ x cs => cs = x ∧ x.length = n ∧ ∀ u ∈ x, u.oneCell' = true
 M := fun _ _ _ x cs => cs = x ∧ x.length = n ∧ ∀ u ∈ x, u.oneCell' = true
 K_len := fun h => by rw [h.1]; exact h.2.1
 K_one := fun h => by rw [h.1]; exact h.2.2
 K_below := fun _ h => h
 K_of_M := fun h => h
 M_mono := fun _ h => h
 M_bound := fun h => h
 M_move := fun _ h => h
 M_lower := fun _ h => h
def rowE (w : World) (E : Nat) : Option Nat := match w.heap[E]? with
 | some (.cells cs _ _) => (cs[0]?).bind Value.ownBlock
 | _ => none
theorem rowE_of {w : World} {E : Nat} {v : Value} {t : TypeId} {fz : Nat × Nat} (h : w.heap[E]? = some (.cells #[v] t fz)) : rowE w E = v.ownBlock := by unfold rowE; rw [h]; rfl
structure FrE (S E : Nat) (w w' : World) : Prop where
 os : w'.os = w.os
 tape : w'.tape = w.tape
 output : w'.output = w.output
 size : w.heap.size ≤ w'.heap.size
 keep : ∀ i, i < w.heap.size → i ≠ S → i ≠ E → some i ≠ rowE w E → w'.heap[i]? = w.heap[i]?
 row : rowE w' E = rowE w E ∨ ∃ b, rowE w' E = some b ∧ w.heap.size ≤ b
theorem FrE.refl (S E : Nat) (w : World) : FrE S E w w := ⟨rfl, rfl, rfl, Nat.le_refl _, fun _ _ _ _ _ => rfl, .inl rfl⟩
theorem FrE.trans {S E : Nat} {w w1 w2 : World} (h : FrE S E w w1) (k : FrE S E w1 w2) : FrE S E w w2 := by
 refine ⟨k.os.trans h.os, k.tape.trans h.tape, k.output.trans h.output, Nat.le_trans h.size k.size, fun i hi h1 h2 h3 => ?_, ?_⟩
 ·refine (k.keep i (Nat.lt_of_lt_of_le hi h.size) h1 h2 fun e => ?_).trans (h.keep i hi h1 h2 h3); rcases h.row with hr | ⟨b, hr, hb⟩
  ·exact h3 (e.trans hr)
  ·rw [hr] at e; have : i = b := Option.some.inj e; omega
 ·rcases k.row with hr | ⟨b, hr, hb⟩
  ·rcases h.row with hr' | ⟨b, hr', hb⟩
   ·exact .inl (hr.trans hr')
   ·exact .inr ⟨b, hr.trans hr', hb⟩
  ·exact .inr ⟨b, hr, Nat.le_trans h.size hb⟩
theorem FrE.of_below {S E : Nat} {w w' : World} (h : Below w.heap.size w w') (hE : E < w.heap.size) : FrE S E w w' :=
 ⟨h.os, h.tape, h.output, h.size, fun i hi _ _ _ => h.block i hi, .inl (by unfold rowE; rw [h.block E hE])⟩
theorem FrE.of_keep {S E b : Nat} {w0 w w' : World} (hk : KeepBut w w' S none) (hb : Below b w0 w) (hb' : Below b w0 w') (hE : E < w.heap.size) (hne : E ≠ S) : FrE S E w w' :=
 ⟨hb'.os.trans hb.os.symm, hb'.tape.trans hb.tape.symm, hb'.output.trans hb.output.symm, hk.1, fun i hi h1 _ _ => hk.2 i hi h1 (by simp), .inl (by unfold rowE; rw [hk.2 E hE hne (by simp)])⟩
def T1 : Nat → Prop := fun _ => True
def kSl : Kd (Option Addr × Nat × Nat) where
 sz := 1
 E := []
 K := fun _ x cs => cs = [.slice x.1 x.2.1 x.2.2]
 M := fun _ _ _ x cs => cs = [.slice x.1 x.2.1 x.2.2]
 K_len := fun h => by rw [h]; rfl
 K_one := fun h => by rw [h]; simp [Value.oneCell']
 K_below := fun _ h => h
 K_of_M := fun h => h
 M_mono := fun _ h => h
 M_bound := fun h => h
 M_move := fun _ h => h
 M_lower := fun _ h => h
def kTab : Kd (ByteArray × Int × Int × Bool × (Option Addr × Nat × Nat)) := Kd.pair Kd.string (Kd.pair (Kd.int .i64) (Kd.pair (Kd.int .i64) (Kd.pair Kd.bool kSl)))
structure Mk (w0 w : World) (M S : Nat) : Prop where
 pt : ∃ vi vo vt li lo lt, w.heap[M]? = some (.cells #[.pointer (some ⟨S, 0, none⟩), vi, vo, vt] 128 (0, 0)) ∧ Kd.R k95 95 w w0.heap.size T1 vi li ∧ Kd.R k95 95 w w0.heap.size T1 vo lo ∧ Kd.R kTab 91 w w0.heap.size T1 vt lt ∧ li.length ≤ 100 ∧ lo.length ≤ 100 ∧ lt.length ≤ 100
 st : ∃ l, IsS81 w0 w S l
structure Ex (w0 w : World) (E n : Nat) : Prop where
 base : w0.heap.size ≤ E
 ex : ∃ v xs, w.heap[E]? = some (.cells #[v] 131 (0, 0)) ∧ Kd.R (anyK 5) 205 w w0.heap.size T1 v xs ∧ xs.length = n
structure Env (w0 w : World) (M S E n : Nat) : Prop where
 mkr : Mk w0 w M S
 ex : Ex w0 w E n
 below : Below w0.heap.size w0 w
theorem Ex.lt {w0 w : World} {E n : Nat} (h : Ex w0 w E n) : E < w.heap.size := by
 obtain ⟨v, xs, hb, _⟩ := h.ex; exact blk_lt hb
theorem Env.st {w0 w : World} {M S E n : Nat} (h : Env w0 w M S E n) : ∃ cs, w.heap[S]? = some (.cells cs 81 (0, 0)) ∧ w0.heap.size ≤ S := by
 obtain ⟨l, A, c, hb, hg, _⟩ := h.mkr.st; exact ⟨_, hb, hg⟩
theorem blk_ty_ne {w : World} {i j : Nat} {cs ds : Array Value} {t u : TypeId} {f g : Nat × Nat} (h : w.heap[i]? = some (.cells cs t f)) (k : w.heap[j]? = some (.cells ds u g)) (ht : t ≠ u) : i ≠ j := by
 rintro rfl; rw [h] at k; injection k with k; injection k with _ k _; exact ht k
theorem Env.S_ne {w0 w : World} {M S E n : Nat} (h : Env w0 w M S E n) : E ≠ S := by
 obtain ⟨cs, hs, _⟩ := h.st; obtain ⟨v, xs, hb, _⟩ := h.ex.ex; exact blk_ty_ne hb hs (by decide)
theorem Env.row {w0 w : World} {M S E n : Nat} (h : Env w0 w M S E n) (k : Nat) (hk : rowE w E = some k) : w0.heap.size ≤ k ∧ ∃ cs, w.heap[k]? = some (.cells cs 205 (0, 0)) := by
 obtain ⟨v, xs, hb, hr, _⟩ := h.ex.ex; rw [rowE_of hb] at hk; obtain ⟨inner, ho⟩ := Kd.R_own hr; exact ⟨own_base ho k hk, Kd.R_typed hr k hk⟩
theorem Env.blk {w0 w w' : World} {M S E n : Nat} (h : Env w0 w M S E n) (hf : FrE S E w w') {i : Nat} {cs : Array Value} {t : TypeId} {fz : Nat × Nat} (hb : w.heap[i]? = some (.cells cs t fz)) (h1 : t ≠ 81) (h2 : t ≠ 131) (h3 : t ≠ 205) : w'.heap[i]? = some (.cells cs t fz) := by
 obtain ⟨ss, hs, _⟩ := h.st; obtain ⟨v, xs, hx, _⟩ := h.ex.ex; rw [hf.keep i (blk_lt hb) (blk_ty_ne hb hs h1) (blk_ty_ne hb hx h2) (fun e => ?_)]
 ·exact hb
 ·obtain ⟨_, ds, hr⟩ := h.row i e.symm; exact blk_ty_ne hb hr h3 rfl
theorem Env.R {α : Type} {d : Kd α} {e base : Nat} {ok : Nat → Prop} {u : Value} {ys : List α} {w0 w w' : World} {M S E n : Nat} (h : Env w0 w M S E n) (hf : FrE S E w w') (hr : d.R e w base ok u ys) (ht : ∀ q, q ∈ e :: d.E → q ≠ 81 ∧ q ≠ 131 ∧ q ≠ 205) : d.R e w' base ok u ys := by
 refine Kd.R_mono (Kd.R_move (Kd.R_bound hr) (fun k hk => ?_)) (fun _ hk => hk.1); obtain ⟨_, _, _, q, hq, cells, hc⟩ := hk; obtain ⟨h1, h2, h3⟩ := ht q hq; rw [hc]; exact h.blk hf hc h1 h2 h3
theorem Mk.of_blk {w0 w w' : World} {M S : Nat} (h : Mk w0 w M S) (hM : ∀ cs, w.heap[M]? = some (.cells cs 128 (0, 0)) → w'.heap[M]? = some (.cells cs 128 (0, 0)))
  (hR : ∀ {α : Type} {d : Kd α} {e : Nat} {u : Value} {ys : List α}, (∀ q, q ∈ e :: d.E → q ≠ 81 ∧ q ≠ 131 ∧ q ≠ 205) → d.R e w w0.heap.size T1 u ys → d.R e w' w0.heap.size T1 u ys) (hst : ∃ l, IsS81 w0 w' S l) : Mk w0 w' M S := by
 obtain ⟨vi, vo, vt, li, lo, lt, hm, h1, h2, h3, h4⟩ := h.pt; exact ⟨⟨vi, vo, vt, li, lo, lt, hM _ hm, hR (by decide) h1, hR (by decide) h2, hR (by decide) h3, h4⟩, hst⟩
theorem FrE.below {S E : Nat} {w0 w w' : World} {M n : Nat} (hf : FrE S E w w') (h : Env w0 w M S E n) : Below w0.heap.size w0 w' := by
 obtain ⟨_, _, hS⟩ := h.st; have hE := h.ex.base; have hb := h.below; refine ⟨hf.os.trans hb.os, hf.tape.trans hb.tape, hf.output.trans hb.output, Nat.le_trans hb.size hf.size, fun i hi => ?_⟩; refine (hf.keep i (Nat.lt_of_lt_of_le hi hb.size) (by omega) (by omega) (fun e => ?_)).trans (hb.block i hi); have := (h.row i e.symm).1; omega
theorem Env.alloc {w0 w : World} {M S E n : Nat} (h : Env w0 w M S E n) (o : Obj) : Env w0 (w.alloc o) M S E n := by
 have hb : Below w.heap.size w (w.alloc o) := below_alloc (Below.refl _ _) o; have hk : ∀ {i : Nat} {cs : Array Value} {t : TypeId} {fz : Nat × Nat}, w.heap[i]? = some (.cells cs t fz) → (w.alloc o).heap[i]? = some (.cells cs t fz) := fun {i} {cs} {t} {fz} he => (hb.block i (blk_lt he)).trans he; obtain ⟨v, xs, hx, hr, hl⟩ := h.ex.ex; obtain ⟨l, A, c, hs, hg, hr0⟩ := h.mkr.st; exact ⟨h.mkr.of_blk (fun cs hc => hk hc) (fun _ hR => Kd.R_alloc hR o) ⟨l, A, c, hk hs, hg, hr0⟩, ⟨h.ex.base, v, xs, hk hx, Kd.R_alloc hr o, hl⟩, below_alloc h.below o⟩
theorem Env.drewN {w0 w : World} {M S E n : Nat} (h : Env w0 w M S E n) (m : Nat) : Env w0 (w.drewN m) M S E n := by
 obtain ⟨v, xs, hx, hr, hl⟩ := h.ex.ex; obtain ⟨l, A, c, hs, hg, hr0⟩ := h.mkr.st; exact ⟨h.mkr.of_blk (fun cs hc => hc) (fun _ hR => Kd.R_drewN hR m) ⟨l, A, c, hs, hg, hr0⟩, ⟨h.ex.base, v, xs, hx, Kd.R_drewN hr m, hl⟩, pw_below_drewN h.below m⟩
theorem Env.of_below {w0 w w' : World} {M S E n : Nat} (h : Env w0 w M S E n) (hb : Below w.heap.size w w') : Env w0 w' M S E n := by
 have hk : ∀ {i : Nat} {cs : Array Value} {t : TypeId} {fz : Nat × Nat}, w.heap[i]? = some (.cells cs t fz) → w'.heap[i]? = some (.cells cs t fz) := fun {i} {cs} {t} {fz} he => (hb.block i (blk_lt he)).trans he; obtain ⟨v, xs, hx, hr, hl⟩ := h.ex.ex; obtain ⟨l, A, c, hs, hg, hr0⟩ := h.mkr.st; exact ⟨h.mkr.of_blk (fun cs hc => hk hc) (fun _ hR => Kd.R_below hR hb) ⟨l, A, c, hk hs, hg, hr0⟩, ⟨h.ex.base, v, xs, hk hx, Kd.R_below hr hb, hl⟩, below_step h.below hb⟩
theorem FrE.alloc (S E : Nat) {w w1 : World} (h : FrE S E w w1) (hE : E < w1.heap.size) (o : Obj) : FrE S E w (w1.alloc o) := h.trans (.of_below (below_alloc (Below.refl _ _) o) hE)
theorem FrE.drewN (S E : Nat) {w w1 : World} (h : FrE S E w w1) (m : Nat) : FrE S E w (w1.drewN m) := h.trans ⟨rfl, rfl, rfl, Nat.le_refl _, fun _ _ _ _ _ => rfl, .inl rfl⟩
theorem cell_alloc {w : World} {ad : Addr} {v : Value} (h : w.cell? ad = some v) (o : Obj) : (w.alloc o).cell? ad = some v := ((below_alloc (Below.refl w.heap.size w) o).cell (World.block_lt_of_cell? w _ h)).trans h
theorem Env.cM {w0 w : World} {M S E n : Nat} (h : Env w0 w M S E n) : w.cell? ⟨M, 0, none⟩ = some (.pointer (some ⟨S, 0, none⟩)) := by
 obtain ⟨vi, vo, vt, _, _, _, hM, _⟩ := h.mkr.pt; exact blk_cell hM 0
theorem Env.cA {w0 w : World} {M S E n : Nat} (h : Env w0 w M S E n) (o : Obj) : (w.alloc o).cell? ⟨M, 0, none⟩ = some (.pointer (some ⟨S, 0, none⟩)) := cell_alloc h.cM o
end Go.Proofs.YtkjneemcledfjaaGreatDoor.PBookCases
