import Derived.Test.YtkjneemcledfjaaGreatDoorCaseM
namespace Go.Proofs.YtkjneemcledfjaaGreatDoor.PBookCases
open Go.RowKit Go.Proofs.YtkjneemcledfjaaGreatDoorW.PrintWords Go.Proofs.YtkjneemcledfjaaGreatDoorW.PrintLast Go.Proofs.YtkjneemcledfjaaGreatDoorW.PrintMore
set_option linter.unusedVariables false
set_option linter.unusedSimpArgs false
set_option maxHeartbeats 8000000
set_option maxRecDepth 100000
theorem conv_rune (n : Int) (w : World) : (convert 21 9 (.int .i32 n)).run Tryz.prog w = .ok (.string (Utf8.encode n)) w := by
  simp [convert, run_underlying Tryz.underlying21, run_underlying Tryz.underlying9, Conv.intToString]
theorem enc_size (n : Int) : (Utf8.encode n).size ≤ 4 := by
  unfold Utf8.encode
  dsimp only
  generalize (if Utf8.valid n = true then n.toNat else Utf8.runeError) = c
  repeat' split
  all_goals first | (show (1 : Nat) ≤ 4; decide) | (show (2 : Nat) ≤ 4; decide) | (show (3 : Nat) ≤ 4; decide) | (show (4 : Nat) ≤ 4; decide)
theorem enc_fits (k : Nat) (hk : k ≤ 100) (n : Int) : (9223372036854775807 < k + (Utf8.encode n).size) = False := eq_false (by have := enc_size n; omega)
theorem Mk.of_below {w0 w w' : World} {M S : Nat} (h : Mk w0 w M S) (hb : Below w.heap.size w w') : Mk w0 w' M S := by
  have hk : ∀ {i : Nat} {cs : Array Value} {t : TypeId} {fz : Nat × Nat}, w.heap[i]? = some (.cells cs t fz) → w'.heap[i]? = some (.cells cs t fz) := fun {i} {cs} {t} {fz} he => (hb.block i (blk_lt he)).trans he
  obtain ⟨l, A, c, hs, hg, hr0⟩ := h.st
  exact h.of_blk (fun cs hc => hk hc) (fun _ hR => Kd.R_below hR hb) ⟨l, A, c, hk hs, hg, hr0⟩
theorem Mk.S_blk {w0 w : World} {M S : Nat} (h : Mk w0 w M S) : ∃ cs, w.heap[S]? = some (.cells cs 81 (0, 0)) ∧ w0.heap.size ≤ S := by
  obtain ⟨l, A, c, hb, hg, _⟩ := h.st
  exact ⟨_, hb, hg⟩
theorem Mk.cM {w0 w : World} {M S : Nat} (h : Mk w0 w M S) : w.cell? ⟨M, 0, none⟩ = some (.pointer (some ⟨S, 0, none⟩)) := by
  obtain ⟨vi, vo, vt, _, _, _, hM, _⟩ := h.pt
  exact blk_cell hM 0
theorem Mk.move {w0 w w' : World} {M S : Nat} (h : Mk w0 w M S) (hm : ∀ (i : Nat) (cs : Array Value) (t : TypeId), w.heap[i]? = some (.cells cs t (0, 0)) → t = 128 ∨ t = 95 ∨ t = 91 ∨ t = 81 → w'.heap[i]? = w.heap[i]?) : Mk w0 w' M S := by
  obtain ⟨vi, vo, vt, li, lo, lt, hM, h1, h2, h3, h4⟩ := h.pt
  obtain ⟨l, A, c, hs, hg, hr0⟩ := h.st
  have m95 : ∀ {v : Value} {xs : List S95}, Kd.R k95 95 w w0.heap.size T1 v xs → Kd.R k95 95 w' w0.heap.size T1 v xs := fun hr => R_moved hr (fun i c t hc ht => hm i c t hc (.inr (.inl s6_)))
  exact ⟨⟨vi, vo, vt, li, lo, lt, (hm M _ 128 hM (.inl rfl)).trans hM, m95 h1, m95 h2, R_moved h3 (fun i c t hc ht => hm i c t hc (.inr (.inr (.inl (by simpa [kTab, kSl, Kd.iso, Kd.pair, Kd.string, Kd.int, Kd.bool, Kd.scalar] using ht))))), h4⟩, ⟨l, A, c, (hm S _ 81 hs (.inr (.inr (.inr rfl)))).trans hs, hg, hr0⟩⟩
theorem next_mk {w0 w : World} {M S : Nat} (h : Mk w0 w M S) (hb : Below w0.heap.size w0 w) (m : Int) (hm : m ≤ 1000000000) :
    Calls Tryz.prog 31 #[.pointer (some ⟨S, 0, none⟩), .int .i64 m] w fun e w' => ∃ r, e = .returned (.int .i64 r) ∧ (1 ≤ m → 0 ≤ r ∧ r < m) ∧ Mk w0 w' M S ∧ Below w0.heap.size w0 w' ∧ KeepBut w w' S none := by
  obtain ⟨l, hl⟩ := h.st
  obtain ⟨r, l', hf, h1, _⟩ := next_of l m hm
  obtain ⟨ss, hs, _⟩ := h.S_blk
  refine (mootmake_Stream_Next.calls S l m r l' w0 w hl hb hf).mono ?_
  rintro e w' ⟨rfl, hs', hb', hk⟩
  have keep : ∀ {i : Nat} {cs : Array Value} {t : TypeId} {fz : Nat × Nat}, t ≠ 81 → w.heap[i]? = some (.cells cs t fz) → w'.heap[i]? = some (.cells cs t fz) := fun {i} {cs} {t} {fz} ht hi => (hk.2 i (blk_lt hi) (blk_ty_ne hi hs ht) (by simp)).trans hi
  exact ⟨r, rfl, h1, h.of_blk (fun cs hc => keep (by decide) hc) (fun ht hR => Kd.R_mono (Kd.R_move (Kd.R_bound hR) (fun k hk' => by
    obtain ⟨_, _, _, q, hq, cells, hc⟩ := hk'
    exact (keep (ht q hq).1 hc).trans hc.symm)) (fun _ _ => trivial)) ⟨l', hs'⟩, hb', hk⟩
structure Ar (w0 w : World) (M S G : Nat) (acts : List ActX) (V3 V4 V5 : Nat → Value) : Prop where
  maker : Mk w0 w M S
  bd : Bd w0 w G acts V3 V4 V5
  below : Below w0.heap.size w0 w
theorem Ar.of_below {w0 w w' : World} {M S G : Nat} {acts : List ActX} {V3 V4 V5 : Nat → Value} (h : Ar w0 w M S G acts V3 V4 V5) (hb : Below w.heap.size w w') : Ar w0 w' M S G acts V3 V4 V5 := ⟨h.maker.of_below hb, h.bd.of_below hb, below_step h.below hb⟩
theorem Ar.alloc {w0 w : World} {M S G : Nat} {acts : List ActX} {V3 V4 V5 : Nat → Value} (h : Ar w0 w M S G acts V3 V4 V5) (o : Obj) : Ar w0 (w.alloc o) M S G acts V3 V4 V5 := h.of_below (below_alloc (Below.refl _ _) o)
theorem Ar.drew {w0 w : World} {M S G : Nat} {acts : List ActX} {V3 V4 V5 : Nat → Value} (h : Ar w0 w M S G acts V3 V4 V5) : Ar w0 w.drew M S G acts V3 V4 V5 := h.of_below (below_drew1 (Below.refl _ _))
theorem Ar.keep {w0 w w' : World} {M S G : Nat} {acts : List ActX} {V3 V4 V5 : Nat → Value} (h : Ar w0 w M S G acts V3 V4 V5) (hm : Mk w0 w' M S) (hb : Below w0.heap.size w0 w') (hk : KeepBut w w' S none) : Ar w0 w' M S G acts V3 V4 V5 := by
  obtain ⟨cs, hs, _⟩ := h.maker.S_blk
  exact ⟨hm, h.bd.keep hk hs, hb⟩
structure FrA (S G : Nat) (w w' : World) : Prop where
  size : w.heap.size ≤ w'.heap.size
  keep : ∀ i, i < w.heap.size → i ≠ S → i ≠ G → (∀ cs, w.heap[i]? ≠ some (.cells cs 133 (0, 0))) → w'.heap[i]? = w.heap[i]?
theorem FrA.refl (S G : Nat) (w : World) : FrA S G w w := ⟨Nat.le_refl _, fun _ _ _ _ _ => rfl⟩
theorem FrA.trans {S G : Nat} {w w1 w2 : World} (h : FrA S G w w1) (k : FrA S G w1 w2) : FrA S G w w2 :=
  ⟨Nat.le_trans h.size k.size, fun i hi h1 h2 h3 => by
    have e := h.keep i hi h1 h2 h3
    exact (k.keep i (Nat.lt_of_lt_of_le hi h.size) h1 h2 (fun cs hc => h3 cs (e.symm.trans hc))).trans e⟩
theorem FrA.of_below {S G : Nat} {w w' : World} (h : Below w.heap.size w w') : FrA S G w w' := ⟨h.size, fun i hi _ _ _ => h.block i hi⟩
theorem FrA.of_keep {S G : Nat} {w w' : World} (h : KeepBut w w' S none) : FrA S G w w' := ⟨h.1, fun i hi h1 _ _ => h.2 i hi h1 (by simp)⟩
theorem Ar.far {w0 w w' : World} {M S G g : Nat} {acts : List ActX} {V3 V4 V5 : Nat → Value} (h : Ar w0 w M S G acts V3 V4 V5) (hm : ∀ i, i ≠ g → w'.heap[i]? = w.heap[i]?) {cs : Array Value} (hg : w.heap[g]? = some (.cells cs 133 (0, 0))) (hn : ∀ i, i < acts.length → (V5 i).ownBlock ≠ some g) (late : w0.heap.size ≤ g) (hos : w'.os = w.os) (htp : w'.tape = w.tape) (hou : w'.output = w.output) (hsz : w.heap.size ≤ w'.heap.size) : Ar w0 w' M S G acts V3 V4 V5 := by
  have hty : ∀ (i : Nat) (ds : Array Value) (t : TypeId), w.heap[i]? = some (.cells ds t (0, 0)) → t ≠ 133 → w'.heap[i]? = w.heap[i]? := fun i ds t hi ht => hm i (blk_ty_ne hi hg ht)
  obtain ⟨cs', hG, hA⟩ := h.bd.blk
  have hb := h.below
  exact ⟨h.maker.move (fun i ds t hi ht => hty i ds t hi (by rcases ht with rfl | rfl | rfl | rfl <;> decide)), ⟨h.bd.late, ⟨cs', (hty G _ 87 hG (by decide)).trans hG, hA⟩,
    fun j hj => R_moved (h.bd.r3 j hj) (fun i c t hc ht => hty i c t hc (by have h8 : t = 95 := by simpa [k95, k46, Kd.iso, Kd.pair, Kd.string, Kd.int, Kd.bool, Kd.scalar] using ht
                                                                            subst h8; decide)),
    fun j hj => R_moved (h.bd.r4 j hj) (fun i c t hc ht => hty i c t hc (by have h8 : t = 91 := by simpa [kTab, kSl, Kd.iso, Kd.pair, Kd.string, Kd.int, Kd.bool, Kd.scalar] using ht
                                                                            subst h8; decide)),
    fun j hj => Kd.R_mono (Kd.R_move (R_okM (ok' := fun k => k ≠ g) (MArt _ _) (h.bd.r5 j hj) (fun k hk e => hn j hj (by rw [hk, e]))) (fun k hk => hm k hk)) (fun _ _ => trivial), h.bd.a3, h.bd.a4, h.bd.a5⟩,
    ⟨hos.trans hb.os, htp.trans hb.tape, hou.trans hb.output, Nat.le_trans hb.size hsz, fun i hi => (hm i (by omega)).trans (hb.block i hi)⟩⟩
theorem R_farT {α : Type} {d : Kd α} {e b g tg : Nat} {w w' : World} {ok : Nat → Prop} {v : Value} {xs : List α} {cs : Array Value} (h : d.R e w b ok v xs) (hm : ∀ i, i ≠ g → w'.heap[i]? = w.heap[i]?) (hg : w.heap[g]? = some (.cells cs tg (0, 0))) (ht : ∀ q, q ∈ e :: d.E → q ≠ tg) : d.R e w' b ok v xs :=
  R_moved h (fun i _ t hi hq => hm i (blk_ty_ne hi hg (ht t hq)))
theorem Ar.grown {w0 w w' : World} {M S G : Nat} {acts : List ActX} {V3 V4 V5 : Nat → Value} {row : Option Nat} (h : Ar w0 w M S G acts V3 V4 V5) (hg : w.grownBy w' row) (ht : ∀ k, row = some k → ∃ cells, w.heap[k]? = some (.cells cells 135 (0, 0))) (hb : Below w0.heap.size w0 w') : Ar w0 w' M S G acts V3 V4 V5 := by
  have hm : ∀ (i : Nat) (ds : Array Value) (t : TypeId), w.heap[i]? = some (.cells ds t (0, 0)) → t ≠ 135 → w'.heap[i]? = w.heap[i]? := fun i ds t hi h8 => hg.block i (blk_lt hi) (fun e => by
    obtain ⟨cells, hc⟩ := ht i e.symm
    exact blk_ty_ne hi hc h8 rfl)
  exact ⟨h.maker.move (fun i ds t hi h8 => hm i ds t hi (by rcases h8 with rfl | rfl | rfl | rfl <;> decide)), h.bd.move (fun i ds t hi h8 => hm i ds t hi (by rcases h8 with rfl | rfl | rfl | rfl <;> decide)), hb⟩
theorem FrA.grown {S G : Nat} {w w1 w' : World} {row : Option Nat} (h : FrA S G w w1) (hg : w1.grownBy w' row) (late : ∀ k, row = some k → w.heap.size ≤ k) : FrA S G w w' :=
  ⟨Nat.le_trans h.size hg.size, fun i hi h1 h2 h3 => (hg.block i (Nat.lt_of_lt_of_le hi h.size) (fun e => by have := late i e.symm; omega)).trans (h.keep i hi h1 h2 h3)⟩
theorem FrA.far {S G g : Nat} {w w1 w' : World} (h : FrA S G w w1) (hm : ∀ i, i ≠ g → w'.heap[i]? = w1.heap[i]?) (late : w.heap.size ≤ g) (hsz : w1.heap.size ≤ w'.heap.size) : FrA S G w w' :=
  ⟨Nat.le_trans h.size hsz, fun i hi h1 h2 h3 => (hm i (by omega)).trans (h.keep i hi h1 h2 h3)⟩
theorem Ar.close {w0 w w1 : World} {M S G : Nat} {acts : List ActX} {V3 V4 V5 : Nat → Value} {j : Nat} (h : Ar w0 w M S G acts V3 V4 V5) (hj : j < acts.length) {y : ArtX} {v1 : Value} (ho : Kd.R kArt 133 w1 w0.heap.size T1 v1 ((rdN acts j).2.2.2.2.2 ++ [y])) (hb : Below w0.heap.size w0 w1) (hg : w.grownBy w1 (V5 j).ownBlock) (hat : v1.ownBlock = (V5 j).ownBlock ∨ ∃ b, v1.ownBlock = some b ∧ w.heap.size ≤ b) :
    Ar w0 (w1.setCell ⟨G, j * 6 + 5, none⟩ v1) M S G (acts.set j (upd5 (rdN acts j) [y])) V3 V4 (upd V5 j v1) := by
  obtain ⟨cs, hG, hA⟩ := h.bd.blk
  refine ⟨h.maker.move (fun i ds t hi ht => (Below.heap_setCell w1 ⟨G, j * 6 + 5, none⟩ v1 i (blk_ty_ne hi hG (by rcases ht with rfl | rfl | rfl | rfl <;> decide))).trans (hg.block i (blk_lt hi) (fun e => ?_))), h.bd.put5 hj ho hg hat, hb.setCell h.bd.late _⟩
  obtain ⟨cells, hc⟩ := Kd.R_typed (h.bd.r5 j hj) i e.symm
  exact blk_ty_ne hi hc (by rcases ht with rfl | rfl | rfl | rfl <;> decide) rfl
theorem FrA.close {w0 w w2 w1 : World} {M S G : Nat} {acts : List ActX} {V3 V4 V5 : Nat → Value} {j : Nat} (h : Ar w0 w M S G acts V3 V4 V5) (hj : j < acts.length) {v1 : Value} (hf : FrA S G w2 w) (hg : w.grownBy w1 (V5 j).ownBlock) : FrA S G w2 (w1.setCell ⟨G, j * 6 + 5, none⟩ v1) := by
  refine hf.trans ⟨by simpa [World.setCell] using hg.size, fun i hi h1 h2 h3 => (Below.heap_setCell w1 ⟨G, j * 6 + 5, none⟩ v1 i h2).trans (hg.block i hi (fun e => ?_))⟩
  obtain ⟨cells, hc⟩ := Kd.R_typed (h.bd.r5 j hj) i e.symm
  exact h3 cells hc
theorem blk_cellv {w : World} {b j : Nat} {cs : Array Value} {t : TypeId} {v : Value} (h : w.heap[b]? = some (.cells cs t (0, 0))) (hv : cs[j]? = some v) : w.cell? ⟨b, j, none⟩ = some v := (blk_cell h j).trans hv
def zArt : ArtX := (ByteArray.empty, ByteArray.empty, (none, 0, 0), (none, 0, 0), (none, 0, 0), 0)
theorem at_art {w : World} {A : Option Addr} {n : Nat} {xs : List ArtX} (h : Kd.C kArt w A n xs) (i : Int) (h0 : 0 ≤ i) (h1 : i < n) : ∃ (ad : Addr) (nm tg : ByteArray) (A2 A3 A4 : Option Addr) (n2 c2 n3 c3 n4 c4 : Nat) (wt : Int), A = some ad ∧ w.cell? (ad.add (i.toNat * 6)) = some (.string nm) ∧ w.cell? ⟨(ad.add (i.toNat * 6)).block, (ad.add (i.toNat * 6)).off + 1, none⟩ = some (.string tg) ∧ w.cell? ⟨(ad.add (i.toNat * 6)).block, (ad.add (i.toNat * 6)).off + 2, none⟩ = some (.slice A2 n2 c2)
    ∧ w.cell? ⟨(ad.add (i.toNat * 6)).block, (ad.add (i.toNat * 6)).off + 3, none⟩ = some (.slice A3 n3 c3) ∧ w.cell? ⟨(ad.add (i.toNat * 6)).block, (ad.add (i.toNat * 6)).off + 4, none⟩ = some (.slice A4 n4 c4) ∧ w.cell? ⟨(ad.add (i.toNat * 6)).block, (ad.add (i.toNat * 6)).off + 5, none⟩ = some (.int .i64 wt) := by
  obtain ⟨ad, c, e, _, hK, hc0⟩ := Kd.C_get h zArt i h0 h1
  have hc : ∀ j u, c[j]? = some u → w.cell? (ad.add (i.toNat * 6 + j)) = some u := hc0
  obtain ⟨p, hp⟩ : ∃ p, p = xs.getD i.toNat zArt := ⟨_, rfl⟩
  rw [← hp] at hK
  obtain ⟨nm, tg, ⟨A2, n2, c2⟩, ⟨A3, n3, c3⟩, ⟨A4, n4, c4⟩, wt⟩ := p
  obtain ⟨_, _, rfl, rfl, ⟨_, _, rfl, rfl, ⟨_, _, rfl, s2, ⟨_, _, rfl, s3, ⟨_, _, rfl, s4, s5⟩⟩⟩⟩⟩ := hK
  change _ = [Value.slice A2 n2 c2] at s2
  change _ = [Value.slice A3 n3 c3] at s3
  change _ = [Value.slice A4 n4 c4] at s4
  change _ = [Value.int .i64 wt] at s5
  subst s2 s3 s4 s5
  exact ⟨ad, nm, tg, A2, A3, A4, n2, c2, n3, c3, n4, c4, wt, e, hc 0 _ rfl, by rw [← add_field _ _ 1 (by omega)]; exact hc 1 _ rfl, by rw [← add_field _ _ 2 (by omega)]; exact hc 2 _ rfl, by rw [← add_field _ _ 3 (by omega)]; exact hc 3 _ rfl, by rw [← add_field _ _ 4 (by omega)]; exact hc 4 _ rfl, by rw [← add_field _ _ 5 (by omega)]; exact hc 5 _ rfl⟩
def kRef : Kd (ByteArray × ByteArray) := Kd.pair Kd.string Kd.string
theorem info135 : (Tryz.prog.info? 135).map (fun i => (i.zero, i.size, i.bytes)) = some (some (.agg #[.string ⟨#[]⟩, .string ⟨#[]⟩]), 2, 32) := kl_
theorem info133 : (Tryz.prog.info? 133).map (fun i => (i.zero, i.size, i.bytes)) = some (some (.agg #[.string ⟨#[]⟩, .string ⟨#[]⟩, .slice none 0 0, .slice none 0 0, .slice none 0 0, .int .i64 0]), 6, 112) := kl_
theorem at_ref {w : World} {A : Option Addr} {n : Nat} {xs : List (ByteArray × ByteArray)} (h : Kd.C kRef w A n xs) (i : Int) (h0 : 0 ≤ i) (h1 : i < n) : ∃ (ad : Addr) (a b : ByteArray), A = some ad ∧ w.cell? (ad.add (i.toNat * 2)) = some (.string a) ∧ w.cell? ⟨(ad.add (i.toNat * 2)).block, (ad.add (i.toNat * 2)).off + 1, none⟩ = some (.string b) := by
  obtain ⟨ad, c, e, _, hK, hc0⟩ := Kd.C_get h (ByteArray.empty, ByteArray.empty) i h0 h1
  have hc : ∀ j u, c[j]? = some u → w.cell? (ad.add (i.toNat * 2 + j)) = some u := hc0
  obtain ⟨p, hp⟩ : ∃ p, p = xs.getD i.toNat (ByteArray.empty, ByteArray.empty) := ⟨_, rfl⟩
  rw [← hp] at hK
  obtain ⟨a, b⟩ := p
  obtain ⟨_, _, rfl, rfl, rfl⟩ := hK
  exact ⟨ad, a, b, e, hc 0 _ rfl, by rw [← add_field _ _ 1 (by omega)]; exact hc 1 _ rfl⟩
end Go.Proofs.YtkjneemcledfjaaGreatDoor.PBookCases
