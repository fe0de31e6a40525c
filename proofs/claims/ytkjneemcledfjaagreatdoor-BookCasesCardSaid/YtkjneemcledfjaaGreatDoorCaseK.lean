import Derived.Test.YtkjneemcledfjaaGreatDoorCaseJ
namespace Go.Proofs.YtkjneemcledfjaaGreatDoor.PBookCases
open Go.RowKit Go.Proofs.YtkjneemcledfjaaGreatDoorW.PrintWords Go.Proofs.YtkjneemcledfjaaGreatDoorW.PrintLast Go.Proofs.YtkjneemcledfjaaGreatDoorW.PrintMore
set_option linter.unusedVariables false
set_option linter.unusedSimpArgs false
set_option maxHeartbeats 8000000
set_option maxRecDepth 100000
abbrev TabX := ByteArray × Int × Int × Bool × (Option Addr × Nat × Nat)
abbrev ArtX := ByteArray × ByteArray × (Option Addr × Nat × Nat) × (Option Addr × Nat × Nat) × (Option Addr × Nat × Nat) × Int
abbrev ActX := ByteArray × Int × Int × List S95 × List TabX × List ArtX
def kArt : Kd ArtX := Kd.pair Kd.string (Kd.pair Kd.string (Kd.pair kSl (Kd.pair kSl (Kd.pair kSl (Kd.int .i64)))))
def kAct : Kd ActX := Kd.pair Kd.string (Kd.pair (Kd.int .i64) (Kd.pair (Kd.int .i64) (Kd.pair (Kd.slice 95 k95) (Kd.pair (Kd.slice 91 kTab) (Kd.slice 133 kArt)))))
def zAct : ActX := (ByteArray.empty, 0, 0, [], [], [])
def rdA (xs : List ActX) (i : Int) : ActX := xs.getD i.toNat zAct
theorem at_act {w : World} {A : Option Addr} {n : Nat} {xs : List ActX} (h : Kd.C kAct w A n xs) (i : Int) (h0 : 0 ≤ i) (h1 : i < n) : ∃ (ad : Addr) (A3 A4 A5 : Option Addr) (c3 c4 c5 : Nat), A = some ad ∧ w.cell? (ad.add (i.toNat * 6)) = some (.string (rdA xs i).1) ∧ w.cell? ⟨(ad.add (i.toNat * 6)).block, (ad.add (i.toNat * 6)).off + 1, none⟩ = some (.int .i64 (rdA xs i).2.1) ∧ w.cell? ⟨(ad.add (i.toNat * 6)).block, (ad.add (i.toNat * 6)).off + 2, none⟩ = some (.int .i64 (rdA xs i).2.2.1)
  ∧ w.cell? ⟨(ad.add (i.toNat * 6)).block, (ad.add (i.toNat * 6)).off + 3, none⟩ = some (.slice A3 (rdA xs i).2.2.2.1.length c3) ∧ w.cell? ⟨(ad.add (i.toNat * 6)).block, (ad.add (i.toNat * 6)).off + 4, none⟩ = some (.slice A4 (rdA xs i).2.2.2.2.1.length c4) ∧ w.cell? ⟨(ad.add (i.toNat * 6)).block, (ad.add (i.toNat * 6)).off + 5, none⟩ = some (.slice A5 (rdA xs i).2.2.2.2.2.length c5)
  ∧ Kd.C k95 w A3 (rdA xs i).2.2.2.1.length (rdA xs i).2.2.2.1 ∧ Kd.C kTab w A4 (rdA xs i).2.2.2.2.1.length (rdA xs i).2.2.2.2.1 ∧ Kd.C kArt w A5 (rdA xs i).2.2.2.2.2.length (rdA xs i).2.2.2.2.2 := by
 obtain ⟨ad, c, e, _, hK, hc0⟩ := Kd.C_get h zAct i h0 h1; have hc : ∀ j u, c[j]? = some u → w.cell? (ad.add (i.toNat * 6 + j)) = some u := hc0; obtain ⟨p, hp⟩ : ∃ p, p = xs.getD i.toNat zAct := ⟨_, rfl⟩; rw [show rdA xs i = p from hp.symm]; rw [← hp] at hK; obtain ⟨nm, lv, dt, ax, tx, rx⟩ := p; obtain ⟨_, _, rfl, rfl, ⟨_, _, rfl, rfl, ⟨_, _, rfl, rfl, ⟨_, _, rfl, ⟨A3, c3, rfl, l3, h3⟩, ⟨_, _, rfl, ⟨A4, c4, rfl, l4, h4⟩, ⟨A5, c5, rfl, l5, h5⟩⟩⟩⟩⟩⟩ := hK; exact ⟨ad, A3, A4, A5, c3, c4, c5, e, hc 0 _ rfl, by rw [← add_field _ _ 1 (by omega)]; exact hc 1 _ rfl, by rw [← add_field _ _ 2 (by omega)]; exact hc 2 _ rfl, by rw [← add_field _ _ 3 (by omega)]; exact hc 3 _ rfl, by rw [← add_field _ _ 4 (by omega)]; exact hc 4 _ rfl, by rw [← add_field _ _ 5 (by omega)]; exact hc 5 _ rfl, h3, h4, h5⟩
theorem info91 : (Tryz.prog.info? 91).map (fun i => (i.zero, i.size, i.bytes)) = some (some (.agg #[.string ⟨#[]⟩, .int .i64 0, .int .i64 0, .bool false, .slice none 0 0]), 5, 64) := kl_
structure Kn (w w' : World) (sp : Option Addr) (M : Nat) (li lo : List S95) (lt : List TabX) (Ai Ao At : Option Addr) (ci co ct : Nat) : Prop where
 blk : w'.heap[M]? = some (.cells #[.pointer sp, .slice Ai li.length ci, .slice Ao lo.length co, .slice At lt.length ct] 128 (0, 0))
 ri : Kd.R k95 95 w' w.heap.size T1 (.slice Ai li.length ci) li
 ro : Kd.R k95 95 w' w.heap.size T1 (.slice Ao lo.length co) lo
 rt : Kd.R kTab 91 w' w.heap.size T1 (.slice At lt.length ct) lt
 ap : ∀ q, (Value.slice Ai li.length ci).ownBlock = some q → (Value.slice Ao lo.length co).ownBlock = some q → False
 below : Below w.heap.size w w'
 late : w.heap.size ≤ M
theorem Kn.alloc {w w' : World} {sp : Option Addr} {M : Nat} {li lo : List S95} {lt : List TabX} {Ai Ao At : Option Addr} {ci co ct : Nat} (h : Kn w w' sp M li lo lt Ai Ao At ci co ct) (o : Obj) : Kn w (w'.alloc o) sp M li lo lt Ai Ao At ci co ct :=
 ⟨((below_alloc (Below.refl _ _) o).block _ (blk_lt h.blk)).trans h.blk, Kd.R_alloc h.ri o, Kd.R_alloc h.ro o, Kd.R_alloc h.rt o, h.ap, below_alloc h.below o, h.late⟩
theorem Kn.drew {w w' : World} {sp : Option Addr} {M : Nat} {li lo : List S95} {lt : List TabX} {Ai Ao At : Option Addr} {ci co ct : Nat} (h : Kn w w' sp M li lo lt Ai Ao At ci co ct) : Kn w w'.drew sp M li lo lt Ai Ao At ci co ct :=
 ⟨h.blk, Kd.R_drew h.ri, Kd.R_drew h.ro, Kd.R_drew h.rt, h.ap, below_drew1 h.below, h.late⟩
theorem R_ok95 {e : Nat} {w : World} {b : Nat} {ok ok' : Nat → Prop} {v : Value} {xs : List S95} (h : Kd.R k95 e w b ok v xs) (h' : ∀ k, v.ownBlock = some k → ok' k) : Kd.R k95 e w b ok' v xs := ⟨h', h.2.imp_ (fun x _ hp => by
 obtain rfl := k95_openM hp
 exact k95_mkM _ _ _ x)⟩
theorem Kn.put1 {w W w1 : World} {sp : Option Addr} {M : Nat} {li lo : List S95} {lt : List TabX} {Ai Ao At A1 : Option Addr} {ci co ct c1 : Nat} {x : S95} (h : Kn w W sp M li lo lt Ai Ao At ci co ct) (ho : Kd.R k95 95 w1 w.heap.size T1 (.slice A1 (li.length + 1) c1) (li ++ [x])) (hb : Below w.heap.size w w1) (hg : W.grownBy w1 (Value.slice Ai li.length ci).ownBlock)
  (hat : (Value.slice A1 (li.length + 1) c1).ownBlock = (Value.slice Ai li.length ci).ownBlock ∨ ∃ b, (Value.slice A1 (li.length + 1) c1).ownBlock = some b ∧ W.heap.size ≤ b) : Kn w (w1.setCell ⟨M, 1, none⟩ (.slice A1 (li.length + 1) c1)) sp M (li ++ [x]) lo lt A1 Ao At c1 co ct := by
 have hM : w1.heap[M]? = some (.cells #[.pointer sp, .slice Ai li.length ci, .slice Ao lo.length co, .slice At lt.length ct] 128 (0, 0)) := (hg.block M (blk_lt h.blk) (Kd.R_ne h.ri h.blk (by decide))).trans h.blk; have hro : Kd.R k95 95 w1 w.heap.size T1 (.slice Ao lo.length co) lo := Kd.R_mono (Kd.R_grown (R_ok95 (ok' := fun k => some k ≠ (Value.slice Ai li.length ci).ownBlock) h.ro (fun k hk e => h.ap k (e.symm) (hk))) hg (fun _ hk => hk)) (fun _ _ => trivial); have hrt := Kd.R_over' h.rt (Kd.R_typed h.ri) (by decide) hg; refine ⟨?_, ?_, Kd.R_set hro hM (by decide) 1 _, Kd.R_set hrt hM (by decide) 1 _, fun q h1 h2 => ?_, hb.setCell h.late _, h.late⟩
 ·have := blk_set hM 1 (.slice A1 (li.length + 1) c1); rw [show (li ++ [x]).length = li.length + 1 from by simp]; exact this
 ·rw [show (li ++ [x]).length = li.length + 1 from by simp]; exact Kd.R_set ho hM (by decide) 1 _
 ·rw [show (li ++ [x]).length = li.length + 1 from by simp] at h1; rcases hat with e | ⟨b, e, hb⟩
  ·exact h.ap q (e.symm.trans h1) h2
  ·have e1 : (Value.slice A1 (li.length + 1) c1).ownBlock = some q := h1; rw [e1] at e; have := Option.some.inj e; obtain ⟨cells, hc⟩ := Kd.R_typed h.ro q h2; have := blk_lt hc; omega
theorem Kn.put2 {w W w1 : World} {sp : Option Addr} {M : Nat} {li lo : List S95} {lt : List TabX} {Ai Ao At A1 : Option Addr} {ci co ct c1 : Nat} {x : S95} (h : Kn w W sp M li lo lt Ai Ao At ci co ct) (ho : Kd.R k95 95 w1 w.heap.size T1 (.slice A1 (lo.length + 1) c1) (lo ++ [x])) (hb : Below w.heap.size w w1) (hg : W.grownBy w1 (Value.slice Ao lo.length co).ownBlock)
  (hat : (Value.slice A1 (lo.length + 1) c1).ownBlock = (Value.slice Ao lo.length co).ownBlock ∨ ∃ b, (Value.slice A1 (lo.length + 1) c1).ownBlock = some b ∧ W.heap.size ≤ b) : Kn w (w1.setCell ⟨M, 2, none⟩ (.slice A1 (lo.length + 1) c1)) sp M li (lo ++ [x]) lt Ai A1 At ci c1 ct := by
 have hM : w1.heap[M]? = some (.cells #[.pointer sp, .slice Ai li.length ci, .slice Ao lo.length co, .slice At lt.length ct] 128 (0, 0)) := (hg.block M (blk_lt h.blk) (Kd.R_ne h.ro h.blk (by decide))).trans h.blk; have hri : Kd.R k95 95 w1 w.heap.size T1 (.slice Ai li.length ci) li := Kd.R_mono (Kd.R_grown (R_ok95 (ok' := fun k => some k ≠ (Value.slice Ao lo.length co).ownBlock) h.ri (fun k hk e => h.ap k (hk) (e.symm))) hg (fun _ hk => hk)) (fun _ _ => trivial); have hrt := Kd.R_over' h.rt (Kd.R_typed h.ro) (by decide) hg; refine ⟨?_, Kd.R_set hri hM (by decide) 2 _, ?_, Kd.R_set hrt hM (by decide) 2 _, fun q h1 h2 => ?_, hb.setCell h.late _, h.late⟩
 ·have := blk_set hM 2 (.slice A1 (lo.length + 1) c1); rw [show (lo ++ [x]).length = lo.length + 1 from by simp]; exact this
 ·rw [show (lo ++ [x]).length = lo.length + 1 from by simp]; exact Kd.R_set ho hM (by decide) 2 _
 ·rw [show (lo ++ [x]).length = lo.length + 1 from by simp] at h2; rcases hat with e | ⟨b, e, hb⟩
  ·exact h.ap q h1 (e.symm.trans h2)
  ·have e1 : (Value.slice A1 (lo.length + 1) c1).ownBlock = some q := h2; rw [e1] at e; have := Option.some.inj e; obtain ⟨cells, hc⟩ := Kd.R_typed h.ri q h1; have := blk_lt hc; omega
theorem Kn.put3 {w W w1 : World} {sp : Option Addr} {M : Nat} {li lo : List S95} {lt ls : List TabX} {Ai Ao At A1 : Option Addr} {ci co ct c1 : Nat} (h : Kn w W sp M li lo lt Ai Ao At ci co ct) (ho : Kd.R kTab 91 w1 w.heap.size T1 (.slice A1 (lt.length + ls.length) c1) (lt ++ ls)) (hb : Below w.heap.size w w1) (hg : W.grownBy w1 (Value.slice At lt.length ct).ownBlock) :
  Kn w (w1.setCell ⟨M, 3, none⟩ (.slice A1 (lt.length + ls.length) c1)) sp M li lo (lt ++ ls) Ai Ao A1 ci co c1 := by
 have hM : w1.heap[M]? = some (.cells #[.pointer sp, .slice Ai li.length ci, .slice Ao lo.length co, .slice At lt.length ct] 128 (0, 0)) := (hg.block M (blk_lt h.blk) (Kd.R_ne h.rt h.blk (by decide))).trans h.blk; have hri := Kd.R_over' h.ri (Kd.R_typed h.rt) (by decide) hg; have hro := Kd.R_over' h.ro (Kd.R_typed h.rt) (by decide) hg; have hl : (lt ++ ls).length = lt.length + ls.length := List.length_append; exact ⟨by rw [hl]; exact blk_set hM 3 _, Kd.R_set hri hM (by decide) 3 _, Kd.R_set hro hM (by decide) 3 _, by rw [hl]; exact Kd.R_set ho hM (by decide) 3 _, h.ap, hb.setCell h.late _, h.late⟩
end Go.Proofs.YtkjneemcledfjaaGreatDoor.PBookCases
