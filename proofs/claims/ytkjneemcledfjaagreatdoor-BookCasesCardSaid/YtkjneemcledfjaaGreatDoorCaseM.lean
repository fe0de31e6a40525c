import Derived.Test.YtkjneemcledfjaaGreatDoorCaseL
namespace Go.Proofs.YtkjneemcledfjaaGreatDoor.PBookCases
open Go.RowKit Go.Proofs.YtkjneemcledfjaaGreatDoorW.PrintWords Go.Proofs.YtkjneemcledfjaaGreatDoorW.PrintLast Go.Proofs.YtkjneemcledfjaaGreatDoorW.PrintMore
set_option linter.unusedVariables false
set_option linter.unusedSimpArgs false
set_option maxHeartbeats 8000000
set_option maxRecDepth 100000
def rdN (xs : List ActX) (j : Nat) : ActX := xs.getD j zAct
theorem rdA_N (xs : List ActX) (i : Int) : rdA xs i = rdN xs i.toNat := rfl
theorem rdN_set {xs : List ActX} {j : Nat} (hj : j < xs.length) (a : ActX) (i : Nat) : rdN (xs.set j a) i = if i = j then a else rdN xs i := by
 unfold rdN; by_cases h : i = j
 ·subst h; simp [List.getD, hj]
 ·rw [if_neg h]; simp [List.getD, List.getElem?_set_ne (Ne.symm h)]
structure ActAt (cs : Array Value) (j : Nat) (a : ActX) (v3 v4 v5 : Value) : Prop where
 c0 : cs[j * 6]? = some (.string a.1)
 c1 : cs[j * 6 + 1]? = some (.int .i64 a.2.1)
 c2 : cs[j * 6 + 2]? = some (.int .i64 a.2.2.1)
 c3 : cs[j * 6 + 3]? = some v3
 c4 : cs[j * 6 + 4]? = some v4
 c5 : cs[j * 6 + 5]? = some v5
structure Bd (w0 w : World) (G : Nat) (acts : List ActX) (V3 V4 V5 : Nat → Value) : Prop where
 late : w0.heap.size ≤ G
 blk : ∃ cs, w.heap[G]? = some (.cells cs 87 (0, 0)) ∧ ∀ j, j < acts.length → ActAt cs j (rdN acts j) (V3 j) (V4 j) (V5 j)
 r3 : ∀ j, j < acts.length → Kd.R k95 95 w w0.heap.size T1 (V3 j) (rdN acts j).2.2.2.1
 r4 : ∀ j, j < acts.length → Kd.R kTab 91 w w0.heap.size T1 (V4 j) (rdN acts j).2.2.2.2.1
 r5 : ∀ j, j < acts.length → Kd.R kArt 133 w w0.heap.size T1 (V5 j) (rdN acts j).2.2.2.2.2
 a3 : ∀ i j, i < acts.length → j < acts.length → i ≠ j → ∀ q, (V3 i).ownBlock = some q → (V3 j).ownBlock = some q → False
 a4 : ∀ i j, i < acts.length → j < acts.length → i ≠ j → ∀ q, (V4 i).ownBlock = some q → (V4 j).ownBlock = some q → False
 a5 : ∀ i j, i < acts.length → j < acts.length → i ≠ j → ∀ q, (V5 i).ownBlock = some q → (V5 j).ownBlock = some q → False
theorem R_moved {α : Type} {d : Kd α} {e b : Nat} {w w' : World} {ok : Nat → Prop} {v : Value} {xs : List α} (h : d.R e w b ok v xs) (hm : ∀ (i : Nat) (cs : Array Value) (t : TypeId), w.heap[i]? = some (.cells cs t (0, 0)) → t ∈ e :: d.E → w'.heap[i]? = w.heap[i]?) : d.R e w' b ok v xs :=
 Kd.R_mono (Kd.R_move (Kd.R_bound h) (fun k hk => by
  obtain ⟨_, _, _, q, hq, cells, hc⟩ := hk
  exact hm k cells q hc hq)) (fun _ hk => hk.1)
theorem Bd.move {w0 w w' : World} {G : Nat} {acts : List ActX} {V3 V4 V5 : Nat → Value} (h : Bd w0 w G acts V3 V4 V5) (hm : ∀ (i : Nat) (cs : Array Value) (t : TypeId), w.heap[i]? = some (.cells cs t (0, 0)) → t = 87 ∨ t = 95 ∨ t = 91 ∨ t = 133 → w'.heap[i]? = w.heap[i]?) : Bd w0 w' G acts V3 V4 V5 := by
 obtain ⟨cs, hG, hA⟩ := h.blk; exact ⟨h.late, ⟨cs, (hm G cs 87 hG (.inl rfl)).trans hG, hA⟩, fun j hj => R_moved (h.r3 j hj) (fun i c t hc ht => hm i c t hc (.inr (.inl s6_))), fun j hj => R_moved (h.r4 j hj) (fun i c t hc ht => hm i c t hc (.inr (.inr (.inl (by simpa [kTab, kSl, Kd.iso, Kd.pair, Kd.string, Kd.int, Kd.bool, Kd.scalar] using ht))))),
  fun j hj => R_moved (h.r5 j hj) (fun i c t hc ht => hm i c t hc (.inr (.inr (.inr (by simpa [kArt, kSl, Kd.iso, Kd.pair, Kd.string, Kd.int, Kd.bool, Kd.scalar] using ht))))), h.a3, h.a4, h.a5⟩
theorem Bd.of_below {w0 w w' : World} {G : Nat} {acts : List ActX} {V3 V4 V5 : Nat → Value} (h : Bd w0 w G acts V3 V4 V5) (hb : Below w.heap.size w w') : Bd w0 w' G acts V3 V4 V5 := h.move (fun i _ _ hi _ => hb.block i (blk_lt hi))
theorem Bd.alloc {w0 w : World} {G : Nat} {acts : List ActX} {V3 V4 V5 : Nat → Value} (h : Bd w0 w G acts V3 V4 V5) (o : Obj) : Bd w0 (w.alloc o) G acts V3 V4 V5 := h.of_below (below_alloc (Below.refl _ _) o)
theorem Bd.drew {w0 w : World} {G : Nat} {acts : List ActX} {V3 V4 V5 : Nat → Value} (h : Bd w0 w G acts V3 V4 V5) : Bd w0 w.drew G acts V3 V4 V5 := h.of_below (below_drew1 (Below.refl _ _))
theorem Bd.keep {w0 w w' : World} {S G : Nat} {acts : List ActX} {V3 V4 V5 : Nat → Value} (h : Bd w0 w G acts V3 V4 V5) (hk : KeepBut w w' S none) {cs : Array Value} (hs : w.heap[S]? = some (.cells cs 81 (0, 0))) : Bd w0 w' G acts V3 V4 V5 :=
 h.move (fun i ds t hi ht => hk.2 i (blk_lt hi) (blk_ty_ne hi hs (by rcases ht with rfl | rfl | rfl | rfl <;> decide)) (by simp))
theorem Bd.reads {w0 w : World} {G : Nat} {acts : List ActX} {V3 V4 V5 : Nat → Value} (h : Bd w0 w G acts V3 V4 V5) (hl : acts.length ≤ 100) : Kd.C kAct w (some ⟨G, 0, none⟩) acts.length acts := by
 obtain ⟨cs, hG, hA⟩ := h.blk; refine ⟨rfl, by omega, fun _ => ⟨⟨G, 0, none⟩, rfl, fun j p hp => ?_⟩⟩; have hj : j < acts.length := (List.getElem?_eq_some_iff.1 hp).1; have hr : rdN acts j = p := by unfold rdN; simp [List.getD, hp]
 have a := hA j hj; obtain ⟨A3, c3, e3, l3, k3⟩ := Kd.R_reads (h.r3 j hj); obtain ⟨A4, c4, e4, l4, k4⟩ := Kd.R_reads (h.r4 j hj); obtain ⟨A5, c5, e5, l5, k5⟩ := Kd.R_reads (h.r5 j hj); rw [hr] at a e3 e4 e5 l3 l4 l5 k3 k4 k5; rw [e3, e4, e5] at a; refine ⟨[.string p.1, .int .i64 p.2.1, .int .i64 p.2.2.1, .slice A3 p.2.2.2.1.length c3, .slice A4 p.2.2.2.2.1.length c4, .slice A5 p.2.2.2.2.2.length c5], rfl, ⟨[_], _, rfl, rfl, ⟨[_], _, rfl, rfl, ⟨[_], _, rfl, rfl, ⟨[_], _, rfl, ⟨A3, c3, rfl, l3, k3⟩, ⟨[_], _, rfl, ⟨A4, c4, rfl, l4, k4⟩, ⟨A5, c5, rfl, l5, k5⟩⟩⟩⟩⟩⟩, fun i u hu => ?_⟩; have hc : ∀ n v, cs[n]? = some v → n = j * 6 + i → w.cell? (Addr.add ⟨G, 0, none⟩ (j * 6 + i)) = some v := fun n v hv e => by
  subst e; have := (blk_cell hG (j * 6 + i)).trans hv; have e0 : Addr.add ⟨G, 0, none⟩ (j * 6 + i) = ⟨G, j * 6 + i, none⟩ := by
   unfold Addr.add; split
   ·rename_i h0; rw [h0]
   ·simp
  rw [e0]; exact this
 match i, hu with
 | 0, hu => obtain rfl := Option.some.inj hu; exact hc _ _ a.c0 (by omega)
 | 1, hu => obtain rfl := Option.some.inj hu; exact hc _ _ a.c1 (by omega)
 | 2, hu => obtain rfl := Option.some.inj hu; exact hc _ _ a.c2 (by omega)
 | 3, hu => obtain rfl := Option.some.inj hu; exact hc _ _ a.c3 (by omega)
 | 4, hu => obtain rfl := Option.some.inj hu; exact hc _ _ a.c4 (by omega)
 | 5, hu => obtain rfl := Option.some.inj hu; exact hc _ _ a.c5 (by omega)
theorem R_okM {α : Type} {d : Kd α} {e : Nat} {w : World} {b : Nat} {ok ok' : Nat → Prop} {v : Value} {xs : List α} (hM : ∀ (o o' : Nat → Prop) x cs, d.M w b o x cs → d.M w b o' x cs) (h : d.R e w b ok v xs) (h' : ∀ k, v.ownBlock = some k → ok' k) : d.R e w b ok' v xs := ⟨h', h.2.imp_ (fun x cs hp => hM _ _ x cs hp)⟩
theorem M95 (w : World) (b : Nat) (o o' : Nat → Prop) (x : S95) (cs : List Value) (h : k95.M w b o x cs) : k95.M w b o' x cs := by
 obtain rfl := k95_openM h; exact k95_mkM _ _ _ x
theorem MTab (w : World) (b : Nat) (o o' : Nat → Prop) (x : TabX) (cs : List Value) (h : kTab.M w b o x cs) : kTab.M w b o' x cs := h
theorem MArt (w : World) (b : Nat) (o o' : Nat → Prop) (x : ArtX) (cs : List Value) (h : kArt.M w b o x cs) : kArt.M w b o' x cs := h
def upd (V : Nat → Value) (j : Nat) (v : Value) (i : Nat) : Value := if i = j then v else V i
def upd3 (a : ActX) (ys : List S95) : ActX := (a.1, a.2.1, a.2.2.1, (a.2.2.2.1 ++ ys), a.2.2.2.2.1, a.2.2.2.2.2)
theorem Bd.put3 {w0 W w1 : World} {G : Nat} {acts : List ActX} {V3 V4 V5 : Nat → Value} (h : Bd w0 W G acts V3 V4 V5) {j : Nat} (hj : j < acts.length) {ys : List S95} {v1 : Value} (ho : Kd.R k95 95 w1 w0.heap.size T1 v1 ((rdN acts j).2.2.2.1 ++ ys)) (hg : W.grownBy w1 (V3 j).ownBlock) (hat : v1.ownBlock = (V3 j).ownBlock ∨ ∃ b, v1.ownBlock = some b ∧ W.heap.size ≤ b) :
  Bd w0 (w1.setCell ⟨G, j * 6 + 3, none⟩ v1) G (acts.set j (upd3 (rdN acts j) ys)) (upd V3 j v1) V4 V5 := by
 obtain ⟨cs, hG0, hA⟩ := h.blk; have hG : w1.heap[G]? = some (.cells cs 87 (0, 0)) := (hg.block G (blk_lt hG0) (Kd.R_ne (h.r3 j hj) hG0 (by decide))).trans hG0; have hlen : (acts.set j (upd3 (rdN acts j) ys)).length = acts.length := List.length_set; refine ⟨h.late, ⟨_, blk_set hG (j * 6 + 3) v1, fun i hi => ?_⟩, ?r3, ?r4, ?r5, ?a3, ?a4, ?a5⟩
 ·rw [hlen] at hi; have a := hA i hi; have b := hA j hj; rw [rdN_set hj]; by_cases e : i = j
  ·subst e; rw [if_pos rfl]; unfold upd; simp only [if_true]; have hsz : i * 6 + 3 < cs.size := (Array.getElem?_eq_some_iff.1 b.c3).1; refine ⟨by rw [Array.getElem?_setIfInBounds_ne (by omega)]; exact a.c0, by rw [Array.getElem?_setIfInBounds_ne (by omega)]; exact a.c1, by rw [Array.getElem?_setIfInBounds_ne (by omega)]; exact a.c2, by rw [Array.getElem?_setIfInBounds_self_of_lt hsz], by rw [Array.getElem?_setIfInBounds_ne (by omega)]; exact a.c4, by rw [Array.getElem?_setIfInBounds_ne (by omega)]; exact a.c5⟩
  ·rw [if_neg e]; unfold upd; simp only [if_neg e]; refine ⟨by rw [Array.getElem?_setIfInBounds_ne (by omega)]; exact a.c0, by rw [Array.getElem?_setIfInBounds_ne (by omega)]; exact a.c1, by rw [Array.getElem?_setIfInBounds_ne (by omega)]; exact a.c2, by rw [Array.getElem?_setIfInBounds_ne (by omega)]; exact a.c3, by rw [Array.getElem?_setIfInBounds_ne (by omega)]; exact a.c4, by rw [Array.getElem?_setIfInBounds_ne (by omega)]; exact a.c5⟩
 case r3 =>
  intro i hi; rw [hlen] at hi; rw [rdN_set hj]; by_cases e : i = j
  ·subst e; rw [if_pos rfl]; unfold upd; simp only [if_true]; exact Kd.R_set ho hG (by decide) _ _
  ·rw [if_neg e]; unfold upd; simp only [if_neg e]; refine Kd.R_set (Kd.R_mono (Kd.R_grown (R_okM (ok' := fun k => some k ≠ (V3 j).ownBlock) (M95 _ _) (h.r3 i hi) (fun k hk e2 => h.a3 i j hi hj e k hk e2.symm)) hg (fun _ hk => hk)) (fun _ _ => trivial)) hG (by decide) _ _
 case r4 =>
  intro i hi; rw [hlen] at hi; rw [rdN_set hj]; have := Kd.R_set (Kd.R_over' (h.r4 i hi) (Kd.R_typed (h.r3 j hj)) (by decide) hg) hG (by decide) (j * 6 + 3) v1; by_cases e : i = j
  ·subst e; rw [if_pos rfl]; exact this
  ·rw [if_neg e]; exact this
 case r5 =>
  intro i hi; rw [hlen] at hi; rw [rdN_set hj]; have := Kd.R_set (Kd.R_over' (h.r5 i hi) (Kd.R_typed (h.r3 j hj)) (by decide) hg) hG (by decide) (j * 6 + 3) v1; by_cases e : i = j
  ·subst e; rw [if_pos rfl]; exact this
  ·rw [if_neg e]; exact this
 case a3 =>
  intro i i' hi hi' hne q h1 h2; rw [hlen] at hi hi'; have far : ∀ i, i < acts.length → i ≠ j → ∀ q, (V3 i).ownBlock = some q → v1.ownBlock = some q → False := fun i hi hij q h1 h2 => by
   rcases hat with e | ⟨b, e, hb⟩
   ·exact h.a3 i j hi hj hij q h1 (e.symm.trans h2)
   ·rw [h2] at e; obtain ⟨cells, hc⟩ := Kd.R_typed (h.r3 i hi) q h1; have := blk_lt hc; have := Option.some.inj e; omega
  unfold upd at h1 h2; by_cases e : i = j
  ·rw [if_pos e] at h1; rw [if_neg (fun e2 => hne (e.trans e2.symm))] at h2; exact far i' hi' (fun e2 => hne (e.trans e2.symm)) q h2 h1
  ·rw [if_neg e] at h1; by_cases e2 : i' = j
   ·rw [if_pos e2] at h2; exact far i hi e q h1 h2
   ·rw [if_neg e2] at h2; exact h.a3 i i' hi hi' hne q h1 h2
 case a4 =>
  intro i i' hi hi'; rw [hlen] at hi hi'; exact h.a4 i i' hi hi'
 case a5 =>
  intro i i' hi hi'; rw [hlen] at hi hi'; exact h.a5 i i' hi hi'
def upd4 (a : ActX) (ys : List TabX) : ActX := (a.1, a.2.1, a.2.2.1, a.2.2.2.1, (a.2.2.2.2.1 ++ ys), a.2.2.2.2.2)
theorem Bd.put4 {w0 W w1 : World} {G : Nat} {acts : List ActX} {V3 V4 V5 : Nat → Value} (h : Bd w0 W G acts V3 V4 V5) {j : Nat} (hj : j < acts.length) {ys : List TabX} {v1 : Value} (ho : Kd.R kTab 91 w1 w0.heap.size T1 v1 ((rdN acts j).2.2.2.2.1 ++ ys)) (hg : W.grownBy w1 (V4 j).ownBlock) (hat : v1.ownBlock = (V4 j).ownBlock ∨ ∃ b, v1.ownBlock = some b ∧ W.heap.size ≤ b) :
  Bd w0 (w1.setCell ⟨G, j * 6 + 4, none⟩ v1) G (acts.set j (upd4 (rdN acts j) ys)) V3 (upd V4 j v1) V5 := by
 obtain ⟨cs, hG0, hA⟩ := h.blk; have hG : w1.heap[G]? = some (.cells cs 87 (0, 0)) := (hg.block G (blk_lt hG0) (Kd.R_ne (h.r4 j hj) hG0 (by decide))).trans hG0; have hlen : (acts.set j (upd4 (rdN acts j) ys)).length = acts.length := List.length_set; refine ⟨h.late, ⟨_, blk_set hG (j * 6 + 4) v1, fun i hi => ?_⟩, ?r3, ?r4, ?r5, ?a3, ?a4, ?a5⟩
 ·rw [hlen] at hi; have a := hA i hi; have b := hA j hj; rw [rdN_set hj]; by_cases e : i = j
  ·subst e; rw [if_pos rfl]; unfold upd; simp only [if_true]; have hsz : i * 6 + 4 < cs.size := (Array.getElem?_eq_some_iff.1 b.c4).1; refine ⟨by rw [Array.getElem?_setIfInBounds_ne (by omega)]; exact a.c0, by rw [Array.getElem?_setIfInBounds_ne (by omega)]; exact a.c1, by rw [Array.getElem?_setIfInBounds_ne (by omega)]; exact a.c2, by rw [Array.getElem?_setIfInBounds_ne (by omega)]; exact a.c3, by rw [Array.getElem?_setIfInBounds_self_of_lt hsz], by rw [Array.getElem?_setIfInBounds_ne (by omega)]; exact a.c5⟩
  ·rw [if_neg e]; unfold upd; simp only [if_neg e]; refine ⟨by rw [Array.getElem?_setIfInBounds_ne (by omega)]; exact a.c0, by rw [Array.getElem?_setIfInBounds_ne (by omega)]; exact a.c1, by rw [Array.getElem?_setIfInBounds_ne (by omega)]; exact a.c2, by rw [Array.getElem?_setIfInBounds_ne (by omega)]; exact a.c3, by rw [Array.getElem?_setIfInBounds_ne (by omega)]; exact a.c4, by rw [Array.getElem?_setIfInBounds_ne (by omega)]; exact a.c5⟩
 case r3 =>
  intro i hi; rw [hlen] at hi; rw [rdN_set hj]; have := Kd.R_set (Kd.R_over' (h.r3 i hi) (Kd.R_typed (h.r4 j hj)) (by decide) hg) hG (by decide) (j * 6 + 4) v1; by_cases e : i = j
  ·subst e; rw [if_pos rfl]; exact this
  ·rw [if_neg e]; exact this
 case r4 =>
  intro i hi; rw [hlen] at hi; rw [rdN_set hj]; by_cases e : i = j
  ·subst e; rw [if_pos rfl]; unfold upd; simp only [if_true]; exact Kd.R_set ho hG (by decide) _ _
  ·rw [if_neg e]; unfold upd; simp only [if_neg e]; refine Kd.R_set (Kd.R_mono (Kd.R_grown (R_okM (ok' := fun k => some k ≠ (V4 j).ownBlock) (MTab _ _) (h.r4 i hi) (fun k hk e2 => h.a4 i j hi hj e k hk e2.symm)) hg (fun _ hk => hk)) (fun _ _ => trivial)) hG (by decide) _ _
 case r5 =>
  intro i hi; rw [hlen] at hi; rw [rdN_set hj]; have := Kd.R_set (Kd.R_over' (h.r5 i hi) (Kd.R_typed (h.r4 j hj)) (by decide) hg) hG (by decide) (j * 6 + 4) v1; by_cases e : i = j
  ·subst e; rw [if_pos rfl]; exact this
  ·rw [if_neg e]; exact this
 case a3 =>
  intro i i' hi hi'; rw [hlen] at hi hi'; exact h.a3 i i' hi hi'
 case a4 =>
  intro i i' hi hi' hne q h1 h2; rw [hlen] at hi hi'; have far : ∀ i, i < acts.length → i ≠ j → ∀ q, (V4 i).ownBlock = some q → v1.ownBlock = some q → False := fun i hi hij q h1 h2 => by
   rcases hat with e | ⟨b, e, hb⟩
   ·exact h.a4 i j hi hj hij q h1 (e.symm.trans h2)
   ·rw [h2] at e; obtain ⟨cells, hc⟩ := Kd.R_typed (h.r4 i hi) q h1; have := blk_lt hc; have := Option.some.inj e; omega
  unfold upd at h1 h2; by_cases e : i = j
  ·rw [if_pos e] at h1; rw [if_neg (fun e2 => hne (e.trans e2.symm))] at h2; exact far i' hi' (fun e2 => hne (e.trans e2.symm)) q h2 h1
  ·rw [if_neg e] at h1; by_cases e2 : i' = j
   ·rw [if_pos e2] at h2; exact far i hi e q h1 h2
   ·rw [if_neg e2] at h2; exact h.a4 i i' hi hi' hne q h1 h2
 case a5 =>
  intro i i' hi hi'; rw [hlen] at hi hi'; exact h.a5 i i' hi hi'
def upd5 (a : ActX) (ys : List ArtX) : ActX := (a.1, a.2.1, a.2.2.1, a.2.2.2.1, a.2.2.2.2.1, (a.2.2.2.2.2 ++ ys))
theorem Bd.put5 {w0 W w1 : World} {G : Nat} {acts : List ActX} {V3 V4 V5 : Nat → Value} (h : Bd w0 W G acts V3 V4 V5) {j : Nat} (hj : j < acts.length) {ys : List ArtX} {v1 : Value} (ho : Kd.R kArt 133 w1 w0.heap.size T1 v1 ((rdN acts j).2.2.2.2.2 ++ ys)) (hg : W.grownBy w1 (V5 j).ownBlock) (hat : v1.ownBlock = (V5 j).ownBlock ∨ ∃ b, v1.ownBlock = some b ∧ W.heap.size ≤ b) :
  Bd w0 (w1.setCell ⟨G, j * 6 + 5, none⟩ v1) G (acts.set j (upd5 (rdN acts j) ys)) V3 V4 (upd V5 j v1) := by
 obtain ⟨cs, hG0, hA⟩ := h.blk; have hG : w1.heap[G]? = some (.cells cs 87 (0, 0)) := (hg.block G (blk_lt hG0) (Kd.R_ne (h.r5 j hj) hG0 (by decide))).trans hG0; have hlen : (acts.set j (upd5 (rdN acts j) ys)).length = acts.length := List.length_set; refine ⟨h.late, ⟨_, blk_set hG (j * 6 + 5) v1, fun i hi => ?_⟩, ?r3, ?r4, ?r5, ?a3, ?a4, ?a5⟩
 ·rw [hlen] at hi; have a := hA i hi; have b := hA j hj; rw [rdN_set hj]; by_cases e : i = j
  ·subst e; rw [if_pos rfl]; unfold upd; simp only [if_true]; have hsz : i * 6 + 5 < cs.size := (Array.getElem?_eq_some_iff.1 b.c5).1; refine ⟨by rw [Array.getElem?_setIfInBounds_ne (by omega)]; exact a.c0, by rw [Array.getElem?_setIfInBounds_ne (by omega)]; exact a.c1, by rw [Array.getElem?_setIfInBounds_ne (by omega)]; exact a.c2, by rw [Array.getElem?_setIfInBounds_ne (by omega)]; exact a.c3, by rw [Array.getElem?_setIfInBounds_ne (by omega)]; exact a.c4, by rw [Array.getElem?_setIfInBounds_self_of_lt hsz]⟩
  ·rw [if_neg e]; unfold upd; simp only [if_neg e]; refine ⟨by rw [Array.getElem?_setIfInBounds_ne (by omega)]; exact a.c0, by rw [Array.getElem?_setIfInBounds_ne (by omega)]; exact a.c1, by rw [Array.getElem?_setIfInBounds_ne (by omega)]; exact a.c2, by rw [Array.getElem?_setIfInBounds_ne (by omega)]; exact a.c3, by rw [Array.getElem?_setIfInBounds_ne (by omega)]; exact a.c4, by rw [Array.getElem?_setIfInBounds_ne (by omega)]; exact a.c5⟩
 case r3 =>
  intro i hi; rw [hlen] at hi; rw [rdN_set hj]; have := Kd.R_set (Kd.R_over' (h.r3 i hi) (Kd.R_typed (h.r5 j hj)) (by decide) hg) hG (by decide) (j * 6 + 5) v1; by_cases e : i = j
  ·subst e; rw [if_pos rfl]; exact this
  ·rw [if_neg e]; exact this
 case r4 =>
  intro i hi; rw [hlen] at hi; rw [rdN_set hj]; have := Kd.R_set (Kd.R_over' (h.r4 i hi) (Kd.R_typed (h.r5 j hj)) (by decide) hg) hG (by decide) (j * 6 + 5) v1; by_cases e : i = j
  ·subst e; rw [if_pos rfl]; exact this
  ·rw [if_neg e]; exact this
 case r5 =>
  intro i hi; rw [hlen] at hi; rw [rdN_set hj]; by_cases e : i = j
  ·subst e; rw [if_pos rfl]; unfold upd; simp only [if_true]; exact Kd.R_set ho hG (by decide) _ _
  ·rw [if_neg e]; unfold upd; simp only [if_neg e]; refine Kd.R_set (Kd.R_mono (Kd.R_grown (R_okM (ok' := fun k => some k ≠ (V5 j).ownBlock) (MArt _ _) (h.r5 i hi) (fun k hk e2 => h.a5 i j hi hj e k hk e2.symm)) hg (fun _ hk => hk)) (fun _ _ => trivial)) hG (by decide) _ _
 case a3 =>
  intro i i' hi hi'; rw [hlen] at hi hi'; exact h.a3 i i' hi hi'
 case a4 =>
  intro i i' hi hi'; rw [hlen] at hi hi'; exact h.a4 i i' hi hi'
 case a5 =>
  intro i i' hi hi' hne q h1 h2; rw [hlen] at hi hi'; have far : ∀ i, i < acts.length → i ≠ j → ∀ q, (V5 i).ownBlock = some q → v1.ownBlock = some q → False := fun i hi hij q h1 h2 => by
   rcases hat with e | ⟨b, e, hb⟩
   ·exact h.a5 i j hi hj hij q h1 (e.symm.trans h2)
   ·rw [h2] at e; obtain ⟨cells, hc⟩ := Kd.R_typed (h.r5 i hi) q h1; have := blk_lt hc; have := Option.some.inj e; omega
  unfold upd at h1 h2; by_cases e : i = j
  ·rw [if_pos e] at h1; rw [if_neg (fun e2 => hne (e.trans e2.symm))] at h2; exact far i' hi' (fun e2 => hne (e.trans e2.symm)) q h2 h1
  ·rw [if_neg e] at h1; by_cases e2 : i' = j
   ·rw [if_pos e2] at h2; exact far i hi e q h1 h2
   ·rw [if_neg e2] at h2; exact h.a5 i i' hi hi' hne q h1 h2
end Go.Proofs.YtkjneemcledfjaaGreatDoor.PBookCases
