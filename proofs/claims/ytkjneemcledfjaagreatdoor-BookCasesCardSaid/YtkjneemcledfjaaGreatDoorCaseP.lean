import Derived.Test.YtkjneemcledfjaaGreatDoorCaseO
namespace Go.Proofs.YtkjneemcledfjaaGreatDoor.PBookCases
open Go.RowKit Go.Proofs.YtkjneemcledfjaaGreatDoorW.PrintWords Go.Proofs.YtkjneemcledfjaaGreatDoorW.PrintLast Go.Proofs.YtkjneemcledfjaaGreatDoorW.PrintMore
set_option linter.unusedVariables false
set_option linter.unusedSimpArgs false
set_option maxHeartbeats 8000000
set_option maxRecDepth 100000
abbrev Act0 := ByteArray × Int × Int × (Option Addr × Nat × Nat) × (Option Addr × Nat × Nat) × (Option Addr × Nat × Nat)
def kA0 : Kd Act0 := Kd.pair Kd.string (Kd.pair (Kd.int .i64) (Kd.pair (Kd.int .i64) (Kd.pair kSl (Kd.pair kSl kSl))))
def up0 (x : Act0) : ActX := (x.1, x.2.1, x.2.2.1, [], [], [])
def NoRows (xs : List Act0) : Prop := ∀ x ∈ xs, x.2.2.2 = ((none, 0, 0), (none, 0, 0), (none, 0, 0))
theorem Bd.start {w0 w : World} {v : Value} {xs : List Act0} (h : Kd.R kA0 87 w w0.heap.size T1 v xs) (hn : NoRows xs) (h1 : 1 ≤ xs.length) : ∃ G c, v = .slice (some ⟨G, 0, none⟩) xs.length c ∧ Bd w0 w G (xs.map up0) (fun _ => .slice none 0 0) (fun _ => .slice none 0 0) (fun _ => .slice none 0 0) := by
 obtain ⟨_, inner, hown, hreps⟩ := h; rcases hown.2 with ⟨_, hn0⟩ | ⟨g, cap, cur, rfl, hbase, hb, k1, k2, k3, k4⟩
 ·omega
 have k4' : cur.toList.take (xs.length * 6) = inner := k4; refine ⟨g, cap, rfl, hbase, ⟨cur, hb, fun j hj => ?_⟩, fun j hj => ?_, fun j hj => ?_, fun j hj => ?_, fun i j _ _ _ q hq => by simp [Value.ownBlock] at hq, fun i j _ _ _ q hq => by simp [Value.ownBlock] at hq, fun i j _ _ _ q hq => by simp [Value.ownBlock] at hq⟩
 ·rw [List.length_map] at hj; have hm := hreps.2 j xs[j] (List.getElem?_eq_getElem hj); have hx := hn xs[j] (List.getElem_mem hj); have hr : rdN (xs.map up0) j = up0 xs[j] := by unfold rdN; simp [List.getD, hj]
  rw [hr]; generalize xs[j] = p at hm hx; obtain ⟨nm, lv, dt, s3, s4, s5⟩ := p; obtain ⟨rfl, rfl, rfl⟩ : s3 = (none, 0, 0) ∧ s4 = (none, 0, 0) ∧ s5 = (none, 0, 0) := by simpa using hx
  have hcells : ((inner.drop (j * 6)).take 6) = [.string nm, .int .i64 lv, .int .i64 dt, .slice none 0 0, .slice none 0 0, .slice none 0 0] := by
   obtain ⟨_, _, e, rfl, ⟨_, _, rfl, rfl, ⟨_, _, rfl, rfl, ⟨_, _, rfl, t3, ⟨_, _, rfl, t4, t5⟩⟩⟩⟩⟩ := hm; change _ = [Value.slice none 0 0] at t3; change _ = [Value.slice none 0 0] at t4; change _ = [Value.slice none 0 0] at t5; subst t3 t4 t5; exact e
  have hc : ∀ k, k < 6 → cur[j * 6 + k]? = ([.string nm, .int .i64 lv, .int .i64 dt, .slice none 0 0, .slice none 0 0, .slice none 0 0] : List Value)[k]? := fun k hk => by
   rw [← hcells, List.getElem?_take_of_lt hk, List.getElem?_drop, ← k4', List.getElem?_take_of_lt (by omega), Array.getElem?_toList]
  exact ⟨hc 0 (by omega), hc 1 (by omega), hc 2 (by omega), hc 3 (by omega), hc 4 (by omega), hc 5 (by omega)⟩
 all_goals
  rw [List.length_map] at hj; have hr : rdN (xs.map up0) j = up0 xs[j] := by unfold rdN; simp [List.getD, hj]
  rw [hr]; exact Kd.R_nil _ _ _ _ _
def InOk (x : S95) : Prop := (∃ i : Int, 0 ≤ i ∧ i < 5 ∧ x.f0 = ⟨#[105, 110, 45]⟩ ++ Utf8.encode (97 + i)) ∧ 1 ≤ x.f1 ∧ x.f1 ≤ 6
def atts (acts : List ActX) : List S95 := acts.flatMap (·.2.2.2.1)
def tabs (acts : List ActX) : List TabX := acts.flatMap (·.2.2.2.2.1)
def arts (acts : List ActX) : List ArtX := acts.flatMap (·.2.2.2.2.2)
structure AOk (acts : List ActX) (n a t r : Nat) : Prop where
 num : acts.length = n
 att : (atts acts).length ≤ a
 tab : (tabs acts).length ≤ t
 art : (arts acts).length ≤ r
 inp : ∀ x ∈ atts acts, x.f2 = true → InOk x
theorem flat_set {α : Type} (f : ActX → List α) : ∀ (xs : List ActX) (j : Nat) (a : ActX) (ys : List α), j < xs.length → f a = f (rdN xs j) ++ ys → ((xs.set j a).flatMap f).length = (xs.flatMap f).length + ys.length ∧ ∀ x, x ∈ (xs.set j a).flatMap f ↔ x ∈ xs.flatMap f ∨ x ∈ ys
 | [], j, a, ys, h, _ => by simp at h
 | y :: xs, 0, a, ys, h, he => by
  have he' : f a = f y ++ ys := he
  simp only [List.set_cons_zero, List.flatMap_cons, List.length_append, List.mem_append, he']
  exact ⟨by omega, fun x => or_right_comm⟩
 | y :: xs, j + 1, a, ys, h, he => by
  have he' : f a = f (rdN xs j) ++ ys := by simpa [rdN] using he
  obtain ⟨h1, h2⟩ := flat_set f xs j a ys (by simpa using h) he'
  simp only [List.set_cons_succ, List.flatMap_cons, List.length_append, List.mem_append, h1, h2]
  exact ⟨by omega, fun x => by rw [or_assoc]⟩
theorem flat_same {α : Type} (f : ActX → List α) (xs : List ActX) (j : Nat) (a : ActX) (hj : j < xs.length) (he : f a = f (rdN xs j)) : ((xs.set j a).flatMap f).length = (xs.flatMap f).length ∧ ∀ x, x ∈ (xs.set j a).flatMap f ↔ x ∈ xs.flatMap f := by
 obtain ⟨h1, h2⟩ := flat_set f xs j a [] hj (by rw [he, List.append_nil]); exact ⟨h1, fun x => by rw [h2]; simp⟩
theorem AOk.start (xs : List Act0) : AOk (xs.map up0) xs.length 0 0 0 := by
 have h : ∀ {α : Type} (f : ActX → List α), (∀ x, f (up0 x) = []) → (xs.map up0).flatMap f = [] := fun f hf => by
  rw [List.flatMap_eq_nil_iff]; intro y hy; obtain ⟨x, _, rfl⟩ := List.mem_map.1 hy; exact hf x
 exact ⟨List.length_map _, by unfold atts; rw [h _ (fun _ => rfl)]; simp, by unfold tabs; rw [h _ (fun _ => rfl)]; simp, by unfold arts; rw [h _ (fun _ => rfl)]; simp, by unfold atts; rw [h _ (fun _ => rfl)]; simp⟩
theorem AOk.put3 {acts : List ActX} {n a t r j : Nat} (h : AOk acts n a t r) (hj : j < acts.length) (ys : List S95) (hy : ∀ x ∈ ys, x.f2 = true → InOk x) : AOk (acts.set j (upd3 (rdN acts j) ys)) n (a + ys.length) t r ∧ ∀ x, x ∈ atts (acts.set j (upd3 (rdN acts j) ys)) ↔ x ∈ atts acts ∨ x ∈ ys := by
 obtain ⟨h1, h2⟩ := flat_set (·.2.2.2.1) acts j (upd3 (rdN acts j) ys) ys hj rfl; obtain ⟨h3, _⟩ := flat_same (·.2.2.2.2.1) acts j (upd3 (rdN acts j) ys) hj rfl; obtain ⟨h4, _⟩ := flat_same (·.2.2.2.2.2) acts j (upd3 (rdN acts j) ys) hj rfl; refine ⟨⟨by rw [List.length_set]; exact h.num, ?_, ?_, ?_, fun x hx hf => ?_⟩, h2⟩
 ·have := h.att; unfold atts at *; omega
 ·have := h.tab; unfold tabs at *; omega
 ·have := h.art; unfold arts at *; omega
 ·rcases (h2 x).1 hx with hx | hx
  ·exact h.inp x hx hf
  ·exact hy x hx hf
theorem AOk.put4 {acts : List ActX} {n a t r j : Nat} (h : AOk acts n a t r) (hj : j < acts.length) (ys : List TabX) : AOk (acts.set j (upd4 (rdN acts j) ys)) n a (t + ys.length) r ∧ ∀ x, x ∈ atts (acts.set j (upd4 (rdN acts j) ys)) ↔ x ∈ atts acts := by
 obtain ⟨h1, h2⟩ := flat_same (·.2.2.2.1) acts j (upd4 (rdN acts j) ys) hj rfl; obtain ⟨h3, _⟩ := flat_set (·.2.2.2.2.1) acts j (upd4 (rdN acts j) ys) ys hj rfl; obtain ⟨h4, _⟩ := flat_same (·.2.2.2.2.2) acts j (upd4 (rdN acts j) ys) hj rfl; refine ⟨⟨by rw [List.length_set]; exact h.num, ?_, ?_, ?_, fun x hx hf => h.inp x ((h2 x).1 hx) hf⟩, h2⟩
 ·have := h.att; unfold atts at *; omega
 ·have := h.tab; unfold tabs at *; omega
 ·have := h.art; unfold arts at *; omega
theorem AOk.put5 {acts : List ActX} {n a t r j : Nat} (h : AOk acts n a t r) (hj : j < acts.length) (ys : List ArtX) : AOk (acts.set j (upd5 (rdN acts j) ys)) n a t (r + ys.length) ∧ ∀ x, x ∈ atts (acts.set j (upd5 (rdN acts j) ys)) ↔ x ∈ atts acts := by
 obtain ⟨h1, h2⟩ := flat_same (·.2.2.2.1) acts j (upd5 (rdN acts j) ys) hj rfl; obtain ⟨h3, _⟩ := flat_same (·.2.2.2.2.1) acts j (upd5 (rdN acts j) ys) hj rfl; obtain ⟨h4, _⟩ := flat_set (·.2.2.2.2.2) acts j (upd5 (rdN acts j) ys) ys hj rfl; refine ⟨⟨by rw [List.length_set]; exact h.num, ?_, ?_, ?_, fun x hx hf => h.inp x ((h2 x).1 hx) hf⟩, h2⟩
 ·have := h.att; unfold atts at *; omega
 ·have := h.tab; unfold tabs at *; omega
 ·have := h.art; unfold arts at *; omega
end Go.Proofs.YtkjneemcledfjaaGreatDoor.PBookCases
