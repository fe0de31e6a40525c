import Derived.Test.YtkjneemcledfjaaGreatDoorCaseI
namespace Go.Proofs.YtkjneemcledfjaaGreatDoor.PBookCases
open Go.RowKit Go.Proofs.YtkjneemcledfjaaGreatDoorW.PrintWords Go.Proofs.YtkjneemcledfjaaGreatDoorW.PrintLast Go.Proofs.YtkjneemcledfjaaGreatDoorW.PrintMore
set_option linter.unusedVariables false
set_option linter.unusedSimpArgs false
set_option maxHeartbeats 8000000
set_option maxRecDepth 100000
theorem Mk.alloc {w0 w : World} {M S : Nat} (h : Mk w0 w M S) (o : Obj) : Mk w0 (w.alloc o) M S := by
 have hb : Below w.heap.size w (w.alloc o) := below_alloc (Below.refl _ _) o; have hk : ∀ {i : Nat} {cs : Array Value} {t : TypeId} {fz : Nat × Nat}, w.heap[i]? = some (.cells cs t fz) → (w.alloc o).heap[i]? = some (.cells cs t fz) := fun {i} {cs} {t} {fz} he => (hb.block i (blk_lt he)).trans he; obtain ⟨l, A, c, hs, hg, hr0⟩ := h.st; exact h.of_blk (fun cs hc => hk hc) (fun _ hR => Kd.R_alloc hR o) ⟨l, A, c, hk hs, hg, hr0⟩
theorem expr_env {w0 w : World} {M S : Nat} (h : Mk w0 w M S) (hb : Below w0.heap.size w0 w) : Env w0 (w.alloc (.cells #[.slice none 0 0] 131)) M S w.heap.size 0 :=
 ⟨h.alloc _, ⟨hb.size, _, [], blk_new w _, Kd.R_nil _ _ _ _ _, rfl⟩, below_alloc hb _⟩
theorem add3 {w0 w : World} {M S : Nat} (h : Mk w0 w M S) (hb : Below w0.heap.size w0 w) (kind : Int) :
  Calls Tryz.prog 82 #[.pointer (some ⟨M, 0, none⟩), .pointer (some ⟨w.heap.size, 0, none⟩), .int .i64 kind, .int .i64 3] (w.alloc (.cells #[.slice none 0 0] 131)) fun e w' => ∃ r A n c, e = .returned (.int .i64 r) ∧ w'.cell? ⟨w.heap.size, 0, none⟩ = some (.slice A n c) ∧ Mk w0 w' M S ∧ Below w0.heap.size w0 w' ∧ KeepBut w w' S none := by
 have he := expr_env h hb; refine Calls.mono (add_ok 3 (Nat.le_refl _) _ 0 kind he (by omega)) ?_; rintro e w' ⟨r, n', rfl, _, he', hf⟩; obtain ⟨v, xs, hx, hr, _⟩ := he'.ex.ex; obtain ⟨A, c, rfl⟩ := Kd.R_slice hr; have hr0 : rowE (w.alloc (.cells #[.slice none 0 0] 131)) w.heap.size = none := rowE_of (blk_new w _); refine ⟨r, A, _, c, rfl, blk_cell hx 0, he'.mkr, he'.below, Nat.le_trans (below_alloc (Below.refl w.heap.size w) _).size hf.size, fun i hi h1 _ => ?_⟩; refine (hf.keep i (Nat.lt_of_lt_of_le hi (below_alloc (Below.refl w.heap.size w) _).size) h1 (by omega) (by rw [hr0]; simp)).trans ((below_alloc (Below.refl w.heap.size w) _).block i hi)
theorem expr_ok {w0 w : World} {M S : Nat} (h : Mk w0 w M S) (hb : Below w0.heap.size w0 w) (kind : Int) :
  Calls Tryz.prog 55 #[.pointer (some ⟨M, 0, none⟩), .int .i64 kind] w fun e w' => ∃ A n c, e = .returned (.slice A n c) ∧ Mk w0 w' M S ∧ Below w0.heap.size w0 w' ∧ KeepBut w w' S none := by
 have HM := Aside0.mk h; have HB := Aside0.mk hb; clear h hb; go_enter Tryz.func55, Tryz.ntmps55; go_wp2_with (go_at_call 82; (with_reducible refine (add3 HM.out HB.out kind).mono ?_); rintro e w9 ⟨r9, A9, n9, c9, rfl, hc9, hm9, hb9, hk9⟩); go_ret; exact ⟨_, _, _, rfl, hm9, hb9, hk9⟩
end Go.Proofs.YtkjneemcledfjaaGreatDoor.PBookCases
