/-
A table and a rounding, applied to a whole course of incomes, give on each day what they give for the income of that day, whatever numbers come in.
-/
import Derived.Test.YthedaldmhjocdaaPTableCoursesx12
set_option linter.unusedVariables false
set_option linter.unusedSimpArgs false
namespace Go.Proofs.Ythedaldmhjocdaa.Pure
open Go.RowKit Go.Proofs.Ythedaldmhjocdaa.PTableCourses Go.Proofs.YthedaldmhjocdaaW.PrintWords Go.Proofs.YthedaldmhjocdaaW.PrintLast
/-- numbers that need no wrap -/
theorem w64 {x : Int} (h1 : -9223372036854775808 ≤ x) (h2 : x ≤ 9223372036854775807) : wrap64 x = x := by unfold wrap64; omega
theorem tdivnn {a b : Int} (h : 0 ≤ a) : Int.tdiv a b = a / b := Int.tdiv_eq_ediv_of_nonneg h
theorem tmodnn {a b : Int} (h : 0 ≤ a) : Int.tmod a b = a % b := Int.tmod_eq_emod_of_nonneg h
theorem Ev.ifp {α : Type} {c : Prop} [Decidable c] {a b : Nat → Option α} {r : α} (h : c) (k : Ev a r) : Ev (fun n => if c then a n else b n) r := Ev.congr (fun n => by rw [if_pos h]) k
theorem Ev.ifn {α : Type} {c : Prop} [Decidable c] {a b : Nat → Option α} {r : α} (h : ¬ c) (k : Ev b r) : Ev (fun n => if c then a n else b n) r := Ev.congr (fun n => by rw [if_neg h]) k
theorem Ev.to {α : Type} {a b : α} (h : a = b) : Ev (fun _ => some a) b := h ▸ Ev.now a
theorem below_of (x n : Int) (h0 : 0 < n) (h1 : n ≤ 4611686018427387904) : mootmake_Below.f x n = some (x % n) := by
  have hr := Int.emod_nonneg x (show n ≠ 0 by omega)
  have hl := Int.emod_lt_of_pos x h0
  unfold mootmake_Below.f
  rw [if_neg (by omega), Int.tmod_eq_emod]
  by_cases h : 0 ≤ x ∨ n ∣ x
  · rw [if_pos h, show x % n - ((0 : Nat) : Int) = x % n from by omega, if_neg (by omega)]
  · have h3 : x % n ≠ 0 := fun e => h (.inr (Int.dvd_of_emod_eq_zero e))
    rw [if_neg h, if_pos (by omega), w64 (by omega) (by omega)]
    congr 1; omega
theorem below_range (x n : Int) (h0 : 0 < n) : 0 ≤ x % n ∧ x % n < n := ⟨Int.emod_nonneg x (by omega), Int.emod_lt_of_pos x h0⟩
theorem drop_rd (l : List Int) (i : Nat) (h : i < l.length) : l.drop i = rd l (i : Int) :: l.drop (i + 1) := by
  rw [List.drop_eq_getElem_cons h]
  unfold rd
  simp [List.getD, h]
theorem w64_succ {i n : Nat} (h : i < n) (hn : n ≤ 9223372036854775807) : wrap64 ((i : Int) + 1) = ((i + 1 : Nat) : Int) := by
  rw [w64 (by omega) (by omega)]; omega
theorem next_of (l : List Int) (n : Int) (h0 : 0 < n) (h1 : n ≤ 4611686018427387904) : ∃ v l', mootmake_Stream_Next.f l n = some (v, l') ∧ 0 ≤ v ∧ v < n := by
  unfold mootmake_Stream_Next.f
  rw [if_neg (by omega)]
  by_cases h : l = []
  · rw [if_pos h]; exact ⟨0, l, rfl, by omega, h0⟩
  · rw [if_neg h, below_of _ _ h0 h1]
    have := below_range (rd l 0) n h0
    exact ⟨_, _, rfl, this.1, this.2⟩
/-- a span of a number of things, within all dates -/
def okv (kd n : Int) : Prop := kd ≠ 0 ∧ unit_Check.f kd n = some 0
def okspan (s : S52) : Prop := 0 ≤ s.f0 ∧ s.f0 < s.f1 ∧ s.f1 ≤ 1048576 ∧ okv s.f2.f0 s.f2.f1
def follows (p s : S52) : Prop := p.f1 ≤ s.f0 ∧ ¬ (s.f0 = p.f1 ∧ s.f2.f0 = p.f2.f0 ∧ s.f2.f1 = p.f2.f1)
inductive Valid : List S52 → Prop
  | nil : Valid []
  | one (s : S52) : okspan s → Valid [s]
  | snoc (l : List S52) (p s : S52) : Valid (l ++ [p]) → okspan s → follows p s → Valid (l ++ [p] ++ [s])
theorem getD_app (l : List S52) (s : S52) (i : Nat) (z : S52) : (l ++ [s]).getD i z = if i < l.length then l.getD i z else if i = l.length then s else z := by
  simp only [List.getD_eq_getElem?_getD, List.getElem?_append]
  split
  · rfl
  · split
    · rename_i h; subst h; simp
    · rename_i h h'
      rw [List.getElem?_eq_none (by simp; omega)]; rfl
theorem Valid.index {l : List S52} (h : Valid l) : ∀ i, i < l.length → okspan (l.getD i z52) ∧ (0 < i → follows (l.getD (i - 1) z52) (l.getD i z52)) := by
  induction h with
  | nil => intro i hi; simp at hi
  | one s hs => intro i hi; obtain rfl : i = 0 := by simp at hi; omega
                exact ⟨hs, fun h => by omega⟩
  | snoc l p s _ hs hf ih =>
    intro i hi
    by_cases hlt : i < (l ++ [p]).length
    · rw [getD_app (l ++ [p]) s i, getD_app (l ++ [p]) s (i - 1), if_pos hlt, if_pos (by omega)]
      exact ih i hlt
    · have e : i = (l ++ [p]).length := by rw [List.length_append] at hi; simp at hi hlt ⊢; omega
      rw [getD_app (l ++ [p]) s i, getD_app (l ++ [p]) s (i - 1), if_neg hlt, if_pos e]
      refine ⟨hs, fun hp => ?_⟩
      rw [if_pos (by omega), getD_app l p, if_neg (by simp at e; omega), if_pos (by simp at e; omega)]
      exact hf
theorem Valid.indexR {l : List S52} (h : Valid l) (i : Nat) (hi : i < l.length) : okspan (rd_T52 l (i : Int)) ∧ (0 < i → follows (rd_T52 l ((i - 1 : Nat) : Int)) (rd_T52 l (i : Int))) := h.index i hi
theorem ucheck_of (n : Int) (h1 : -1048576 ≤ n) (h2 : n ≤ 1048576) : unit_Check.f 5 n = some 0 := by
  unfold unit_Check.f unit_Range.f unit_known.f
  rw [if_neg (by decide), if_neg (by decide), if_neg (by decide), if_neg (by decide), if_pos rfl, if_pos (by decide)]
  simp only [Option.bind_some]
  rw [if_pos (by decide), if_neg (by omega), if_neg (by omega)]
theorem okv5 {n : Int} (h1 : -1048576 ≤ n) (h2 : n ≤ 1048576) : okv 5 n := ⟨by omega, ucheck_of n h1 h2⟩
theorem check_l0 (c : List S52) (hc : Valid c) (hl : c.length ≤ 1000) (n : Nat) : ∀ i : Nat, i ≤ c.length → c.length - i = n → Ev (fun k => course_Check.l0 k c c (c.length : Int) (i : Int)) 0 := by
  induction n with
  | zero =>
    intro i hi hn
    obtain rfl : i = c.length := by omega
    refine Ev.step (f := fun _ => some 0) (fun k => ?_) (Ev.now _)
    simp only [course_Check.l0]
    rw [if_neg (by omega)]
  | succ n ih =>
    intro i hi hn
    have hlt : i < c.length := by omega
    obtain ⟨⟨o1, o2, o3, o4, o5⟩, hf⟩ := hc.indexR i hlt
    have ih' := ih (i + 1) (by omega) (by omega)
    refine Ev.step (f := fun k => course_Check.j1 k c (i : Int) 0 c (c.length : Int) (i : Int) false (rd_T52 c (i : Int)).f0 (rd_T52 c (i : Int)).f1 (rd_T52 c (i : Int)).f2.f0 (rd_T52 c (i : Int)).f2.f1) (fun k => ?_) ?_
    · simp only [course_Check.l0]
      rw [if_pos (by omega), if_pos (by omega), if_pos (by omega), o5]
      simp only [Option.bind_some]
      rw [if_neg (by omega), if_neg (by omega), decide_eq_false (by omega)]
    refine Ev.step (f := fun k => course_Check.j2 k c (i : Int) c (c.length : Int) (i : Int) false (rd_T52 c (i : Int)).f0 (rd_T52 c (i : Int)).f1 (rd_T52 c (i : Int)).f2.f0 (rd_T52 c (i : Int)).f2.f1) (fun k => ?_) ?_
    · simp only [course_Check.j1]
      rw [if_neg (by decide), if_pos (by trivial), if_neg (by omega)]
      by_cases hi0 : 0 < i
      · have hfo := (hf hi0).1
        rw [if_pos (by omega), w64 (x := (i : Int) - 1) (by omega) (by omega), if_pos (by omega), if_pos (by omega), show (i : Int) - 1 = ((i - 1 : Nat) : Int) from by omega, decide_eq_false (by omega)]
      · rw [if_neg (by omega)]
    refine Ev.step (fun k => ?_) ih'
    simp only [course_Check.j2]
    rw [if_neg (by decide), w64_succ hlt (by omega)]
    by_cases hi0 : 0 < i
    · have hfo := hf hi0
      rw [if_pos (by omega), w64 (x := (i : Int) - 1) (by omega) (by omega), if_pos (by omega), if_pos (by omega), show (i : Int) - 1 = ((i - 1 : Nat) : Int) from by omega]
      by_cases he : (rd_T52 c (i : Int)).f0 = (rd_T52 c ((i - 1 : Nat) : Int)).f1
      · rw [if_pos he, if_neg]
        intro hh
        rw [Bool.and_eq_true, beq_iff_eq, beq_iff_eq] at hh
        exact hfo.2 ⟨he, hh.1, hh.2⟩
      · rw [if_neg he]
    · rw [if_neg (by omega)]
theorem check_of {c : List S52} (hc : Valid c) (hl : c.length ≤ 1000) : Ev (fun k => course_Check.f k c) 0 := by
  simp only [course_Check.f]
  exact Ev.ifn (by omega) (check_l0 c hc hl _ 0 (by omega) rfl)
/-- what a course has on a day -/
def atv : List S52 → Int → Int × Int
  | [], _ => (0, 0)
  | s :: l, d => if s.f0 ≤ d ∧ d < s.f1 then (s.f2.f0, s.f2.f1) else atv l d
theorem drop_span (l : List S52) (i : Nat) (h : i < l.length) : l.drop i = rd_T52 l (i : Int) :: l.drop (i + 1) := by
  rw [List.drop_eq_getElem_cons h]
  unfold rd_T52
  simp [List.getD, h]
theorem at_l0 (c : List S52) (d : Int) (hl : c.length ≤ 4398046511104) (n : Nat) : ∀ i : Nat, i ≤ c.length → c.length - i = n → Ev (fun k => course_At.l0 k d c (c.length : Int) (i : Int)) (atv (c.drop i) d) := by
  induction n with
  | zero =>
    intro i hi hn
    obtain rfl : i = c.length := by omega
    rw [List.drop_length]
    refine Ev.step (f := fun _ => some (0, 0)) (fun k => ?_) (Ev.now _)
    simp only [course_At.l0]
    rw [if_neg (by omega)]
  | succ n ih =>
    intro i hi hn
    have hlt : i < c.length := by omega
    rw [drop_span c i hlt]
    simp only [atv]
    by_cases h1 : (rd_T52 c (i : Int)).f0 ≤ d
    · by_cases h2 : d < (rd_T52 c (i : Int)).f1
      · rw [if_pos ⟨h1, h2⟩]
        refine Ev.step (f := fun _ => some _) (fun k => ?_) (Ev.now _)
        simp only [course_At.l0]
        rw [if_pos (by omega), if_pos (by omega), if_pos (by omega), if_pos h1, if_pos h2]
      · rw [if_neg (fun h => h2 h.2)]
        refine Ev.step (fun k => ?_) (ih (i + 1) (by omega) (by omega))
        simp only [course_At.l0]
        rw [if_pos (by omega), if_pos (by omega), if_pos (by omega), if_pos h1, if_neg h2, w64_succ hlt (by omega)]
    · rw [if_neg (fun h => h1 h.1)]
      refine Ev.step (fun k => ?_) (ih (i + 1) (by omega) (by omega))
      simp only [course_At.l0]
      rw [if_pos (by omega), if_pos (by omega), if_pos (by omega), if_neg h1, w64_succ hlt (by omega)]
theorem at_of (c : List S52) (d : Int) (hl : c.length ≤ 4398046511104) : Ev (fun k => course_At.f k c d) (atv c d) := by
  simp only [course_At.f]
  exact at_l0 c d hl _ 0 (by omega) rfl
def has (s : S52) (d : Int) : Prop := s.f0 ≤ d ∧ d < s.f1
instance (s : S52) (d : Int) : Decidable (has s d) := by unfold has; infer_instance
theorem atv_none (l : List S52) (d : Int) (h : ∀ t ∈ l, ¬ has t d) : atv l d = (0, 0) := by
  induction l with
  | nil => rfl
  | cons s l ih =>
    simp only [atv]
    rw [if_neg (show ¬ (s.f0 ≤ d ∧ d < s.f1) from h s (by simp))]
    exact ih fun t ht => h t (by simp [ht])
theorem atv_snoc (l : List S52) (s : S52) (d : Int) : atv (l ++ [s]) d = if ∃ t ∈ l, has t d then atv l d else if has s d then (s.f2.f0, s.f2.f1) else (0, 0) := by
  induction l with
  | nil => simp [atv, has]
  | cons a l ih =>
    simp only [List.cons_append, atv]
    by_cases h : a.f0 ≤ d ∧ d < a.f1
    · rw [if_pos h, if_pos ⟨a, by simp, h⟩, if_pos h]
    · rw [if_neg h, ih, if_neg h]
      by_cases h2 : ∃ t ∈ l, has t d
      · obtain ⟨t, ht, hd⟩ := h2
        rw [if_pos ⟨t, ht, hd⟩, if_pos ⟨t, by simp [ht], hd⟩]
      · have h3 : ¬ ∃ t ∈ a :: l, has t d := by
          rintro ⟨t, ht, hd⟩
          rcases List.mem_cons.1 ht with rfl | ht
          · exact h hd
          · exact h2 ⟨t, ht, hd⟩
        rw [if_neg h2, if_neg h3]
theorem Valid.ok {l : List S52} (h : Valid l) : ∀ t ∈ l, okspan t := by
  induction h with
  | nil => intro t ht; simp at ht
  | one s hs => intro t ht; rw [List.mem_singleton.1 ht]; exact hs
  | snoc l p s _ hs _ ih =>
    intro t ht
    rcases List.mem_append.1 ht with ht | ht
    · exact ih t ht
    · rw [List.mem_singleton.1 ht]; exact hs
/-- no span of a course ends behind its last one -/
theorem Valid.hi {l : List S52} (h : Valid l) : ∀ p, l.getLast? = some p → ∀ t ∈ l, t.f1 ≤ p.f1 := by
  induction h with
  | nil => intro p hp; simp at hp
  | one s hs => intro p hp t ht; simp at hp; rw [List.mem_singleton.1 ht, hp]; omega
  | snoc l q s _ hs hf ih =>
    intro p hp t ht
    rw [List.getLast?_append] at hp
    simp at hp
    subst hp
    rcases List.mem_append.1 ht with ht | ht
    · have := ih q (by simp) t ht
      have := hf.1; have := hs.2.1
      omega
    · rw [List.mem_singleton.1 ht]; omega
theorem mn_min (a b : Int) : mn a b = min a b := by unfold mn; split <;> omega
theorem mx_max (a b : Int) : mx a b = max a b := by unfold mx; split <;> omega
theorem Valid.mk {l : List S52} {s : S52} (h : Valid l) (hs : okspan s) (hf : ∀ q, l.getLast? = some q → follows q s) : Valid (l ++ [s]) := by
  rcases List.eq_nil_or_concat l with rfl | ⟨l', p, rfl⟩
  · exact Valid.one s hs
  · simp only [List.concat_eq_append] at h hf ⊢
    exact Valid.snoc l' p s h hs (hf p (by simp))
theorem Valid.inv {l : List S52} {p : S52} (h : Valid (l ++ [p])) : Valid l ∧ okspan p ∧ ∀ q, l.getLast? = some q → follows q p := by
  generalize e : l ++ [p] = m at h
  cases h with
  | nil => simp at e
  | one s hs =>
    obtain ⟨rfl, rfl⟩ : l = [] ∧ p = s := by
      cases l with
      | nil => exact ⟨rfl, by simpa using e⟩
      | cons a l => simp at e
    exact ⟨Valid.nil, hs, fun q hq => by simp at hq⟩
  | snoc l2 p2 s2 hv hs hf =>
    obtain ⟨e1, e2⟩ := List.append_inj' e rfl
    obtain rfl : p = s2 := by simpa using e2
    subst e1
    refine ⟨hv, hs, fun q hq => ?_⟩
    obtain rfl : p2 = q := by simpa using hq
    exact hf
def Upto (l : List S52) (m : Int) : Prop := ∀ t ∈ l, t.f1 ≤ m
theorem Upto.mono {l : List S52} {m m' : Int} (h : Upto l m) (hm : m ≤ m') : Upto l m' := fun t ht => Int.le_trans (h t ht) hm
theorem grow_of (l : List S52) (f t kd n : Int) (hv : Valid l) (hl : l.length ≤ 2000) (hc : f ≥ t ∨ kd = 0 ∨ (okspan ⟨f, t, ⟨kd, n⟩⟩ ∧ Upto l f)) :
    ∃ r, Ev (fun k => course_grow.f k l f t kd n) r ∧ Valid r ∧ r.length ≤ l.length + 1 ∧ (∀ d, atv r d = if f ≤ d ∧ d < t ∧ kd ≠ 0 then (kd, n) else atv l d) ∧ ∀ m, Upto l m → (f < t → t ≤ m) → Upto r m := by
  simp only [course_grow.f]
  rw [w64 (x := (l.length : Int) - 1) (by omega) (by omega)]
  by_cases h1 : f ≥ t
  · refine ⟨l, Ev.ifp h1 (Ev.step (f := fun _ => some l) (fun k => ?_) (Ev.now _)), hv, by omega, fun d => ?_, fun m h _ => h⟩
    · simp only [course_grow.j0]; rfl
    · rw [if_neg (by omega)]
  by_cases h2 : kd = 0
  · refine ⟨l, Ev.ifn h1 (Ev.step (f := fun _ => some l) (fun k => ?_) (Ev.now _)), hv, by omega, fun d => ?_, fun m h _ => h⟩
    · simp only [course_grow.j0]; rw [if_pos (by simp [h2])]
    · rw [if_neg (fun h => h.2.2 h2)]
  obtain ⟨hok, hup⟩ : okspan ⟨f, t, ⟨kd, n⟩⟩ ∧ Upto l f := by
    rcases hc with h | h | h
    · exact absurd h h1
    · exact absurd h h2
    · exact h
  have o2 : f < t := hok.2.1
  -- a span more
  have happ : ∀ (d : Int), atv (l ++ [(⟨f, t, (⟨kd, n⟩ : S50)⟩ : S52)]) d = if f ≤ d ∧ d < t ∧ kd ≠ 0 then (kd, n) else atv l d := by
    intro d
    rw [atv_snoc]
    by_cases h : ∃ t ∈ l, has t d
    · obtain ⟨u, hu, hd⟩ := h
      have := hup u hu; have := hd.2
      rw [if_pos ⟨u, hu, hd⟩, if_neg (by omega)]
    · rw [if_neg h, atv_none l d (fun u hu hd => h ⟨u, hu, hd⟩)]
      by_cases hd : f ≤ d ∧ d < t
      · rw [if_pos (show has (⟨f, t, (⟨kd, n⟩ : S50)⟩ : S52) d from hd), if_pos ⟨hd.1, hd.2, h2⟩]
      · rw [if_neg (show ¬ has (⟨f, t, (⟨kd, n⟩ : S50)⟩ : S52) d from hd), if_neg (fun h => hd ⟨h.1, h.2.1⟩)]
  have happu : ∀ m, Upto l m → (f < t → t ≤ m) → Upto (l ++ [(⟨f, t, (⟨kd, n⟩ : S50)⟩ : S52)]) m := by
    intro m hm ht u hu
    rcases List.mem_append.1 hu with hu | hu
    · exact hm u hu
    · rw [List.mem_singleton.1 hu]; exact ht o2
  rcases List.eq_nil_or_concat l with rfl | ⟨l', p, rfl⟩
  · refine ⟨_, Ev.ifn h1 (Ev.step (f := fun _ => some ([] ++ [(⟨f, t, (⟨kd, n⟩ : S50)⟩ : S52)])) (fun k => ?_) (Ev.now _)), Valid.one _ hok, by simp, happ, happu⟩
    simp only [course_grow.j0]
    rw [if_neg (by simp [h2]), if_neg (by decide), if_pos (by decide)]
  · simp only [List.concat_eq_append] at *
    have hinv := hv.inv
    have hrd : rd_T52 (l' ++ [p]) (((l' ++ [p]).length : Int) - 1) = p := by
      have e : ((l' ++ [p]).length : Int) - 1 = ((l'.length : Nat) : Int) := by simp
      rw [e]
      show (l' ++ [p]).getD l'.length z52 = p
      rw [getD_app, if_neg (by omega), if_pos rfl]
    have hlen : (0 : Int) ≤ ((l' ++ [p]).length : Int) - 1 := by simp
    have hlt : ((l' ++ [p]).length : Int) - 1 < ((l' ++ [p]).length : Int) := by omega
    by_cases he : p.f1 = f ∧ p.f2.f0 = kd ∧ p.f2.f1 = n
    · obtain ⟨e1, e2, e3⟩ := he
      have hpo := hinv.2.1
      have hok' : okspan (⟨p.f0, t, (⟨p.f2.f0, p.f2.f1⟩ : S50)⟩ : S52) := ⟨hpo.1, by have := hpo.2.1; show p.f0 < t; omega, hok.2.2.1, hpo.2.2.2⟩
      have hlow : ∀ u ∈ l', u.f1 ≤ p.f0 := by
        intro u hu
        rcases List.eq_nil_or_concat l' with rfl | ⟨l2, q, rfl⟩
        · simp at hu
        · simp only [List.concat_eq_append] at *
          have := hinv.1.hi q (by simp) u hu
          have := (hinv.2.2 q (by simp)).1
          omega
      refine ⟨l' ++ [(⟨p.f0, t, (⟨p.f2.f0, p.f2.f1⟩ : S50)⟩ : S52)], Ev.ifn h1 (Ev.step (f := fun _ => some _) (fun k => ?_) (Ev.now _)), hinv.1.mk hok' (fun q hq => hinv.2.2 q hq), by simp, fun d => ?_, fun m hm ht u hu => ?_⟩
      · simp only [course_grow.j0]
        rw [if_neg (by simp [h2]), if_pos (by omega), if_pos hlen, if_pos hlt, hrd, if_pos e1, if_pos (by simp [e2, e3])]
        congr 1
        have e : (((l' ++ [p]).length : Int) - 1).toNat = l'.length := by simp
        rw [e]; simp
      · rw [atv_snoc, atv_snoc]
        by_cases h : ∃ t ∈ l', has t d
        · obtain ⟨u, hu, hd⟩ := h
          have := hlow u hu; have := hd.2; have := hpo.2.1
          rw [if_neg (c := f ≤ d ∧ d < t ∧ kd ≠ 0) (by omega), if_pos (c := ∃ t ∈ l', has t d) ⟨u, hu, hd⟩, if_pos (c := ∃ t ∈ l', has t d) ⟨u, hu, hd⟩]
        · rw [if_neg h, if_neg h]
          have hp1 := hpo.2.1
          by_cases hd : f ≤ d ∧ d < t
          · rw [if_pos (show has (⟨p.f0, t, (⟨p.f2.f0, p.f2.f1⟩ : S50)⟩ : S52) d from ⟨by show p.f0 ≤ d; omega, hd.2⟩), if_pos ⟨hd.1, hd.2, h2⟩]
            show (p.f2.f0, p.f2.f1) = (kd, n)
            rw [e2, e3]
          · rw [if_neg (c := f ≤ d ∧ d < t ∧ kd ≠ 0) (fun h => hd ⟨h.1, h.2.1⟩)]
            by_cases hd2 : has p d
            · have := hd2.1; have := hd2.2
              rw [if_pos hd2, if_pos (show has (⟨p.f0, t, (⟨p.f2.f0, p.f2.f1⟩ : S50)⟩ : S52) d from ⟨hd2.1, by show d < t; omega⟩)]
            · rw [if_neg hd2, if_neg]
              rintro ⟨ha, hb⟩
              have ha' : p.f0 ≤ d := ha; have hb' : d < t := hb
              exact hd2 ⟨ha', by omega⟩
      · rcases List.mem_append.1 hu with hu | hu
        · exact hm u (List.mem_append.2 (.inl hu))
        · rw [List.mem_singleton.1 hu]; exact ht o2
    · have hfo : follows p ⟨f, t, ⟨kd, n⟩⟩ := ⟨hup p (by simp), fun h => he ⟨h.1.symm, h.2.1.symm, h.2.2.symm⟩⟩
      refine ⟨_, Ev.ifn h1 (Ev.step (f := fun _ => some (l' ++ [p] ++ [(⟨f, t, (⟨kd, n⟩ : S50)⟩ : S52)])) (fun k => ?_) (Ev.now _)), Valid.snoc l' p _ hv hok hfo, by simp, happ, happu⟩
      simp only [course_grow.j0]
      rw [if_neg (by simp [h2]), if_pos (by omega), if_pos hlen, if_pos hlt, hrd]
      by_cases e1 : p.f1 = f
      · rw [if_pos e1, if_neg, if_pos (by omega)]
        intro hh
        rw [Bool.and_eq_true, beq_iff_eq, beq_iff_eq] at hh
        exact he ⟨e1, hh⟩
      · rw [if_neg e1, if_pos (by omega)]
theorem mem_compact (l : List Int) (x : Int) : x ∈ Lib.compact l ↔ x ∈ l := by
  unfold Lib.compact Lib.compactUpTo
  rw [List.mem_map]
  constructor
  · rintro ⟨j, hj, rfl⟩
    have := List.mem_range.1 (List.mem_filter.1 hj).1
    simp [this]
  · intro h
    obtain ⟨j, hj, e⟩ := List.getElem_of_mem h
    induction j generalizing x with
    | zero => exact ⟨0, List.mem_filter.2 ⟨List.mem_range.2 hj, by simp [Lib.keeps]⟩, by simp [hj, e]⟩
    | succ j ih =>
      by_cases hk : Lib.keeps l.toArray (j + 1) = true
      · exact ⟨j + 1, List.mem_filter.2 ⟨List.mem_range.2 hj, hk⟩, by simp [hj, e]⟩
      · have hj' : j < l.length := by omega
        have e2 : l[j] = l[j + 1] := by
          unfold Lib.keeps at hk
          simp [hj, hj'] at hk
          exact hk.symm
        exact ih x (by rw [← e, ← e2]; exact List.getElem_mem hj') hj' (by rw [e2, e])
theorem sorted_rd {l : List Int} (h : l.Pairwise (· ≤ ·)) (i j : Nat) (hij : i ≤ j) (hj : j < l.length) : rd l (i : Int) ≤ rd l (j : Int) := by
  have e : ∀ k : Nat, k < l.length → rd l (k : Int) = l[k]! := fun k hk => by unfold rd; simp [List.getD, hk]
  rw [e i (by omega), e j hj]
  rcases Nat.lt_or_eq_of_le hij with hlt | rfl
  · simpa [hj, show i < l.length by omega] using List.pairwise_iff_getElem.1 h i j (by omega) hj hlt
  · exact Int.le_refl _
theorem compact_rises {l : List Int} (h : l.Pairwise (· ≤ ·)) : (Lib.compact l).Pairwise (· < ·) := by
  unfold Lib.compact Lib.compactUpTo
  rw [List.pairwise_map]
  have hr : ((List.range l.length).filter (Lib.keeps l.toArray)).Pairwise (· < ·) := (List.pairwise_lt_range).filter _
  refine List.Pairwise.imp_of_mem (fun {a b} ha hb hab => ?_) hr
  have h1 := List.mem_range.1 (List.mem_filter.1 ha).1
  have h2 := List.mem_range.1 (List.mem_filter.1 hb).1
  have h3 := (List.mem_filter.1 hb).2
  have e : ∀ k : Nat, k < l.length → rd l (k : Int) = l.toArray[k]! := fun k hk => by unfold rd; simp [List.getD, hk]
  obtain ⟨b', rfl⟩ : ∃ b', b = b' + 1 := ⟨b - 1, by omega⟩
  have s1 := sorted_rd h a b' (by omega) (by omega)
  have s2 := sorted_rd h b' (b' + 1) (by omega) h2
  rw [e a h1, e b' (by omega)] at s1
  rw [e b' (by omega), e (b' + 1) h2] at s2
  unfold Lib.keeps at h3
  have h4 : l.toArray[b' + 1]! ≠ l.toArray[b']! := by simpa using h3
  omega
/-- days in order, each once -/
def days (l : List Int) : List Int := Lib.compact (l.mergeSort fun x y => decide (x ≤ y))
theorem mem_days (l : List Int) (x : Int) : x ∈ days l ↔ x ∈ l := by
  unfold days
  rw [mem_compact]
  exact (List.mergeSort_perm l _).mem_iff
theorem days_rise (l : List Int) : (days l).Pairwise (· < ·) := by
  unfold days
  refine compact_rises ?_
  have := List.pairwise_mergeSort (le := fun x y : Int => decide (x ≤ y)) (fun a b c h1 h2 => by simp at *; omega) (fun a b => by simp; omega) l
  exact this.imp (fun h => by simpa using h)
theorem days_len (l : List Int) : (days l).length ≤ l.length := by
  unfold days Lib.compact Lib.compactUpTo
  rw [List.length_map]
  refine Nat.le_trans (List.length_filter_le ..) ?_
  rw [List.length_range, List.length_mergeSort]
  exact Nat.le_refl _
theorem days_of (l : List Int) (h : l.length ≤ 1000000) : (slices_Sort_int_int.f l).bind (fun t => slices_Compact_int_int.f t) = some (days l) := by
  unfold slices_Sort_int_int.f slices_Compact_int_int.f
  rw [if_pos h, Option.bind_some, if_pos (by rw [List.length_mergeSort]; exact h)]
  rfl
theorem rise_rd {l : List Int} (h : l.Pairwise (· < ·)) (i j : Nat) (hij : i < j) (hj : j < l.length) : rd l (i : Int) < rd l (j : Int) := by
  have e : ∀ k : Nat, k < l.length → rd l (k : Int) = l[k]! := fun k hk => by unfold rd; simp [List.getD, hk]
  rw [e i (by omega), e j hj]
  simpa [hj, show i < l.length by omega] using List.pairwise_iff_getElem.1 h i j (by omega) hj hij
theorem rd_mem {l : List Int} (i : Nat) (h : i < l.length) : rd l (i : Int) ∈ l := by
  unfold rd
  simp [List.getD, h]
theorem mem_rd {l : List Int} {x : Int} (h : x ∈ l) : ∃ i : Nat, i < l.length ∧ rd l (i : Int) = x := by
  obtain ⟨i, hi, e⟩ := List.getElem_of_mem h
  exact ⟨i, hi, by unfold rd; simp [List.getD, hi, e]⟩
/-- between two days that follow one another there is none -/
theorem days_gap {l : List Int} (h : l.Pairwise (· < ·)) (i : Nat) (hi : i + 1 < l.length) (x : Int) (hx : x ∈ l) : x ≤ rd l (i : Int) ∨ rd l ((i + 1 : Nat) : Int) ≤ x := by
  obtain ⟨j, hj, rfl⟩ := mem_rd hx
  by_cases hij : j ≤ i
  · left
    rcases Nat.lt_or_eq_of_le hij with hlt | rfl
    · exact Int.le_of_lt (rise_rd h j i hlt (by omega))
    · exact Int.le_refl _
  · right
    rcases Nat.lt_or_eq_of_le (show i + 1 ≤ j by omega) with hlt | he
    · exact Int.le_of_lt (rise_rd h (i + 1) j hlt hj)
    · rw [he]; exact Int.le_refl _
theorem fconcat_of (a b : List S52) (ha : a.length ≤ 1000000) (hb : b.length ≤ 1000000) : Ev (fun k => fact_Span_80.f k [a, b]) (a ++ b) := by
  unfold fact_Span_80.f
  have r0 : rd_L8 [a, b] 0 = a := rfl
  have r1 : rd_L8 [a, b] 1 = b := rfl
  have e0 : wrap64 ((0 : Int) + 1) = 1 := by simp [wrap64]
  have e1 : wrap64 ((1 : Int) + 1) = 2 := by simp [wrap64]
  refine Ev.step (fun k => by rw [fact_Span_80.l0]) (Ev.ifp (by simp) (Ev.ifp (by omega) (Ev.ifp (by simp) ?_)))
  rw [r0, e0, w64 (x := 0 + (a.length : Int)) (by omega) (by omega)]
  refine Ev.ifn (by omega) ?_
  refine Ev.step (fun k => by rw [fact_Span_80.l0]) (Ev.ifp (by simp) (Ev.ifp (by omega) (Ev.ifp (by simp) ?_)))
  rw [r1, e1, w64 (x := 0 + (a.length : Int) + (b.length : Int)) (by omega) (by omega)]
  refine Ev.ifn (by omega) ?_
  refine Ev.step (fun k => by rw [fact_Span_80.l0]) (Ev.ifn (by simp) ?_)
  have hg : span_Grow.f (0 + (a.length : Int) + (b.length : Int)) = some [] := by
    unfold span_Grow.f
    rw [if_pos (by omega), if_pos (by omega)]
  simp only [hg, Option.bind_some]
  refine Ev.step (fun k => by rw [fact_Span_80.l1]) (Ev.ifp (by simp) (Ev.ifp (by omega) (Ev.ifp (by simp) ?_)))
  rw [r0, e0]
  refine Ev.ifp (by simp; omega) ?_
  refine Ev.step (fun k => by rw [fact_Span_80.l1]) (Ev.ifp (by simp) (Ev.ifp (by omega) (Ev.ifp (by simp) ?_)))
  rw [r1, e1]
  refine Ev.ifp (by simp; omega) ?_
  exact Ev.step (fun k => by rw [fact_Span_80.l1]) (Ev.ifn (by simp) (Ev.to (by simp)))
def sEnds : List S52 → List Int
  | [] => []
  | s :: l => s.f0 :: s.f1 :: sEnds l
theorem sEnds_len (l : List S52) : (sEnds l).length = 2 * l.length := by
  induction l with
  | nil => rfl
  | cons s l ih => simp [sEnds, ih]; omega
theorem sEnds_mem (l : List S52) (s : S52) (h : s ∈ l) : s.f0 ∈ sEnds l ∧ s.f1 ∈ sEnds l := by
  induction l with
  | nil => simp at h
  | cons t l ih =>
    rcases List.mem_cons.1 h with rfl | h
    · simp [sEnds]
    · have := ih h; simp [sEnds, this.1, this.2]
theorem atv_const (a b : Int) : ∀ (l : List S52), (∀ s ∈ l, (s.f0 ≤ a ∨ b ≤ s.f0) ∧ (s.f1 ≤ a ∨ b ≤ s.f1)) → ∀ d, a ≤ d → d < b → atv l d = atv l a
  | [], _, _, _, _ => rfl
  | s :: l, h, d, h1, h2 => by
    have hs := h s (by simp)
    simp only [atv]
    rw [atv_const a b l (fun t ht => h t (by simp [ht])) d h1 h2]
    by_cases hc : s.f0 ≤ d ∧ d < s.f1
    · rw [if_pos hc, if_pos (by omega)]
    · rw [if_neg hc, if_neg (by omega)]
theorem fconcat1_of (a : List S52) (ha : a.length ≤ 1000000) : Ev (fun k => fact_Span_80.f k [a]) a := by
  unfold fact_Span_80.f
  have r0 : rd_L8 [a] 0 = a := rfl
  have e0 : wrap64 ((0 : Int) + 1) = 1 := by simp [wrap64]
  refine Ev.step (fun k => by rw [fact_Span_80.l0]) (Ev.ifp (by simp) (Ev.ifp (by omega) (Ev.ifp (by simp) ?_)))
  rw [r0, e0, w64 (x := 0 + (a.length : Int)) (by omega) (by omega)]
  refine Ev.ifn (by omega) ?_
  refine Ev.step (fun k => by rw [fact_Span_80.l0]) (Ev.ifn (by simp) ?_)
  have hg : span_Grow.f (0 + (a.length : Int)) = some [] := by
    unfold span_Grow.f
    rw [if_pos (by omega), if_pos (by omega)]
  simp only [hg, Option.bind_some]
  refine Ev.step (fun k => by rw [fact_Span_80.l1]) (Ev.ifp (by simp) (Ev.ifp (by omega) (Ev.ifp (by simp) ?_)))
  rw [r0, e0]
  refine Ev.ifp (by simp; omega) ?_
  exact Ev.step (fun k => by rw [fact_Span_80.l1]) (Ev.ifn (by simp) (Ev.to (by simp)))
theorem ends_loop (c : List S52) (hl : c.length ≤ 1000) (n : Nat) : ∀ (i : Nat) (acc : List Int), i ≤ c.length → c.length - i = n → acc.length ≤ 2 + 2 * i → Ev (fun k => course_ends.l0 k acc c (c.length : Int) (i : Int)) (days (acc ++ sEnds (c.drop i))) := by
  induction n with
  | zero =>
    intro i acc hi hn ha
    obtain rfl : i = c.length := by omega
    rw [List.drop_length, sEnds, List.append_nil]
    refine Ev.step (f := fun _ => some (days acc)) (fun k => ?_) (Ev.now _)
    simp only [course_ends.l0]
    rw [if_neg (by omega), ← Option.bind_assoc, days_of _ (by omega)]
    rfl
  | succ n ih =>
    intro i acc hi hn ha
    have hlt : i < c.length := by omega
    rw [drop_span c i hlt, sEnds]
    have := ih (i + 1) (acc ++ [(rd_T52 c (i : Int)).f0, (rd_T52 c (i : Int)).f1]) (by omega) (by omega) (by simp; omega)
    rw [List.append_assoc] at this
    refine Ev.step (fun k => ?_) this
    simp only [course_ends.l0]
    rw [if_pos (by omega), if_pos (by omega), if_pos (by omega), Option.bind_some, if_pos (by simp; omega), w64_succ hlt (by omega)]
/-- the days on which a course may change -/
def chg (c : List S52) : List Int := days ([0, 1048576] ++ sEnds c)
theorem ends2_of (a b : List S52) (ha : a.length ≤ 400) (hb : b.length ≤ 400) : Ev (fun k => course_ends.f k [a, b]) (chg (a ++ b)) := by
  unfold course_ends.f
  exact Ev.bind (fconcat_of a b (by omega) (by omega)) (ends_loop (a ++ b) (by simp; omega) _ 0 [0, 1048576] (by omega) rfl (by simp))
theorem ends1_of (a : List S52) (ha : a.length ≤ 400) : Ev (fun k => course_ends.f k [a]) (chg a) := by
  unfold course_ends.f
  exact Ev.bind (fconcat1_of a (by omega)) (ends_loop a (by omega) _ 0 [0, 1048576] (by omega) rfl (by simp))
theorem chg_len (c : List S52) : (chg c).length ≤ 2 + 2 * c.length := by
  have := days_len ([0, 1048576] ++ sEnds c)
  rw [List.length_append, sEnds_len] at this
  exact this
theorem chg_rise (c : List S52) : (chg c).Pairwise (· < ·) := days_rise _
theorem chg_mem (c : List S52) (s : S52) (h : s ∈ c) : s.f0 ∈ chg c ∧ s.f1 ∈ chg c := by
  have := sEnds_mem c s h
  unfold chg
  rw [mem_days, mem_days]
  exact ⟨List.mem_append.2 (.inr this.1), List.mem_append.2 (.inr this.2)⟩
theorem sEnds_rng (c : List S52) (hc : ∀ s ∈ c, okspan s) (x : Int) (h : x ∈ sEnds c) : 0 ≤ x ∧ x ≤ 1048576 := by
  induction c with
  | nil => simp [sEnds] at h
  | cons s l ih =>
    have hs := hc s (by simp); have h1 := hs.1; have h2 := hs.2.1; have h3 := hs.2.2.1
    unfold sEnds at h
    rcases List.mem_cons.1 h with rfl | h
    · omega
    rcases List.mem_cons.1 h with rfl | h
    · omega
    · exact ih (fun t ht => hc t (by simp [ht])) h
theorem chg_rng (c : List S52) (hc : ∀ s ∈ c, okspan s) (x : Int) (h : x ∈ chg c) : 0 ≤ x ∧ x ≤ 1048576 := by
  unfold chg at h
  rw [mem_days] at h
  rcases List.mem_append.1 h with h | h
  · simp at h; omega
  · exact sEnds_rng c hc x h
theorem chg_two (c : List S52) : 2 ≤ (chg c).length := by
  have h0 : (0 : Int) ∈ chg c := by unfold chg; rw [mem_days]; simp
  have h1 : (1048576 : Int) ∈ chg c := by unfold chg; rw [mem_days]; simp
  obtain ⟨i, hi, e⟩ := mem_rd h0
  obtain ⟨j, hj, e'⟩ := mem_rd h1
  have : i ≠ j := by rintro rfl; omega
  omega
theorem chg_first (c : List S52) (hc : ∀ s ∈ c, okspan s) : rd (chg c) ((0 : Nat) : Int) = 0 := by
  have h0 : (0 : Int) ∈ chg c := by unfold chg; rw [mem_days]; simp
  have hl := chg_two c
  obtain ⟨i, hi, e⟩ := mem_rd h0
  have hb := chg_rng c hc _ (rd_mem 0 (by omega))
  rcases Nat.eq_zero_or_pos i with rfl | hp
  · exact e
  · have := rise_rd (chg_rise c) 0 i hp hi
    omega
theorem chg_last (c : List S52) (hc : ∀ s ∈ c, okspan s) : rd (chg c) (((chg c).length - 1 : Nat) : Int) = 1048576 := by
  have h0 : (1048576 : Int) ∈ chg c := by unfold chg; rw [mem_days]; simp
  have hl := chg_two c
  obtain ⟨i, hi, e⟩ := mem_rd h0
  have hb := chg_rng c hc _ (rd_mem ((chg c).length - 1) (by omega))
  rcases Nat.lt_or_eq_of_le (show i ≤ (chg c).length - 1 by omega) with hlt | he
  · have := rise_rd (chg_rise c) i ((chg c).length - 1) hlt (by omega)
    omega
  · rw [← he]; exact e
/-- on the days from one change on, before the next one, a course has one value -/
theorem chg_same (c l : List S52) (hs : ∀ s ∈ l, s ∈ c) (i : Nat) (hi : i + 1 < (chg c).length) (d : Int) (h1 : rd (chg c) (i : Int) ≤ d) (h2 : d < rd (chg c) ((i + 1 : Nat) : Int)) : atv l d = atv l (rd (chg c) (i : Int)) :=
  atv_const _ _ l (fun s h => ⟨days_gap (chg_rise c) i hi _ (chg_mem c s (hs s h)).1, days_gap (chg_rise c) i hi _ (chg_mem c s (hs s h)).2⟩) d h1 h2
theorem atv_out (l : List S52) (hl : ∀ s ∈ l, okspan s) (d : Int) (hd : d < 0 ∨ 1048576 ≤ d) : atv l d = (0, 0) :=
  atv_none l d fun t ht h => by have := hl t ht; have h1 := this.1; have h3 := this.2.2.1; have := h.1; have := h.2; omega
theorem atv_mem (l : List S52) (d : Int) : atv l d = (0, 0) ∨ ∃ s ∈ l, atv l d = (s.f2.f0, s.f2.f1) := by
  induction l with
  | nil => exact .inl rfl
  | cons s l ih =>
    simp only [atv]
    split
    · exact .inr ⟨s, by simp, rfl⟩
    · rcases ih with h | ⟨t, ht, h⟩
      · exact .inl h
      · exact .inr ⟨t, by simp [ht], h⟩
/-- course.Zip with the closure of a table and a way -/
theorem zipt_l1 (nm : ByteArray) (fr tt : Int) (sl : Bool) (sp : List S103) (wy : Int) (G : Int × Int → Int × Int → Int × Int) (a b : List S52) (ha : Valid a) (hb : Valid b) (hla : a.length ≤ 90) (hlb : b.length ≤ 90)
    (hG : ∀ d, Ev (fun k => (moottop_TableCourses_1.f k (atv a d).1 (atv a d).2 (atv b d).1 (atv b d).2 nm fr tt sl sp wy).bind fun t => unit_Fit.f t.1 t.2) (G (atv a d) (atv b d))) (hok : ∀ d, G (atv a d) (atv b d) = (0, 0) ∨ okv (G (atv a d) (atv b d)).1 (G (atv a d) (atv b d)).2) (hzero : G (0, 0) (0, 0) = (0, 0)) (n : Nat) :
    ∀ (i : Nat) (out : List S52), i < (chg (a ++ b)).length → (chg (a ++ b)).length - 1 - i = n → Valid out → out.length ≤ i → Upto out (rd (chg (a ++ b)) (i : Int)) → (∀ d, atv out d = if d < rd (chg (a ++ b)) (i : Int) then G (atv a d) (atv b d) else (0, 0)) →
    ∃ r, Ev (fun k => course_Zip.l1 k a b out (chg (a ++ b)) (i : Int) nm fr tt sl sp wy) (r, 0) ∧ Valid r ∧ r.length ≤ 400 ∧ ∀ d, atv r d = G (atv a d) (atv b d) := by
  have hso : ∀ s ∈ a ++ b, okspan s := fun s h => (List.mem_append.1 h).elim (ha.ok s) (hb.ok s)
  have hcl := chg_len (a ++ b)
  rw [List.length_append] at hcl
  have hlast := chg_last (a ++ b) hso
  obtain ⟨E, hE⟩ : ∃ E, E = chg (a ++ b) := ⟨_, rfl⟩
  rw [← hE] at hcl hlast ⊢
  have hri : E.Pairwise (· < ·) := by rw [hE]; exact chg_rise _
  induction n with
  | zero =>
    intro i out hi hn hv hlen hup hat
    have hw := w64_succ (i := i) (n := E.length) (by omega) (by omega)
    refine ⟨out, Ev.step (f := fun k => (course_Check.f k out).bind fun t => if t = 0 then some (out, 0) else some ([], t)) (fun k => ?_) (Ev.bind (check_of hv (by omega)) (Ev.ifp rfl (Ev.now _))), hv, by omega, fun d => ?_⟩
    · simp only [course_Zip.l1, hw]
      rw [if_neg (by omega)]
    · rw [hat d]
      have hie : i = E.length - 1 := by omega
      rw [hie, hlast]
      by_cases hd : d < 1048576
      · rw [if_pos hd]
      · rw [if_neg hd, atv_out a ha.ok d (.inr (by omega)), atv_out b hb.ok d (.inr (by omega)), hzero]
  | succ n ih =>
    intro i out hi hn hv hlen hup hat
    have hi1 : i + 1 < E.length := by omega
    have hw := w64_succ (i := i) (n := E.length) (by omega) (by omega)
    have hlt := rise_rd hri i (i + 1) (by omega) hi1
    have hb1 : 0 ≤ rd E (i : Int) ∧ rd E (i : Int) ≤ 1048576 := chg_rng (a ++ b) hso _ (by rw [← hE]; exact rd_mem i hi)
    have hb2 : 0 ≤ rd E ((i + 1 : Nat) : Int) ∧ rd E ((i + 1 : Nat) : Int) ≤ 1048576 := chg_rng (a ++ b) hso _ (by rw [← hE]; exact rd_mem (i + 1) hi1)
    have hsame : ∀ d, rd E (i : Int) ≤ d → d < rd E ((i + 1 : Nat) : Int) → atv a d = atv a (rd E (i : Int)) ∧ atv b d = atv b (rd E (i : Int)) := by
      rw [hE]
      exact fun d h1 h2 => ⟨chg_same (a ++ b) a (fun s h => List.mem_append.2 (.inl h)) i (by rw [← hE]; exact hi1) d h1 h2, chg_same (a ++ b) b (fun s h => List.mem_append.2 (.inr h)) i (by rw [← hE]; exact hi1) d h1 h2⟩
    have hg := hG (rd E (i : Int))
    have hk := hok (rd E (i : Int))
    rcases hu : G (atv a (rd E (i : Int))) (atv b (rd E (i : Int))) with ⟨kd, m⟩
    rw [hu] at hg hk
    obtain ⟨r, hr, hrv, hrl, hra, hru⟩ := grow_of out (rd E (i : Int)) (rd E ((i + 1 : Nat) : Int)) kd m hv (by omega) (by
      rcases hk with h | h
      · exact .inr (.inl (Prod.mk.inj h).1)
      · exact .inr (.inr ⟨⟨hb1.1, hlt, hb2.2, h⟩, hup⟩))
    obtain ⟨r', hr', h'⟩ := ih (i + 1) r hi1 (by omega) hrv (by omega) (hru _ (hup.mono (by omega)) (fun _ => by omega)) (fun d => by
      rw [hra d, hat d]
      by_cases h1 : d < rd E (i : Int)
      · rw [if_neg (c := _ ∧ _) (by omega), if_pos h1, if_pos (by omega)]
      · by_cases h2 : d < rd E ((i + 1 : Nat) : Int)
        · obtain ⟨e1, e2⟩ := hsame d (by omega) h2
          rw [if_neg (c := d < rd E (i : Int)) h1, if_pos h2, e1, e2, hu]
          by_cases h3 : kd = 0
          · rw [if_neg (c := _ ∧ _) (fun h => h.2.2 h3)]
            rcases hk with h | h
            · exact h.symm
            · exact absurd h3 h.1
          · rw [if_pos ⟨by omega, h2, h3⟩]
        · rw [if_neg (c := _ ∧ _) (by omega), if_neg h1, if_neg h2])
    refine ⟨r', Ev.step (f := fun k => (course_At.f k a (rd E (i : Int))).bind fun bt => (course_At.f k b (rd E (i : Int))).bind fun bu => (moottop_TableCourses_1.f k bt.1 bt.2 bu.1 bu.2 nm fr tt sl sp wy).bind fun bv => (unit_Fit.f bv.1 bv.2).bind fun bw => (course_grow.f k out (rd E (i : Int)) (rd E ((i + 1 : Nat) : Int)) bw.1 bw.2).bind fun t => course_Zip.l1 k a b t E ((i + 1 : Nat) : Int) nm fr tt sl sp wy) (fun k => ?_) ?_, h'⟩
    · simp only [course_Zip.l1, hw]
      rw [if_pos (by omega), if_pos (by omega), if_pos (by omega), if_pos (by omega)]
    · refine Ev.bind (at_of a _ (by omega)) (Ev.bind (at_of b _ (by omega)) ?_)
      refine Ev.congr (f := fun k => ((moottop_TableCourses_1.f k (atv a (rd E (i : Int))).1 (atv a (rd E (i : Int))).2 (atv b (rd E (i : Int))).1 (atv b (rd E (i : Int))).2 nm fr tt sl sp wy).bind fun t => unit_Fit.f t.1 t.2).bind fun bw => (course_grow.f k out (rd E (i : Int)) (rd E ((i + 1 : Nat) : Int)) bw.1 bw.2).bind fun t => course_Zip.l1 k a b t E ((i + 1 : Nat) : Int) nm fr tt sl sp wy) (fun k => ?_) ?_
      · rw [Option.bind_assoc]
      · exact Ev.bind hg (Ev.bind hr hr')
theorem zipt_of (nm : ByteArray) (fr tt : Int) (sl : Bool) (sp : List S103) (wy : Int) (G : Int × Int → Int × Int → Int × Int) (a b : List S52) (ha : Valid a) (hb : Valid b) (hla : a.length ≤ 90) (hlb : b.length ≤ 90)
    (hG : ∀ d, Ev (fun k => (moottop_TableCourses_1.f k (atv a d).1 (atv a d).2 (atv b d).1 (atv b d).2 nm fr tt sl sp wy).bind fun t => unit_Fit.f t.1 t.2) (G (atv a d) (atv b d))) (hok : ∀ d, G (atv a d) (atv b d) = (0, 0) ∨ okv (G (atv a d) (atv b d)).1 (G (atv a d) (atv b d)).2) (hzero : G (0, 0) (0, 0) = (0, 0)) (z : Int) :
    ∃ r, Ev (fun k => course_Zip.f k z a b nm fr tt sl sp wy) (r, 0) ∧ Valid r ∧ r.length ≤ 400 ∧ ∀ d, atv r d = G (atv a d) (atv b d) := by
  have hso : ∀ s ∈ a ++ b, okspan s := fun s h => (List.mem_append.1 h).elim (ha.ok s) (hb.ok s)
  have hfirst := chg_first (a ++ b) hso
  obtain ⟨r, hr, h⟩ := zipt_l1 nm fr tt sl sp wy G a b ha hb hla hlb hG hok hzero _ 0 [] (by have := chg_two (a ++ b); omega) rfl Valid.nil (by simp) (fun t ht => by simp at ht) (fun d => by
    rw [hfirst]
    by_cases hd : d < 0
    · rw [if_pos hd, atv_out a ha.ok d (.inl hd), atv_out b hb.ok d (.inl hd), hzero]
      rfl
    · rw [if_neg hd]; rfl)
  refine ⟨r, ?_, h⟩
  simp only [course_Zip.f, Option.bind_some]
  have e0 : wrap64 ((0 : Int) + 1) = 1 := by simp [wrap64]
  have e1 : wrap64 ((1 : Int) + 1) = 2 := by simp [wrap64]
  have r0 : rd_L8 [a, b] 0 = a := rfl
  have r1 : rd_L8 [a, b] 1 = b := rfl
  refine Ev.step (fun k => by rw [course_Zip.l0]) (Ev.ifp (by simp) (Ev.ifp (by omega) (Ev.ifp (by simp) ?_)))
  rw [r0, e0]
  refine Ev.bind (check_of ha (by omega)) (Ev.ifp rfl ?_)
  refine Ev.step (fun k => by rw [course_Zip.l0]) (Ev.ifp (by simp) (Ev.ifp (by omega) (Ev.ifp (by simp) ?_)))
  rw [r1, e1]
  refine Ev.bind (check_of hb (by omega)) (Ev.ifp rfl ?_)
  refine Ev.step (fun k => by rw [course_Zip.l0]) (Ev.ifn (by simp) ?_)
  exact Ev.bind (ends2_of a b (by omega) (by omega)) hr
def term (a b : Int) (s : S52) : Int := if min b s.f1 - max a s.f0 > 0 then (min b s.f1 - max a s.f0) * s.f2.f1 else 0
def sumv (c : List S52) (a b : Int) : Int := (c.map (term a b)).foldr (· + ·) 0
theorem sumv_cons (s : S52) (c : List S52) (a b : Int) : sumv (s :: c) a b = term a b s + sumv c a b := rfl
theorem sumv_snoc (c : List S52) (s : S52) (a b : Int) : sumv (c ++ [s]) a b = sumv c a b + term a b s := by
  induction c with
  | nil => simp [sumv]
  | cons t c ih => rw [List.cons_append, sumv_cons, sumv_cons, ih]; omega
theorem mul_bound {x y A B : Int} (hx0 : 0 ≤ x) (hx : x ≤ A) (hy0 : -B ≤ y) (hy : y ≤ B) (hB : 0 ≤ B) : -(A * B) ≤ x * y ∧ x * y ≤ A * B := by
  have h1 : x * y ≤ x * B := Int.mul_le_mul_of_nonneg_left hy hx0
  have h2 : x * B ≤ A * B := Int.mul_le_mul_of_nonneg_right hx hB
  have h3 : x * (-B) ≤ x * y := Int.mul_le_mul_of_nonneg_left hy0 hx0
  rw [Int.mul_neg] at h3
  omega
def money (s : S52) : Prop := s.f2.f0 = 2 ∧ -268435456 ≤ s.f2.f1 ∧ s.f2.f1 ≤ 268435456
theorem term_bound {a b : Int} {s : S52} (hs : okspan s) (hm : money s) (ha : 0 ≤ a) (hb : b ≤ 1048576) : -281474976710656 ≤ term a b s ∧ term a b s ≤ 281474976710656 := by
  obtain ⟨o1, o2, o3, _⟩ := hs
  obtain ⟨o4, o5, o6⟩ := hm
  unfold term
  split
  · have := mul_bound (x := min b s.f1 - max a s.f0) (y := s.f2.f1) (A := 1048576) (B := 268435456) (by omega) (by omega) o5 o6 (by omega)
    omega
  · omega
theorem sum_l0 (c : List S52) (hc : ∀ t ∈ c, okspan t) (hmo : ∀ t ∈ c, money t) (a b : Int) (hab : a ≤ b) (ha : 0 ≤ a) (hb : b ≤ 1048576) (hb0 : 0 ≤ b) (hl : c.length ≤ 1000) (n : Nat) : ∀ (i : Nat) (x : Int), i ≤ c.length → c.length - i = n → -(281474976710656 * i) ≤ x → x ≤ 281474976710656 * i →
    Ev (fun k => course_Sum.l0 k 2 a b x c (c.length : Int) (i : Int)) (x + sumv (c.drop i) a b, 0) := by
  induction n with
  | zero =>
    intro i x hi hn h1 h2
    obtain rfl : i = c.length := by omega
    rw [List.drop_length]
    refine Ev.step (f := fun _ => some (x, 0)) (fun k => ?_) (Ev.to (by simp [sumv]))
    simp only [course_Sum.l0]
    rw [if_neg (by omega)]
  | succ n ih =>
    intro i x hi hn h1 h2
    have hlt : i < c.length := by omega
    have hs : okspan (rd_T52 c (i : Int)) := hc _ (by have : rd_T52 c (i : Int) = c.getD i z52 := rfl; rw [this, List.getD_eq_getElem?_getD, List.getElem?_eq_getElem hlt]; simp)
    have hm_ : money (rd_T52 c (i : Int)) := hmo _ (by have : rd_T52 c (i : Int) = c.getD i z52 := rfl; rw [this, List.getD_eq_getElem?_getD, List.getElem?_eq_getElem hlt]; simp)
    have ht := term_bound hs hm_ ha hb
    rw [drop_span c i hlt, sumv_cons]
    have ih' := ih (i + 1) (x + term a b (rd_T52 c (i : Int))) (by omega) (by omega) (by omega) (by omega)
    obtain ⟨o1, o2, o3, _⟩ := hs
    obtain ⟨o4, o5, o6⟩ := hm_
    by_cases hd : min b (rd_T52 c (i : Int)).f1 - max a (rd_T52 c (i : Int)).f0 > 0
    · have hm := mul_bound (x := min b (rd_T52 c (i : Int)).f1 - max a (rd_T52 c (i : Int)).f0) (y := (rd_T52 c (i : Int)).f2.f1) (A := 1048576) (B := 268435456) (by omega) (by omega) o5 o6 (by omega)
      have e : term a b (rd_T52 c (i : Int)) = (min b (rd_T52 c (i : Int)).f1 - max a (rd_T52 c (i : Int)).f0) * (rd_T52 c (i : Int)).f2.f1 := if_pos hd
      rw [e] at ih' ⊢
      rw [← Int.add_assoc]
      refine Ev.step (fun k => ?_) ih'
      simp only [course_Sum.l0]
      rw [if_pos (by omega), if_pos (by omega), if_pos (by omega), mn_min, mx_max, w64 (x := min b (rd_T52 c (i : Int)).f1 - max a (rd_T52 c (i : Int)).f0) (by omega) (by omega), if_pos hd, if_pos o4, w64 (x := (min b (rd_T52 c (i : Int)).f1 - max a (rd_T52 c (i : Int)).f0) * (rd_T52 c (i : Int)).f2.f1) (by omega) (by omega), w64_succ hlt (by omega)]
      rw [w64 (by omega) (by omega)]
    · have e : term a b (rd_T52 c (i : Int)) = 0 := if_neg hd
      rw [e, Int.add_zero] at ih'
      rw [e, Int.zero_add]
      refine Ev.step (fun k => ?_) ih'
      simp only [course_Sum.l0]
      rw [if_pos (by omega), if_pos (by omega), if_pos (by omega), mn_min, mx_max, w64 (x := min b (rd_T52 c (i : Int)).f1 - max a (rd_T52 c (i : Int)).f0) (by omega) (by omega), if_neg hd, w64_succ hlt (by omega)]
theorem sum_of {c : List S52} (hc : Valid c) (hmo : ∀ t ∈ c, money t) (hl : c.length ≤ 1000) {a b : Int} (ha : 0 ≤ a) (hab : a ≤ b) (hb : b ≤ 1048576) : Ev (fun k => course_Sum.f k c 2 a b) (sumv c a b, 0) := by
  have h := sum_l0 c hc.ok hmo a b hab ha hb (by omega) hl _ 0 0 (by omega) rfl (by omega) (by omega)
  rw [List.drop_zero, Int.zero_add] at h
  simp only [course_Sum.f]
  refine Ev.bind (check_of hc hl) (Ev.ifp rfl (Ev.ifn (by omega) (Ev.ifn (by omega) ?_)))
  refine Ev.step (f := fun k => course_Sum.j1 k c 2 a b false) (fun k => ?_) ?_
  · simp only [course_Sum.j0]
    rw [if_neg (by simp; omega), if_neg (by decide), if_neg (by decide), if_neg (by decide)]
    rfl
  refine Ev.step (fun k => ?_) h
  simp only [course_Sum.j1]
  rw [if_neg (by decide)]; rfl
theorem sumv_add (c : List S52) (x y z : Int) (h1 : x ≤ y) (h2 : y ≤ z) : sumv c x y + sumv c y z = sumv c x z := by
  induction c with
  | nil => rfl
  | cons s c ih =>
    rw [sumv_cons, sumv_cons, sumv_cons]
    have : term x y s + term y z s = term x z s := by
      unfold term
      by_cases a1 : min y s.f1 - max x s.f0 > 0
      · by_cases a2 : min z s.f1 - max y s.f0 > 0
        · rw [if_pos a1, if_pos a2, if_pos (by omega), ← Int.add_mul]; congr 1; omega
        · rw [if_pos a1, if_neg a2, if_pos (by omega), Int.add_zero]; congr 1; omega
      · by_cases a2 : min z s.f1 - max y s.f0 > 0
        · rw [if_neg a1, if_pos a2, if_pos (by omega), Int.zero_add]; congr 1; omega
        · rw [if_neg a1, if_neg a2]
          by_cases a3 : min z s.f1 - max x s.f0 > 0
          · exfalso; omega
          · rw [if_neg a3]; rfl
    omega
theorem term_in (s : S52) (d : Int) : term d (d + 1) s = if has s d then s.f2.f1 else 0 := by
  unfold term
  by_cases h : has s d
  · have h' := h; unfold has at h'
    rw [if_pos h, if_pos (by omega), show min (d + 1) s.f1 - max d s.f0 = 1 from by omega, Int.one_mul]
  · have h' := h; unfold has at h'
    rw [if_neg h, if_neg (by omega)]
theorem sumv_zero (l : List S52) (d : Int) (h : ∀ t ∈ l, ¬ has t d) : sumv l d (d + 1) = 0 := by
  induction l with
  | nil => rfl
  | cons s l ih => rw [sumv_cons, term_in, if_neg (h s (by simp)), ih fun t ht => h t (by simp [ht])]; rfl
theorem sumv_at {c : List S52} (hc : Valid c) (d : Int) : sumv c d (d + 1) = (atv c d).2 := by
  induction hc with
  | nil => rfl
  | one s hs =>
    rw [sumv_cons, term_in]
    simp only [atv]
    by_cases h : has s d
    · rw [if_pos h, if_pos (show s.f0 ≤ d ∧ d < s.f1 from h)]; simp [sumv]
    · rw [if_neg h, if_neg (show ¬ (s.f0 ≤ d ∧ d < s.f1) from h)]; simp [sumv]
  | snoc l p s hv hs hf ih =>
    rw [sumv_snoc, term_in, atv_snoc]
    by_cases h : has s d
    · have hn : ¬ ∃ t ∈ l ++ [p], has t d := by
        rintro ⟨t, ht, h1, h2⟩
        have := hv.hi p (by simp) t ht
        have := hf.1; have := h.1
        omega
      have hz := sumv_zero (l ++ [p]) d (fun t ht hh => hn ⟨t, ht, hh⟩)
      rw [if_pos h, if_neg hn, if_pos h, hz]; simp
    · rw [if_neg h, if_neg h, ih, Int.add_zero]
      by_cases he : ∃ t ∈ l ++ [p], has t d
      · rw [if_pos he]
      · rw [if_neg he, atv_none _ _ (fun t ht hh => he ⟨t, ht, hh⟩)]
theorem tmn_min (a b : Int) : mn a b = min a b := by unfold mn; split <;> omega
theorem tmx_max (a b : Int) : mx a b = max a b := by unfold mx; split <;> omega
/-- what the maker of tables makes -/
structure TabOK (l : List S103) : Prop where
  pos : 0 < l.length
  len : l.length ≤ 20
  mem : ∀ s ∈ l, 0 ≤ s.f0 ∧ s.f0 ≤ 400000 ∧ 0 ≤ s.f1 ∧ s.f1 ≤ 1000000
  inc : l.Pairwise fun a b => a.f0 < b.f0
theorem rd_step (l : List S103) (i : Nat) (h : i < l.length) : rd_T103 l (i : Int) = l[i] := by
  unfold rd_T103
  simp [List.getD, h]
theorem TabOK.at {l : List S103} (h : TabOK l) (i : Nat) (hi : i < l.length) : 0 ≤ (rd_T103 l (i : Int)).f0 ∧ (rd_T103 l (i : Int)).f0 ≤ 400000 ∧ 0 ≤ (rd_T103 l (i : Int)).f1 ∧ (rd_T103 l (i : Int)).f1 ≤ 1000000 := by
  rw [rd_step l i hi]; exact h.mem _ (List.getElem_mem hi)
theorem TabOK.lt {l : List S103} (h : TabOK l) (i : Nat) (h0 : 0 < i) (hi : i < l.length) : (rd_T103 l ((i - 1 : Nat) : Int)).f0 < (rd_T103 l (i : Int)).f0 := by
  rw [rd_step l i hi, rd_step l (i - 1) (by omega)]
  exact List.pairwise_iff_getElem.1 h.inc (i - 1) i (by omega) hi (by omega)
theorem drop_step (l : List S103) (i : Nat) (h : i < l.length) : l.drop i = rd_T103 l (i : Int) :: l.drop (i + 1) := by
  rw [List.drop_eq_getElem_cons h, rd_step l i h]
theorem tcheck_l0 (l : List S103) (h : TabOK l) (lo up le mo : Int) (nm : ByteArray) (a b : Int) (sl : Bool) (h1 : lo ≤ 0) (h2 : 400000 ≤ up) (h3 : le ≤ 0) (h4 : 1000000 ≤ mo) (n : Nat) :
    ∀ i : Nat, i ≤ l.length → l.length - i = n → Ev (fun k => table_Check.l0 k lo up le mo l (l.length : Int) (i : Int) nm a b sl l) 0 := by
  induction n with
  | zero =>
    intro i hi hn
    obtain rfl : i = l.length := by omega
    refine Ev.step (f := fun _ => some 0) (fun k => ?_) (Ev.now _)
    simp only [table_Check.l0]
    rw [if_neg (by omega)]
  | succ n ih =>
    intro i hi hn
    have hlt : i < l.length := by omega
    have hl := h.len
    obtain ⟨o1, o2, o3, o4⟩ := h.at i hlt
    have ih' := ih (i + 1) (by omega) (by omega)
    refine Ev.step (f := fun k => table_Check.j2 k lo up le mo (i : Int) l (l.length : Int) (i : Int) false nm a b sl l (rd_T103 l (i : Int)).f0 (rd_T103 l (i : Int)).f1) (fun k => ?_) ?_
    · simp only [table_Check.l0]
      rw [if_pos (by omega), if_pos (by omega), if_pos (by omega), if_neg (by omega), if_neg (by omega), if_neg (by omega), decide_eq_false (by omega)]
    refine Ev.step (fun k => ?_) ih'
    simp only [table_Check.j2]
    rw [if_neg (by decide), w64_succ hlt (by omega)]
    by_cases hi0 : 0 < i
    · have hf := h.lt i hi0 hlt
      rw [if_pos (by omega), w64 (x := (i : Int) - 1) (by omega) (by omega), if_pos (by omega), if_pos (by omega), show (i : Int) - 1 = ((i - 1 : Nat) : Int) from by omega, if_neg (by omega)]
    · rw [if_neg (by omega)]
theorem trange2 : unit_Range.f 2 = some (-1099511627776, 1099511627776) := rfl
theorem trange5 : unit_Range.f 5 = some (-1048576, 1048576) := rfl
theorem trange6 : unit_Range.f 6 = some (-1000000000, 1000000000) := rfl
theorem tcheck_of {l : List S103} (h : TabOK l) (nm : ByteArray) (hn : nameOk nm = true) (b : Int) (sl : Bool) (hb : b = 2 ∨ b = 5 ∨ b = 6) (hs : sl = true → b = 2) : Ev (fun k => table_Check.f k nm 2 b sl l) 0 := by
  have hl := h.len; have hp := h.pos
  have hk : table_kinds.f nm 2 b sl l = some true := by
    unfold table_kinds.f
    rcases hb with rfl | rfl | rfl <;> cases sl <;> simp_all
  simp only [table_Check.f, fact_Name.f, Option.bind_some, hk, trange2]
  refine Ev.ifp hn (Ev.ifp trivial (Ev.ifn (by omega) (Ev.ifn (by omega) ?_)))
  cases sl
  · rcases hb with rfl | rfl | rfl
    · simp only [trange2, Option.bind_some]
      refine Ev.ifn (by decide) (Ev.step (fun k => ?_) (tcheck_l0 l h (-1099511627776) 1099511627776 (-1099511627776) 1099511627776 nm 2 2 false (by omega) (by omega) (by omega) (by omega) _ 0 (by omega) rfl))
      simp only [table_Check.j0]; rfl
    · simp only [trange5, Option.bind_some]
      refine Ev.ifn (by decide) (Ev.step (fun k => ?_) (tcheck_l0 l h (-1099511627776) 1099511627776 (-1048576) 1048576 nm 2 5 false (by omega) (by omega) (by omega) (by omega) _ 0 (by omega) rfl))
      simp only [table_Check.j0]; rfl
    · simp only [trange6, Option.bind_some]
      refine Ev.ifn (by decide) (Ev.step (fun k => ?_) (tcheck_l0 l h (-1099511627776) 1099511627776 (-1000000000) 1000000000 nm 2 6 false (by omega) (by omega) (by omega) (by omega) _ 0 (by omega) rfl))
      simp only [table_Check.j0]; rfl
  · obtain rfl := hs rfl
    simp only [trange2, Option.bind_some]
    refine Ev.ifp trivial (Ev.step (fun k => ?_) (tcheck_l0 l h (-1099511627776) 1099511627776 0 1000000 nm 2 2 true (by omega) (by omega) (by omega) (by omega) _ 0 (by omega) rfl))
    simp only [table_Check.j0]; rfl
theorem tfit2 (n : Int) (h1 : -1099511627776 ≤ n) (h2 : n ≤ 1099511627776) : unit_Fit.f 2 n = some (2, n) := by
  unfold unit_Fit.f unit_known.f
  rw [if_pos (by decide)]
  simp only [Option.bind_some]
  rw [if_pos (by decide), trange2]
  simp only [Option.bind_some]
  rw [tmx_max, tmn_min]
  congr 2; omega
theorem tfit_of (nm : ByteArray) (b : Int) (sl : Bool) (l : List S103) (n : Int) (h1 : -1099511627776 ≤ n) (h2 : n ≤ 1099511627776) : table_fit.f nm 2 b sl l n = some n := by
  unfold table_fit.f
  rw [tfit2 n h1 h2]; rfl
/-- the slices of an amount -/
def slv : List S103 → Int → List Int
  | [], _ => []
  | s :: [], n => [max 0 (n - s.f0)]
  | s :: t :: l, n => max 0 (min n t.f0 - s.f0) :: slv (t :: l) n
theorem slv_length (l : List S103) (n : Int) : (slv l n).length = l.length := by
  induction l with
  | nil => rfl
  | cons s l ih =>
    cases l with
    | nil => rfl
    | cons t l => rw [slv, List.length_cons, ih]; rfl
theorem set_pre (pre : List Int) (m : Nat) (v : Int) : (pre ++ List.replicate (m + 1) 0).set pre.length v = (pre ++ [v]) ++ List.replicate m 0 := by
  rw [List.set_append_right _ _ (Nat.le_refl _), Nat.sub_self, List.replicate_succ, List.set_cons_zero, List.append_assoc]; rfl
theorem slices_l0 (l : List S103) (h : TabOK l) (nm : ByteArray) (a b : Int) (sl : Bool) (x : Int) (hx1 : -1099511627776 ≤ x) (hx2 : x ≤ 1099511627776) (n : Nat) :
    ∀ (i : Nat) (pre : List Int), pre.length = i → i ≤ l.length → l.length - i = n →
    Ev (fun k => table_slices.l0 k x (pre ++ List.replicate n 0) l (l.length : Int) (i : Int) nm a b sl l) (pre ++ slv (l.drop i) x) := by
  induction n with
  | zero =>
    intro i pre hp hi hn
    obtain rfl : i = l.length := by omega
    rw [List.drop_length, slv, List.replicate_zero]
    refine Ev.step (f := fun _ => some (pre ++ [])) (fun k => ?_) (Ev.now _)
    simp only [table_slices.l0]
    rw [if_neg (by omega)]
  | succ n ih =>
    intro i pre hp hi hn
    have hlt : i < l.length := by omega
    have hl := h.len
    obtain ⟨o1, o2, _, _⟩ := h.at i hlt
    have hlen : (pre ++ List.replicate (n + 1) (0 : Int)).length = l.length := by rw [List.length_append, List.length_replicate]; omega
    by_cases h1 : i + 1 < l.length
    · obtain ⟨q1, q2, _, _⟩ := h.at (i + 1) h1
      have ih' := ih (i + 1) (pre ++ [max 0 (min x (rd_T103 l ((i + 1 : Nat) : Int)).f0 - (rd_T103 l (i : Int)).f0)]) (by simp [hp]) (by omega) (by omega)
      rw [drop_step l i hlt, drop_step l (i + 1) h1, slv, ← drop_step l (i + 1) h1]
      rw [List.append_assoc, List.append_assoc, List.singleton_append, List.singleton_append] at ih'
      refine Ev.step (fun k => ?_) ih'
      simp only [table_slices.l0]
      rw [if_pos (by omega), if_pos (by omega), if_pos (by omega), w64_succ hlt (by omega), if_pos (by omega), if_pos (by omega), if_pos (by rw [hlen]; omega), tmx_max, tmn_min, w64 (by omega) (by omega), Int.toNat_natCast, ← hp, set_pre, List.append_assoc, List.singleton_append]
    · have ih' := ih (i + 1) (pre ++ [max 0 (x - (rd_T103 l (i : Int)).f0)]) (by simp [hp]) (by omega) (by omega)
      obtain rfl : n = 0 := by omega
      rw [drop_step l i hlt]
      rw [show l.drop (i + 1) = [] from List.drop_eq_nil_of_le (by omega), slv, List.append_nil] at ih'
      rw [show l.drop (i + 1) = [] from List.drop_eq_nil_of_le (by omega), slv]
      refine Ev.step (fun k => ?_) ih'
      simp only [table_slices.l0]
      rw [if_pos (by omega), if_pos (by omega), if_pos (by omega), w64_succ hlt (by omega), if_neg (by omega), if_pos (by rw [hlen]; omega), tmx_max, w64 (by omega) (by omega), Int.toNat_natCast, ← hp, set_pre]
theorem slices_of {l : List S103} (h : TabOK l) (nm : ByteArray) (a b : Int) (sl : Bool) (x : Int) (hx1 : -1099511627776 ≤ x) (hx2 : x ≤ 1099511627776) : Ev (fun k => table_slices.f k nm a b sl l x) (slv l x) := by
  have hl := h.len
  simp only [table_slices.f]
  refine Ev.ifp (by omega) (Ev.ifp (by omega) ?_)
  have := slices_l0 l h nm a b sl x hx1 hx2 _ 0 [] rfl (by omega) rfl
  simpa only [List.nil_append, List.drop_zero, Nat.sub_zero, Int.toNat_natCast, Int.ofNat_zero, Int.natCast_zero] using this
/-- the slices are what of an amount is above the first step -/
theorem slv_sum (l : List S103) (s : S103) (h : (s :: l).Pairwise fun a b => a.f0 < b.f0) (n : Int) : (slv (s :: l) n).sum = max 0 (n - s.f0) := by
  induction l generalizing s with
  | nil => simp [slv]
  | cons t l ih =>
    have h' := List.pairwise_cons.1 h
    have hst := h'.1 t (by simp)
    rw [slv, List.sum_cons, ih t h'.2]
    omega
theorem slv_pos (l : List S103) (n : Int) : ∀ x ∈ slv l n, 0 ≤ x := by
  induction l with
  | nil => intro x hx; simp [slv] at hx
  | cons s l ih =>
    cases l with
    | nil => intro x hx; simp [slv] at hx; omega
    | cons t l =>
      intro x hx
      rw [slv] at hx
      rcases List.mem_cons.1 hx with rfl | hx
      · omega
      · exact ih x hx
/-- what the slices are worth -/
def dot : List Int → List S103 → Int
  | x :: xs, s :: ss => x * s.f1 + dot xs ss
  | _, _ => 0
theorem dot_range (xs : List Int) (l : List S103) (hx : ∀ x ∈ xs, 0 ≤ x) (hl : ∀ s ∈ l, 0 ≤ s.f1 ∧ s.f1 ≤ 1000000) : 0 ≤ dot xs l ∧ dot xs l ≤ 1000000 * xs.sum := by
  induction xs generalizing l with
  | nil => simp [dot]
  | cons x xs ih =>
    have hx0 := hx x (by simp)
    have hsum : 0 ≤ xs.sum := by
      clear ih
      induction xs with
      | nil => simp
      | cons y ys ih' =>
        rw [List.sum_cons]
        have := hx y (by simp)
        have := ih' (fun z hz => hx z (by
          rcases List.mem_cons.1 hz with rfl | hz
          · simp
          · simp [hz]))
        omega
    cases l with
    | nil => rw [show dot (x :: xs) [] = 0 from rfl, List.sum_cons]; omega
    | cons s l =>
      have hs := hl s (by simp)
      have := ih l (fun z hz => hx z (by simp [hz])) (fun z hz => hl z (by simp [hz]))
      have m1 := Int.mul_nonneg hx0 hs.1
      have m2 := Int.mul_le_mul_of_nonneg_left hs.2 hx0
      rw [dot, List.sum_cons]
      omega
theorem dot_mono (l : List S103) (hl : ∀ s ∈ l, 0 ≤ s.f1) (a b : Int) (hab : a ≤ b) : dot (slv l a) l ≤ dot (slv l b) l := by
  induction l with
  | nil => simp [dot]
  | cons s l ih =>
    have hs := hl s (by simp)
    cases l with
    | nil =>
      simp only [slv, dot]
      have := Int.mul_le_mul_of_nonneg_right (show max 0 (a - s.f0) ≤ max 0 (b - s.f0) by omega) hs
      omega
    | cons t l =>
      have := ih (fun z hz => hl z (by simp [hz]))
      have := Int.mul_le_mul_of_nonneg_right (show max 0 (min a t.f0 - s.f0) ≤ max 0 (min b t.f0 - s.f0) by omega) hs
      rw [slv, slv, dot, dot]
      omega
theorem u64w {x : Int} (h0 : 0 ≤ x) (h1 : x < 18446744073709551616) : IntKind.u64.wrap x = x := by change x % 18446744073709551616 = x; omega
theorem uand (x : Int) (h0 : 0 ≤ x) (h1 : x < 18446744073709551616) : Go.bits .and .u64 x 4294967295 = x % 4294967296 :=
  Go.bits_mask .u64 64 (by decide) (fun n h0 h1 => u64w h0 (by simpa using h1)) 32 (by decide) x h0 (by simpa using h1)
theorem mul64_of (a b : Int) (ha0 : 0 ≤ a) (ha : a ≤ 2199023255552) (hb0 : 0 ≤ b) (hb : b ≤ 1000000) : bits_Mul64.f a b = some (0, a * b) := by
  obtain ⟨ah, hah⟩ : ∃ x, x = a / 4294967296 := ⟨_, rfl⟩
  obtain ⟨al, hal⟩ : ∃ x, x = a % 4294967296 := ⟨_, rfl⟩
  obtain ⟨p, hp⟩ : ∃ x, x = ah * b := ⟨_, rfl⟩
  obtain ⟨q, hq⟩ : ∃ x, x = al * b := ⟨_, rfl⟩
  have e1 : a * b = p * 4294967296 + q := by
    rw [hp, hq, show a = ah * 4294967296 + al by omega, Int.add_mul, Int.mul_right_comm]
  have p0 : 0 ≤ p := by rw [hp]; exact Int.mul_nonneg (by omega) hb0
  have q0 : 0 ≤ q := by rw [hq]; exact Int.mul_nonneg (by omega) hb0
  have p1 : p ≤ 512 * 1000000 := by rw [hp]; exact Int.mul_le_mul (by omega) hb hb0 (by omega)
  have q1 : q ≤ 4294967295 * 1000000 := by rw [hq]; exact Int.mul_le_mul (by omega) hb hb0 (by omega)
  unfold bits_Mul64.f
  rw [uand a ha0 (by omega), uand b hb0 (by omega), ← hah, ← hal, show b / 4294967296 = 0 by omega, show b % 4294967296 = b by omega, ← hp, ← hq, Int.mul_zero, Int.mul_zero,
    u64w (x := 0) (by omega) (by omega), u64w p0 (by omega), u64w q0 (by omega), u64w (x := p + q / 4294967296) (by omega) (by omega), uand _ (by omega) (by omega), u64w (x := 0 + _) (by omega) (by omega), u64w (x := (p + q / 4294967296) % 4294967296 + 0) (by omega) (by omega), u64w (by omega) (by omega), u64w (x := a * b) (by omega) (by omega)]
  congr 2; omega
theorem add64_of (a b : Int) (ha : 0 ≤ a) (hb : 0 ≤ b) (h : a + b < 18446744073709551616) : bits_Add64.f a b 0 = some (a + b, 0) := by
  unfold bits_Add64.f
  rw [if_pos ⟨ha, hb, rfl⟩]
  congr 2 <;> omega
theorem div64_of (a : Int) (ha : 0 ≤ a) (h : a < 18446744073709551616) : bits_Div64.f 0 a 1000000 = some (a / 1000000, a % 1000000) := by
  unfold bits_Div64.f
  rw [if_pos ⟨rfl, ha, h, by omega, by omega⟩]
theorem drop_rdi (l : List Int) (i : Nat) (h : i < l.length) : l.drop i = rd l (i : Int) :: l.drop (i + 1) := by
  rw [List.drop_eq_getElem_cons h]
  unfold rd
  simp [List.getD, h]
theorem rdi_mem (l : List Int) (i : Nat) (h : i < l.length) : rd l (i : Int) ∈ l := by
  have := List.getElem_mem h
  unfold rd
  simp [List.getD, h]
theorem tsum_l1 (l : List S103) (h : TabOK l) (nm : ByteArray) (sl : Bool) (xs : List Int) (hx : ∀ x ∈ xs, 0 ≤ x ∧ x ≤ 2199023255552) (hlen : xs.length = l.length) (n : Nat) :
    ∀ (i : Nat) (acc : Int), i ≤ l.length → l.length - i = n → 0 ≤ acc → acc + dot (xs.drop i) (l.drop i) ≤ 1099511627776999999 →
    Ev (fun k => table_At.l1 k 0 acc xs (xs.length : Int) (i : Int) nm 2 2 sl l) ((acc + dot (xs.drop i) (l.drop i)) / 1000000) := by
  induction n with
  | zero =>
    intro i acc hi hn h0 h1
    obtain rfl : i = l.length := by omega
    rw [List.drop_length] at h1 ⊢
    rw [show dot (xs.drop l.length) [] = 0 from by cases xs.drop l.length <;> rfl] at h1 ⊢
    refine Ev.step (f := fun _ => some ((acc + 0) / 1000000)) (fun k => ?_) (Ev.now _)
    simp only [table_At.l1]
    rw [if_neg (by omega), div64_of acc h0 (by omega)]
    simp only [Option.bind_some]
    rw [w64 (by omega) (by omega), tfit2 _ (by omega) (by omega)]
    simp only [Option.bind_some]
    rw [Int.add_zero]
  | succ n ih =>
    intro i acc hi hn h0 h1
    have hlt : i < l.length := by omega
    have hlt' : i < xs.length := by omega
    have hl := h.len
    obtain ⟨_, _, o3, o4⟩ := h.at i hlt
    have hxi := hx _ (rdi_mem xs i hlt')
    have hr := (dot_range (xs.drop (i + 1)) (l.drop (i + 1)) (fun x hm => (hx x (List.mem_of_mem_drop hm)).1) (fun s hm => (h.mem s (List.mem_of_mem_drop hm)).2.2)).1
    rw [drop_step l i hlt, drop_rdi xs i hlt', dot] at h1 ⊢
    have hm := Int.mul_nonneg hxi.1 o3
    have ih' := ih (i + 1) (acc + rd xs (i : Int) * (rd_T103 l (i : Int)).f1) (by omega) (by omega) (by omega) (by omega)
    rw [← Int.add_assoc]
    refine Ev.step (fun k => ?_) ih'
    simp only [table_At.l1]
    rw [if_pos (by omega), if_pos (by omega), if_pos (by omega), if_pos (by omega), u64w (x := rd xs (i : Int)) (by omega) (by omega), u64w (x := (rd_T103 l (i : Int)).f1) (by omega) (by omega), mul64_of _ _ hxi.1 hxi.2 o3 o4]
    simp only [Option.bind_some]
    rw [add64_of _ _ h0 hm (by omega)]
    simp only [Option.bind_some]
    rw [w64_succ hlt (by omega)]
    rfl
/-- the value of a table without slices -/
def atn : List S103 → Int → Int → Int
  | [], _, v => v
  | s :: l, x, v => atn l x (if s.f0 ≤ x then s.f1 else v)
theorem tat_l0 (l : List S103) (hl : l.length ≤ 20) (x : Int) (n : Nat) : ∀ (i : Nat) (v : Int), i ≤ l.length → l.length - i = n → Ev (fun k => table_At.l0 k x v l (l.length : Int) (i : Int)) (atn (l.drop i) x v) := by
  induction n with
  | zero =>
    intro i v hi hn
    obtain rfl : i = l.length := by omega
    rw [List.drop_length, atn]
    refine Ev.step (f := fun _ => some v) (fun k => ?_) (Ev.now _)
    simp only [table_At.l0]
    rw [if_neg (by omega)]
  | succ n ih =>
    intro i v hi hn
    have hlt : i < l.length := by omega
    rw [drop_step l i hlt, atn]
    refine Ev.step (fun k => ?_) (ih (i + 1) _ (by omega) (by omega))
    simp only [table_At.l0]
    rw [if_pos (by omega), if_pos (by omega), if_pos (by omega), w64_succ hlt (by omega)]
    split <;> rfl
/-- the value of a table -/
def tv (sl : Bool) (l : List S103) (x : Int) : Int := if sl = true then (500000 + dot (slv l x) l) / 1000000 else atn l x 0
theorem slv_all {l : List S103} (h : TabOK l) (x : Int) (hx2 : x ≤ 1099511627776) : (slv l x).sum = max 0 (x - (rd_T103 l 0).f0) ∧ (∀ y ∈ slv l x, 0 ≤ y ∧ y ≤ 2199023255552) ∧ 0 ≤ dot (slv l x) l ∧ dot (slv l x) l ≤ 1000000 * max 0 (x - (rd_T103 l 0).f0) := by
  cases l with
  | nil => have := h.pos; simp at this
  | cons s l =>
    have e0 : rd_T103 (s :: l) 0 = s := rfl
    have hs := slv_sum l s h.inc x
    have hm := h.mem s (by simp)
    have hp := slv_pos (s :: l) x
    have hd := dot_range (slv (s :: l) x) (s :: l) hp (fun t ht => (h.mem t ht).2.2)
    rw [e0]
    refine ⟨hs, fun y hy => ⟨hp y hy, ?_⟩, hd.1, by rw [← hs]; exact hd.2⟩
    have : ∀ (xs : List Int), (∀ z ∈ xs, 0 ≤ z) → ∀ y ∈ xs, y ≤ xs.sum := by
      intro xs
      induction xs with
      | nil => intro _ y hy; simp at hy
      | cons z zs ih =>
        intro hz y hy
        have hz0 := hz z (by simp)
        have hzs : 0 ≤ zs.sum := by
          have hz' : ∀ w ∈ zs, 0 ≤ w := fun w hw => hz w (by simp [hw])
          clear ih hz hz0 hy
          induction zs with
          | nil => simp
          | cons w ws ih' =>
            rw [List.sum_cons]
            have := hz' w (by simp)
            have := ih' (fun v hv => hz' v (by simp [hv]))
            omega
        rw [List.sum_cons]
        rcases List.mem_cons.1 hy with rfl | hy
        · omega
        · have := ih (fun w hw => hz w (by simp [hw])) y hy
          omega
    have := this _ hp y hy
    omega
theorem tat_of {l : List S103} (h : TabOK l) (nm : ByteArray) (hn : nameOk nm = true) (b : Int) (sl : Bool) (hb : b = 2 ∨ b = 5 ∨ b = 6) (hs : sl = true → b = 2) (x : Int) (hx1 : -1099511627776 ≤ x) (hx2 : x ≤ 1099511627776) : Ev (fun k => table_At.f k nm 2 b sl l x) (tv sl l x) := by
  have hl := h.len
  simp only [table_At.f]
  refine Ev.bind (tcheck_of h nm hn b sl hb hs) (Ev.ifp rfl ?_)
  rw [tfit_of nm b sl l x hx1 hx2]
  simp only [Option.bind_some]
  cases sl
  · refine Ev.ifn (by decide) ?_
    exact tat_l0 l hl x _ 0 0 (by omega) rfl
  · obtain rfl := hs rfl
    refine Ev.ifp rfl (Ev.bind (slices_of h nm 2 2 true x hx1 hx2) ?_)
    have ha := slv_all h x hx2
    have hm := (h.at 0 h.pos).1
    have := tsum_l1 l h nm true (slv l x) ha.2.1 (slv_length l x) _ 0 500000 (by omega) rfl (by omega) (by
      simp only [List.drop_zero]
      have := ha.2.2.2
      simp only [Int.ofNat_zero] at hm
      omega)
    simpa only [List.drop_zero, Int.natCast_zero, tv, if_true] using this
def tabname : ByteArray := ⟨#[116, 97, 98, 108, 101, 45, 97]⟩
theorem tabname_ok : nameOk tabname = true := by decide +kernel
/-- what `table` has made so far: the next step is at `t` -/
structure TabSo (l : List S103) (t : Int) (i : Nat) : Prop where
  len : l.length = i
  t0 : 0 ≤ t
  t1 : t ≤ 2000 + 60000 * i
  mem : ∀ s ∈ l, 0 ≤ s.f0 ∧ s.f0 ≤ 400000 ∧ 0 ≤ s.f1 ∧ s.f1 ≤ 1000000 ∧ s.f0 < t
  inc : l.Pairwise fun a b => a.f0 < b.f0
theorem TabSo.next {l : List S103} {t : Int} {i : Nat} (h : TabSo l t i) (hi : i < 6) {v u : Int} (hv0 : 0 ≤ v) (hv : v ≤ 1000000) (hu0 : 0 ≤ u) (hu : u < 60000) : TabSo (l ++ [(⟨t, v⟩ : S103)]) (t + (1 + u)) (i + 1) := by
  obtain ⟨hl, h0, h1, hm, hp⟩ := h
  refine ⟨by simp [hl], by omega, by omega, ?_, ?_⟩
  · intro s hs
    rcases List.mem_append.1 hs with hs | hs
    · have := hm s hs
      exact ⟨this.1, this.2.1, this.2.2.1, this.2.2.2.1, by omega⟩
    · obtain rfl := List.mem_singleton.1 hs
      exact ⟨h0, by show t ≤ 400000; omega, hv0, hv, by show t < t + (1 + u); omega⟩
  · refine List.pairwise_append.2 ⟨hp, List.pairwise_singleton _ _, ?_⟩
    intro a ha c hc
    obtain rfl := List.mem_singleton.1 hc
    exact (hm a ha).2.2.2.2
theorem table_l0 (nm : ByteArray) (tk : Int) (sl : Bool) (m : Int) (hm : m ≤ 5) (n : Nat) : ∀ (i : Nat) (t : Int) (st : List Int) (l : List S103), (i : Int) ≤ m → (m - i).toNat = n → TabSo l t i →
    ∃ c st' t', Ev (fun k => mootmake_table.l0 k t m (i : Int) st nm 2 tk sl l) (nm, 2, tk, sl, c, st') ∧ TabSo c t' m.toNat := by
  induction n with
  | zero =>
    intro i t st l hi hn hM
    obtain rfl : m = (i : Int) := by omega
    refine ⟨l, st, t, Ev.step (f := fun _ => some (nm, 2, tk, sl, l, st)) (fun k => ?_) (Ev.now _), hM⟩
    simp only [mootmake_table.l0]
    rw [if_neg (by omega)]
  | succ n ih =>
    intro i t st l hi hn hM
    have hl := hM.len; have h0 := hM.t0; have h1 := hM.t1
    obtain ⟨v, s1, e1, v0, v1⟩ := next_of st 21 (by omega) (by omega)
    obtain ⟨w, s2, e2, w0, w1⟩ := next_of s1 100 (by omega) (by omega)
    obtain ⟨u, s3, e3, u0, u1⟩ := next_of s2 60000 (by omega) (by omega)
    obtain ⟨u', s3', e3', u0', u1'⟩ := next_of s1 60000 (by omega) (by omega)
    obtain ⟨ca, sa, ta, ea, ma⟩ := ih (i + 1) _ s3 _ (by omega) (by omega) (hM.next (by omega) (v := w * 500) (u := u) (by omega) (by omega) u0 u1)
    obtain ⟨cb, sb, tb, eb, mb⟩ := ih (i + 1) _ s3' _ (by omega) (by omega) (hM.next (by omega) (v := v * 50000) (u := u') (by omega) (by omega) u0' u1')
    have ja : Ev (fun k => mootmake_table.j2 k t (v * 50000) m (i : Int) true s1 nm 2 tk sl l) (nm, 2, tk, sl, ca, sa) := by
      refine Ev.step (fun k => ?_) ea
      simp only [mootmake_table.j2]
      rw [if_pos trivial, e2]
      simp only [Option.bind_some]
      rw [if_pos (by omega), e3]
      simp only [Option.bind_some]
      rw [w64 (x := 1 + u) (by omega) (by omega), w64 (x := t + (1 + u)) (by omega) (by omega), w64 (x := w * 500) (by omega) (by omega), w64 (x := (i : Int) + 1) (by omega) (by omega), show (i : Int) + 1 = ((i + 1 : Nat) : Int) from by omega]
    have jb : Ev (fun k => mootmake_table.j2 k t (v * 50000) m (i : Int) false s1 nm 2 tk sl l) (nm, 2, tk, sl, cb, sb) := by
      refine Ev.step (fun k => ?_) eb
      simp only [mootmake_table.j2]
      rw [if_neg (by decide), if_pos (by omega), e3']
      simp only [Option.bind_some]
      rw [w64 (x := 1 + u') (by omega) (by omega), w64 (x := t + (1 + u')) (by omega) (by omega), w64 (x := (i : Int) + 1) (by omega) (by omega), show (i : Int) + 1 = ((i + 1 : Nat) : Int) from by omega]
    have hl0 : ∀ (z : Bool), z = (if tk = 2 then !sl else false) → ∀ k, mootmake_table.l0 (k + 1) t m (i : Int) st nm 2 tk sl l = mootmake_table.j2 k t (v * 50000) m (i : Int) z s1 nm 2 tk sl l := by
      rintro z rfl k
      simp only [mootmake_table.l0]
      rw [if_pos (by omega), e1]
      simp only [Option.bind_some]
      rw [w64 (x := v * 50000) (by omega) (by omega)]
      split <;> rfl
    by_cases hz : (if tk = 2 then !sl else false) = true
    · exact ⟨ca, sa, ta, Ev.step (hl0 true hz.symm) ja, ma⟩
    · exact ⟨cb, sb, tb, Ev.step (hl0 false ((Bool.not_eq_true _).mp hz).symm) jb, mb⟩
theorem table_j0 (nm : ByteArray) (tk : Int) (sl : Bool) (st : List Int) : ∃ c st', Ev (fun k => mootmake_table.j0 k st nm 2 tk sl) (nm, 2, tk, sl, c, st') ∧ TabOK c := by
  obtain ⟨a, s1, e1, a0, a1⟩ := next_of st 3 (by omega) (by omega)
  obtain ⟨m, s2, e2, m0, m1⟩ := next_of s1 5 (by omega) (by omega)
  obtain ⟨c, s3, t', hc, hM⟩ := table_l0 nm tk sl (1 + m) (by omega) _ 0 (a * 1000) s2 [] (by omega) rfl ⟨rfl, by omega, by omega, fun s h => by simp at h, List.Pairwise.nil⟩
  refine ⟨c, s3, Ev.step (fun k => ?_) hc, ⟨?_, ?_, fun s hs => ?_, hM.inc⟩⟩
  · simp only [mootmake_table.j0]
    rw [e1]
    simp only [Option.bind_some]
    rw [e2]
    simp only [Option.bind_some]
    rw [w64 (x := a * 1000) (by omega) (by omega), w64 (x := 1 + m) (by omega) (by omega)]; rfl
  · rw [hM.len]; omega
  · rw [hM.len]; omega
  · have := hM.mem s hs
    exact ⟨this.1, this.2.1, this.2.2.1, this.2.2.2.1⟩
theorem table_of (l0 : List Int) : ∃ tk sl l, Ev (fun k => mootmake_Table.f k l0) (tabname, 2, tk, sl, l) ∧ TabOK l ∧ (tk = 2 ∨ tk = 5 ∨ tk = 6) ∧ (sl = true → tk = 2) := by
  obtain ⟨i, s1, e1, i0, i1⟩ := next_of l0 3 (by omega) (by omega)
  obtain ⟨z, s2, e2, z0, z1⟩ := next_of s1 2 (by omega) (by omega)
  obtain ⟨ca, sa, ea, ma⟩ := table_j0 tabname 2 (z == 1) s2
  obtain ⟨cb, sb, eb, mb⟩ := table_j0 tabname 6 false s1
  have hT : ∀ (tk : Int) (sl : Bool) (c : List S103) (st : List Int), Ev (fun k => mootmake_table.f k tabname l0) (tabname, 2, tk, sl, c, st) → Ev (fun k => mootmake_Table.f k l0) (tabname, 2, tk, sl, c) := by
    intro tk sl c st h
    simp only [mootmake_Table.f]
    exact Ev.bind h (Ev.now _)
  have hi : i = 0 ∨ i = 1 ∨ i = 2 := by omega
  rcases hi with rfl | rfl | rfl
  · refine ⟨2, z == 1, ca, hT _ _ _ sa ?_, ma, .inl rfl, fun _ => rfl⟩
    simp only [mootmake_table.f, Option.bind_some, e1]
    refine Ev.ifp (by omega) (Ev.ifp (by decide) (Ev.ifp rfl ?_))
    simp only [e2, Option.bind_some]
    exact ea
  · refine ⟨6, false, cb, hT _ _ _ sb ?_, mb, .inr (.inr rfl), fun h => absurd h (by decide)⟩
    simp only [mootmake_table.f, Option.bind_some, e1]
    exact Ev.ifp (by omega) (Ev.ifp (by decide) (Ev.ifn (by decide) eb))
  · refine ⟨2, z == 1, ca, hT _ _ _ sa ?_, ma, .inl rfl, fun _ => rfl⟩
    simp only [mootmake_table.f, Option.bind_some, e1]
    refine Ev.ifp (by omega) (Ev.ifp (by decide) (Ev.ifp rfl ?_))
    simp only [e2, Option.bind_some]
    exact ea
theorem down_of (n m : Int) (h0 : -1099511627776 ≤ n) (h1 : n ≤ 1099511627776) (m0 : 1 ≤ m) (m1 : m ≤ 1099511627776) : cash_down.f n m = some (n / m) := by
  have e := Int.mul_ediv_add_emod n m
  have r0 := Int.emod_nonneg n (show m ≠ 0 by omega)
  have r1 := Int.emod_lt_of_pos n (show 0 < m by omega)
  have q0 : -1099511627776 ≤ n / m ∧ n / m ≤ 1099511627776 := by
    constructor
    · refine Int.not_lt.1 fun hl => ?_
      have : m * (n / m) ≤ m * (-1099511627777) := Int.mul_le_mul_of_nonneg_left (by omega) (by omega)
      have : m * (-1099511627777) ≤ 1 * (-1099511627777) := Int.mul_le_mul_of_nonpos_right m0 (by omega)
      omega
    · refine Int.not_lt.1 fun hl => ?_
      have : m * 1099511627777 ≤ m * (n / m) := Int.mul_le_mul_of_nonneg_left (by omega) (by omega)
      have : 1 * 1099511627777 ≤ m * 1099511627777 := Int.mul_le_mul_of_nonneg_right m0 (by omega)
      omega
  unfold cash_down.f
  rw [if_neg (by omega), Int.tdiv_eq_ediv]
  by_cases hc : 0 ≤ n ∨ m ∣ n
  · rw [if_pos hc, Int.add_zero, w64 (x := n / m) (by omega) (by omega), Int.mul_comm, w64 (x := m * (n / m)) (by omega) (by omega), if_neg (by omega)]
  · have hs : m.sign = 1 := Int.sign_eq_one_of_pos (by omega)
    have hr : n % m ≠ 0 := fun e => hc (.inr (Int.dvd_of_emod_eq_zero e))
    rw [if_neg hc, hs, w64 (x := n / m + 1) (by omega) (by omega), Int.add_mul, Int.mul_comm, Int.one_mul, w64 (x := m * (n / m) + m) (by omega) (by omega), if_pos (by omega), w64 (by omega) (by omega)]
    congr 1
    omega
theorem round_of (n way m : Int) (h0 : -1099511627776 ≤ n) (h1 : n ≤ 1099511627776) (m0 : 1 ≤ m) (m1 : m ≤ 1099511627776) (y0 : 0 ≤ way) (y1 : way < 5) :
    ∃ u : Int, (u = 0 ∨ u = 1) ∧ Ev (fun k => cash_Round.f k n way m) ((n / m + u) * m, 0) ∧ (u = 1 → 0 < n % m) ∧ (way = 0 → u = 0) ∧ (way = 1 → u = 0 → n % m = 0) ∧ (way ≥ 2 → (u = 1 → 2 * (n % m) ≥ m) ∧ (u = 0 → 2 * (n % m) ≤ m)) := by
  have e := Int.mul_ediv_add_emod n m
  have r0 := Int.emod_nonneg n (show m ≠ 0 by omega)
  have r1 := Int.emod_lt_of_pos n (show 0 < m by omega)
  have q0 : -1099511627777 ≤ n / m ∧ n / m ≤ 1099511627777 := by
    have hd := down_of n m h0 h1 m0 m1
    constructor
    · refine Int.not_lt.1 fun hl => ?_
      have : m * (n / m) ≤ m * (-1099511627777) := Int.mul_le_mul_of_nonneg_left (by omega) (by omega)
      have : m * (-1099511627777) ≤ 1 * (-1099511627777) := Int.mul_le_mul_of_nonpos_right m0 (by omega)
      omega
    · refine Int.not_lt.1 fun hl => ?_
      have : m * 1099511627777 ≤ m * (n / m) := Int.mul_le_mul_of_nonneg_left (by omega) (by omega)
      have : 1 * 1099511627777 ≤ m * 1099511627777 := Int.mul_le_mul_of_nonneg_right m0 (by omega)
      omega
  have hL : cash_large.f n = some false := by
    unfold cash_large.f
    rw [if_neg (by omega), decide_eq_false (by omega)]
  have w0 : wrap64 (n / m * m) = n / m * m := by rw [Int.mul_comm]; exact w64 (by omega) (by omega)
  have w1 : wrap64 (wrap64 (n / m + 1) * m) = (n / m + 1) * m := by
    rw [w64 (x := n / m + 1) (by omega) (by omega), Int.add_mul, Int.mul_comm, Int.one_mul]
    exact w64 (by omega) (by omega)
  have w2 : wrap64 (n - n / m * m) = n % m := by rw [Int.mul_comm, w64 (by omega) (by omega)]; omega
  have w3 : wrap64 (2 * (n % m)) = 2 * (n % m) := w64 (by omega) (by omega)
  have main : ∀ (u : Int) (b : Int × Int), b = ((n / m + u) * m, 0) → (∀ k, cash_Round.j0 (k + 1) n way m (decide (m > 1099511627776)) = some b) → Ev (fun k => cash_Round.f k n way m) ((n / m + u) * m, 0) := by
    intro u b hb hj
    subst hb
    simp only [cash_Round.f]
    exact Ev.ifn (by omega) (Ev.ifn (by omega) (Ev.ifn (by omega) (Ev.step hj (Ev.now _))))
  have hz : ((n / m + 0) * m, (0 : Int)) = (n / m * m, 0) := by rw [Int.add_zero]
  have start : ∀ k, cash_Round.j0 (k + 1) n way m (decide (m > 1099511627776)) = (if way = 1 then (if n % m > 0 then some ((n / m + 1) * m, 0) else some (n / m * m, 0)) else (if way = 2 then (if 2 * (n % m) ≥ m then some ((n / m + 1) * m, 0) else some (n / m * m, 0)) else (if way = 3 then (if 2 * (n % m) > m then some ((n / m + 1) * m, 0) else (if 2 * (n % m) = m then (if n > 0 then some ((n / m + 1) * m, 0) else some (n / m * m, 0)) else some (n / m * m, 0))) else (if way = 4 then (if 2 * (n % m) > m then some ((n / m + 1) * m, 0) else (if 2 * (n % m) = m then (if Int.tmod (n / m) 2 = 0 then some (n / m * m, 0) else some ((n / m + 1) * m, 0)) else some (n / m * m, 0))) else some (n / m * m, 0))))) := by
    intro k
    simp only [cash_Round.j0]
    rw [decide_eq_false (by omega), if_neg (by decide), hL]
    simp only [Option.bind_some]
    rw [if_neg (by decide), down_of n m h0 h1 m0 m1]
    simp only [Option.bind_some]
    rw [w0, w1, w2, w3]
  have up : (∀ k, cash_Round.j0 (k + 1) n way m (decide (m > 1099511627776)) = some ((n / m + 1) * m, 0)) → Ev (fun k => cash_Round.f k n way m) ((n / m + 1) * m, 0) := fun h => main 1 _ rfl h
  have dn : (∀ k, cash_Round.j0 (k + 1) n way m (decide (m > 1099511627776)) = some (n / m * m, 0)) → Ev (fun k => cash_Round.f k n way m) ((n / m + 0) * m, 0) := fun h => main 0 _ hz.symm h
  by_cases c1 : way = 1
  · by_cases c : n % m > 0
    · exact ⟨1, .inr rfl, up (fun k => by rw [start, if_pos c1, if_pos c]), fun _ => c, fun h => by omega, fun _ h => by omega, fun h => by omega⟩
    · exact ⟨0, .inl rfl, dn (fun k => by rw [start, if_pos c1, if_neg c]), fun h => by omega, fun h => rfl, fun _ h => by omega, fun h => by omega⟩
  · by_cases c2 : way = 2
    · by_cases c : 2 * (n % m) ≥ m
      · exact ⟨1, .inr rfl, up (fun k => by rw [start, if_neg c1, if_pos c2, if_pos c]), fun _ => by omega, fun h => by omega, fun h => absurd h c1, fun _ => ⟨fun _ => c, fun h => by omega⟩⟩
      · exact ⟨0, .inl rfl, dn (fun k => by rw [start, if_neg c1, if_pos c2, if_neg c]), fun h => by omega, fun h => rfl, fun h => absurd h c1, fun _ => ⟨fun h => by omega, fun h => by omega⟩⟩
    · by_cases c3 : way = 3
      · by_cases c : 2 * (n % m) > m
        · exact ⟨1, .inr rfl, up (fun k => by rw [start, if_neg c1, if_neg c2, if_pos c3, if_pos c]), fun _ => by omega, fun h => by omega, fun h => absurd h c1, fun _ => ⟨fun _ => by omega, fun h => by omega⟩⟩
        · by_cases d : 2 * (n % m) = m
          · by_cases g : n > 0
            · exact ⟨1, .inr rfl, up (fun k => by rw [start, if_neg c1, if_neg c2, if_pos c3, if_neg c, if_pos d, if_pos g]), fun _ => by omega, fun h => by omega, fun h => absurd h c1, fun _ => ⟨fun _ => by omega, fun h => by omega⟩⟩
            · exact ⟨0, .inl rfl, dn (fun k => by rw [start, if_neg c1, if_neg c2, if_pos c3, if_neg c, if_pos d, if_neg g]), fun h => by omega, fun h => rfl, fun h => absurd h c1, fun _ => ⟨fun h => by omega, fun h => by omega⟩⟩
          · exact ⟨0, .inl rfl, dn (fun k => by rw [start, if_neg c1, if_neg c2, if_pos c3, if_neg c, if_neg d]), fun h => by omega, fun h => rfl, fun h => absurd h c1, fun _ => ⟨fun h => by omega, fun h => by omega⟩⟩
      · by_cases c4 : way = 4
        · by_cases c : 2 * (n % m) > m
          · exact ⟨1, .inr rfl, up (fun k => by rw [start, if_neg c1, if_neg c2, if_neg c3, if_pos c4, if_pos c]), fun _ => by omega, fun h => by omega, fun h => absurd h c1, fun _ => ⟨fun _ => by omega, fun h => by omega⟩⟩
          · by_cases d : 2 * (n % m) = m
            · by_cases g : Int.tmod (n / m) 2 = 0
              · exact ⟨0, .inl rfl, dn (fun k => by rw [start, if_neg c1, if_neg c2, if_neg c3, if_pos c4, if_neg c, if_pos d, if_pos g]), fun h => by omega, fun h => rfl, fun h => absurd h c1, fun _ => ⟨fun h => by omega, fun h => by omega⟩⟩
              · exact ⟨1, .inr rfl, up (fun k => by rw [start, if_neg c1, if_neg c2, if_neg c3, if_pos c4, if_neg c, if_pos d, if_neg g]), fun _ => by omega, fun h => by omega, fun h => absurd h c1, fun _ => ⟨fun _ => by omega, fun h => by omega⟩⟩
            · exact ⟨0, .inl rfl, dn (fun k => by rw [start, if_neg c1, if_neg c2, if_neg c3, if_pos c4, if_neg c, if_neg d]), fun h => by omega, fun h => rfl, fun h => absurd h c1, fun _ => ⟨fun h => by omega, fun h => by omega⟩⟩
        · exact ⟨0, .inl rfl, dn (fun k => by rw [start, if_neg c1, if_neg c2, if_neg c3, if_neg c4]), fun h => by omega, fun h => rfl, fun h => absurd h c1, fun h => by omega⟩
theorem ev_mono {α : Type} {g : Nat → Option α} (hm : ∀ k, LeO (g k) (g (k + 1))) (K : Nat) {r : α} (h : g K = some r) : Ev g r := by
  refine ⟨K, fun k hk => ?_⟩
  obtain ⟨j, rfl⟩ : ∃ j, k = K + j := ⟨k - K, by omega⟩
  induction j with
  | zero => exact h
  | succ j ih => exact hm (K + j) r (ih (by omega))
theorem ucheck2 {n : Int} (h1 : -268435456 ≤ n) (h2 : n ≤ 268435456) : unit_Check.f 2 n = some 0 := by
  unfold unit_Check.f unit_Range.f unit_known.f
  rw [if_neg (by decide), if_pos rfl, if_pos (by decide)]
  simp only [Option.bind_some]
  rw [if_pos (by decide), if_neg (by omega), if_neg (by omega)]
theorem okv2 {n : Int} (h1 : -268435456 ≤ n) (h2 : n ≤ 268435456) : okv 2 n := ⟨by omega, ucheck2 h1 h2⟩
theorem h6_of : Ev (fun k => moottop_h6told.f k) true := ev_mono moottop_h6told.mono 40 (by decide +kernel)
theorem fit0 : unit_Fit.f 0 0 = some (0, 0) := by decide
/-- a span of a course has on its days what it has -/
theorem atv_has {l : List S52} (h : Valid l) : ∀ t ∈ l, ∀ d, has t d → atv l d = (t.f2.f0, t.f2.f1) := by
  induction h with
  | nil => intro t ht; simp at ht
  | one s hs =>
    intro t ht d hd
    rw [List.mem_singleton.1 ht] at hd ⊢
    simp only [atv]
    rw [if_pos (show s.f0 ≤ d ∧ d < s.f1 from hd)]
  | snoc l p s hv hs hf ih =>
    intro t ht d hd
    rw [atv_snoc]
    by_cases he : ∃ u ∈ l ++ [p], has u d
    · rw [if_pos he]
      rcases List.mem_append.1 ht with ht | ht
      · exact ih t ht d hd
      · obtain ⟨u, hu, h1, h2⟩ := he
        rw [List.mem_singleton.1 ht] at hd
        have := hv.hi p (by simp) u hu
        have := hf.1; have := hd.1
        omega
    · rw [if_neg he]
      rcases List.mem_append.1 ht with ht | ht
      · exact absurd ⟨t, ht, hd⟩ he
      · rw [List.mem_singleton.1 ht] at hd ⊢
        rw [if_pos hd]
theorem sum_w64 {x : Int} {n : Nat} (h0 : 0 ≤ x) (h1 : x ≤ 1000100 * ((n + 1 : Nat) : Int)) (hn : n ≤ 130) : wrap64 x = x := w64 (by omega) (by omega)
structure Paid (c : List S52) (i : Nat) : Prop where
  len : c.length = i
  valid : Valid c
  val : ∀ t ∈ c, t.f2.f0 = 2 ∧ 0 ≤ t.f2.f1 ∧ t.f2.f1 ≤ 200000 ∧ t.f1 ≤ 20 * (i : Int)
  last : ∀ p, c.getLast? = some p → p.f2.f1 % 10 = (i : Int) - 1
theorem Paid.next {c : List S52} {i : Nat} (h : Paid c i) (hi : i < 6) {u v : Int} (hu0 : 0 ≤ u) (hu : u < 20) (hv0 : 0 ≤ v) (hv : v < 20000) : Paid (c ++ [(⟨20 * (i : Int), 20 * (i : Int) + 1 + u, (⟨2, 10 * v + (i : Int)⟩ : S50)⟩ : S52)]) (i + 1) := by
  have hok : okspan (⟨20 * (i : Int), 20 * (i : Int) + 1 + u, (⟨2, 10 * v + (i : Int)⟩ : S50)⟩ : S52) := ⟨by show 0 ≤ 20 * (i : Int); omega, by show 20 * (i : Int) < 20 * (i : Int) + 1 + u; omega, by show 20 * (i : Int) + 1 + u ≤ 1048576; omega, okv2 (by show -268435456 ≤ 10 * v + (i : Int); omega) (by show 10 * v + (i : Int) ≤ 268435456; omega)⟩
  refine ⟨by rw [List.length_append, h.len]; rfl, ?_, ?_, ?_⟩
  · rcases List.eq_nil_or_concat c with rfl | ⟨c', p, rfl⟩
    · exact Valid.one _ hok
    · have hpm := h.val p (by simp)
      have hpl := h.last p (by simp)
      have hvd := h.valid
      rw [List.concat_eq_append] at hvd ⊢
      refine Valid.snoc c' p _ hvd hok ⟨by show p.f1 ≤ 20 * (i : Int); omega, ?_⟩
      rintro ⟨_, _, e⟩
      have e' : 10 * v + (i : Int) = p.f2.f1 := e
      omega
  · intro t ht
    rcases List.mem_append.1 ht with ht | ht
    · have := h.val t ht; omega
    · rw [List.mem_singleton.1 ht]
      refine ⟨rfl, by show 0 ≤ 10 * v + (i : Int); omega, by show 10 * v + (i : Int) ≤ 200000; omega, by show 20 * (i : Int) + 1 + u ≤ 20 * ((i + 1 : Nat) : Int); omega⟩
  · intro p hp
    simp at hp
    subst hp
    show (10 * v + (i : Int)) % 10 = ((i + 1 : Nat) : Int) - 1
    omega
theorem tv_range {l : List S103} (h : TabOK l) (sl : Bool) {x : Int} (h0 : 0 ≤ x) (h1 : x ≤ 200000) : 0 ≤ tv sl l x ∧ tv sl l x ≤ 1000000 := by
  have hd := (slv_all h x (by omega)).2.2
  have hf := h.mem
  unfold tv
  split
  · have : max 0 (x - (rd_T103 l 0).f0) ≤ 200000 ∨ ¬ max 0 (x - (rd_T103 l 0).f0) ≤ 200000 := by omega
    have hz := h.at 0 h.pos
    simp only [Int.natCast_zero] at hz
    have h3 : max 0 (x - (rd_T103 l 0).f0) ≤ 200000 := by omega
    omega
  · have : ∀ (m : List S103) (u : Int), (∀ s ∈ m, 0 ≤ s.f1 ∧ s.f1 ≤ 1000000) → 0 ≤ u → u ≤ 1000000 → 0 ≤ atn m x u ∧ atn m x u ≤ 1000000 := by
      intro m
      induction m with
      | nil => intro u _ a b; exact ⟨a, b⟩
      | cons s m ih =>
        intro u hm a b
        have hs := hm s (by simp)
        simp only [atn]
        split
        · exact ih _ (fun t ht => hm t (by simp [ht])) hs.1 hs.2
        · exact ih _ (fun t ht => hm t (by simp [ht])) a b
    exact this l 0 (fun s hs => ⟨(hf s hs).2.2.1, (hf s hs).2.2.2⟩) (by omega) (by omega)
set_option maxHeartbeats 4000000 in
theorem TableCourses : moottop_TableCourses.Pure := by
  intro l0 l1 a2 a3
  intros
  obtain ⟨tk, sl, sp, htab, hT, hto, hsl⟩ := table_of l0
  have hw := below_range a2 5 (by omega)
  have hd := below_range a3 130 (by omega)
  obtain ⟨way, hway⟩ : ∃ x, x = a2 % 5 := ⟨_, rfl⟩
  obtain ⟨d, hdd⟩ : ∃ x, x = a3 % 130 := ⟨_, rfl⟩
  rw [← hway] at hw
  rw [← hdd] at hd
  obtain ⟨m, st, hm, m0, m1⟩ := next_of l1 6 (by omega) (by omega)
  -- what is paid of an amount of the table
  have hround : ∀ n : Int, ∃ q : Int, 0 ≤ n → n ≤ 1000000 → Ev (fun k => cash_Round.f k n way 100) (q, 0) ∧ 0 ≤ q ∧ q ≤ 1000100 := by
    intro n
    by_cases hn : 0 ≤ n ∧ n ≤ 1000000
    · obtain ⟨u, hu, hr, hu1, _⟩ := round_of n way 100 (by omega) (by omega) (by omega) (by omega) (by omega) (by omega)
      exact ⟨_, fun _ _ => ⟨hr, by omega, by omega⟩⟩
    · exact ⟨0, fun h1 h2 => absurd ⟨h1, h2⟩ hn⟩
  obtain ⟨P, hP⟩ : ∃ P : Int → Int, ∀ n : Int, 0 ≤ n → n ≤ 1000000 → Ev (fun k => cash_Round.f k n way 100) (P n, 0) ∧ 0 ≤ P n ∧ P n ≤ 1000100 := Classical.axiomOfChoice hround
  obtain ⟨G, hGdef⟩ : ∃ G : Int × Int → Int × Int, ∀ v, G v = if v.1 = 2 then (2, P (tv sl sp v.2)) else (0, 0) := ⟨_, fun _ => rfl⟩
  have hpay : ∀ v : Int × Int, (v = (0, 0) ∨ (v.1 = 2 ∧ 0 ≤ v.2 ∧ v.2 ≤ 200000)) → ∀ x y : Int, Ev (fun k => moottop_TableCourses_1.f k v.1 v.2 x y tabname 2 tk sl sp way) (G v) ∧ (G v = (0, 0) ∨ ((G v).1 = 2 ∧ 0 ≤ (G v).2 ∧ (G v).2 ≤ 1000100)) := by
    intro v hv x y
    rw [hGdef]
    simp only [moottop_TableCourses_1.f]
    rcases hv with rfl | ⟨h1, h2, h3⟩
    · exact ⟨Ev.ifn (by show ¬ ((0 : Int) = 2); omega) (Ev.now _), .inl rfl⟩
    · have hr := tv_range hT sl h2 h3
      have hp := hP _ hr.1 hr.2
      rw [if_pos h1]
      exact ⟨Ev.ifp h1 (Ev.bind (tat_of hT tabname tabname_ok tk sl hto hsl v.2 (by omega) (by omega)) (Ev.bind hp.1 (Ev.now _))), .inr ⟨rfl, hp.2.1, hp.2.2⟩⟩
  have hfit : ∀ v : Int × Int, (v = (0, 0) ∨ (v.1 = 2 ∧ 0 ≤ v.2 ∧ v.2 ≤ 1000100)) → unit_Fit.f v.1 v.2 = some v := by
    rintro ⟨v1, v2⟩ (h | ⟨h1, h2, h3⟩)
    · rw [h]; exact fit0
    · simp only at h1 h2 h3
      subst h1
      exact tfit2 v2 (by omega) (by omega)
  -- behind the spans
  have hmain : ∀ c : List S52, Paid c m.toNat → Ev (fun k => (course_Zip.f k 0 c ([] : List S52) tabname 2 tk sl sp way).bind fun bt317 => ((mootmake_Below.f a3 130).bind fun t321 => ((course_Sum.f k bt317.1 2 0 130).bind fun bt322 => (moottop_TableCourses.l1 k t321 c bt317.1 bt317.2 bt322.1 bt322.2 0 0 way tabname 2 tk sl sp)))) true := by
    intro c hc
    have hcl := hc.len
    have hcv : ∀ e, atv c e = (0, 0) ∨ ((atv c e).1 = 2 ∧ 0 ≤ (atv c e).2 ∧ (atv c e).2 ≤ 200000) := by
      intro e
      by_cases he : ∃ t ∈ c, has t e
      · obtain ⟨t, ht, hh⟩ := he
        rw [atv_has hc.valid t ht e hh]
        have := hc.val t ht
        exact .inr ⟨this.1, this.2.1, this.2.2.1⟩
      · exact .inl (atv_none c e (fun t ht hh => he ⟨t, ht, hh⟩))
    have hGz : G (0, 0) = (0, 0) := by rw [hGdef]; rfl
    have hG2 : ∀ e, G (atv c e) = (0, 0) ∨ ((G (atv c e)).1 = 2 ∧ 0 ≤ (G (atv c e)).2 ∧ (G (atv c e)).2 ≤ 1000100) := fun e => (hpay _ (hcv e) 0 0).2
    obtain ⟨z, hz, hzv, hzl, hza⟩ := zipt_of tabname 2 tk sl sp way (fun v _ => G v) c [] hc.valid Valid.nil (by omega) (by simp) (fun e => by
      refine Ev.bind (hpay _ (hcv e) _ _).1 ?_
      rw [hfit _ (hG2 e)]
      exact Ev.now _) (fun e => by
      rcases hG2 e with h | ⟨h1, h2, h3⟩
      · exact .inl h
      · refine .inr ?_
        show okv (G (atv c e)).1 (G (atv c e)).2
        rw [h1]
        exact okv2 (by omega) (by omega)) hGz 0
    have hzm : ∀ t ∈ z, money t := by
      intro t ht
      have hok := hzv.ok t ht
      have e := atv_has hzv t ht t.f0 ⟨Int.le_refl _, hok.2.1⟩
      rw [hza] at e
      rcases hG2 t.f0 with h | ⟨h1, h2, h3⟩
      · exact absurd (congrArg Prod.fst (e.symm.trans h)) hok.2.2.2.1
      · rw [e] at h1 h2 h3
        exact ⟨h1, by omega, by omega⟩
    have hsum := sum_of hzv hzm (by omega) (a := 0) (b := 130) (by omega) (by omega) (by omega)
    -- the sum day by day
    have hday : ∀ n : Nat, sumv z 0 ((n + 1 : Nat) : Int) = sumv z 0 (n : Int) + (G (atv c (n : Int))).2 := by
      intro n
      rw [← sumv_add z 0 (n : Int) ((n + 1 : Nat) : Int) (by omega) (by omega), show ((n + 1 : Nat) : Int) = (n : Int) + 1 by omega, sumv_at hzv, hza]
    have hs0 : sumv z 0 0 = 0 := by
      have := sumv_add z 0 0 0 (by omega) (by omega)
      omega
    have hsb : ∀ n : Nat, n ≤ 130 → 0 ≤ sumv z 0 (n : Int) ∧ sumv z 0 (n : Int) ≤ 1000100 * (n : Int) := by
      intro n
      induction n with
      | zero => intro _; simp only [Int.natCast_zero]; rw [hs0]; omega
      | succ n ih =>
        intro hn
        have := ih (by omega)
        rw [hday]
        rcases hG2 (n : Int) with h | ⟨h1, h2, h3⟩
        · rw [h]; simp only; omega
        · omega
    have hl1 : ∀ (q : Nat) (n : Nat), n ≤ 130 → 130 - n = q → Ev (fun k => moottop_TableCourses.l1 k d c z 0 (sumv z 0 130) 0 (sumv z 0 (n : Int)) (n : Int) way tabname 2 tk sl sp) true := by
      intro q
      induction q with
      | zero =>
        intro n hn hq
        obtain rfl : n = 130 := by omega
        refine Ev.step (fun k => by rw [moottop_TableCourses.l1]) (Ev.ifn (by omega) ?_)
        refine Ev.bind h6_of (Ev.ifp rfl (Ev.bind (check_of hc.valid (by omega)) (Ev.ifp rfl (Ev.ifp rfl (Ev.ifp rfl ?_)))))
        refine Ev.bind (at_of z d (by omega)) (Ev.bind (at_of c d (by omega)) (Ev.bind (hpay _ (hcv d) 0 0).1 (Ev.ifp ?_ (Ev.to ?_))))
        · rw [hza]; simp
        · simp
      | succ q ih =>
        intro n hn hq
        have hb := hsb (n + 1) (by omega)
        have hih := ih (n + 1) (by omega) (by omega)
        rw [hday] at hih hb
        refine Ev.step (fun k => by rw [moottop_TableCourses.l1]) (Ev.ifp (by omega) ?_)
        refine Ev.bind (at_of c _ (by omega)) (Ev.bind (hpay _ (hcv _) 0 0).1 ?_)
        have e1 : wrap64 ((n : Int) + 1) = ((n + 1 : Nat) : Int) := by rw [w64 (by omega) (by omega)]; omega
        have e2 : wrap64 (sumv z 0 (n : Int) + (G (atv c (n : Int))).2) = sumv z 0 (n : Int) + (G (atv c (n : Int))).2 := sum_w64 hb.1 hb.2 (by omega)
        rw [e1, e2]
        exact hih
    refine Ev.bind hz ?_
    rw [below_of _ _ (by omega) (by omega), ← hdd]
    simp only [Option.bind_some]
    refine Ev.bind hsum ?_
    have := hl1 130 0 (by omega) rfl
    simp only [Int.natCast_zero] at this
    rw [hs0] at this
    exact this
  have hl0 : ∀ (q : Nat) (i : Nat) (c : List S52) (st : List Int), (i : Int) ≤ m → (m - i).toNat = q → Paid c i → Ev (fun k => moottop_TableCourses.l0 k a3 c m (i : Int) way tabname 2 tk sl sp st) true := by
    intro q
    induction q with
    | zero =>
      intro i c st hi hq hc
      obtain rfl : i = m.toNat := by omega
      exact Ev.step (fun k => by rw [moottop_TableCourses.l0]) (Ev.ifn (by omega) (hmain c hc))
    | succ q ih =>
      intro i c st hi hq hc
      obtain ⟨u, st1, e1, u0, u1⟩ := next_of st 20 (by omega) (by omega)
      obtain ⟨v, st2, e2, v0, v1⟩ := next_of st1 20000 (by omega) (by omega)
      have hcl := hc.len
      have hih := ih (i + 1) _ st2 (by omega) (by omega) (hc.next (by omega) u0 u1 v0 v1)
      refine Ev.step (fun k => by rw [moottop_TableCourses.l0]) (Ev.ifp (by omega) ?_)
      rw [e1]
      simp only [Option.bind_some]
      rw [e2]
      simp only [Option.bind_some]
      refine Ev.ifp (by omega) ?_
      rw [w64 (x := 20 * (i : Int)) (by omega) (by omega), w64 (x := 20 * (i : Int) + 1) (by omega) (by omega), w64 (x := 20 * (i : Int) + 1 + u) (by omega) (by omega), w64 (x := 10 * v) (by omega) (by omega), w64 (x := 10 * v + (i : Int)) (by omega) (by omega), w64 (x := (i : Int) + 1) (by omega) (by omega), show (i : Int) + 1 = ((i + 1 : Nat) : Int) from by omega]
      exact hih
  refine Ev.rounds (g := fun k => moottop_TableCourses.f k l0 l1 a2 a3) ?_
  simp only [moottop_TableCourses.f]
  refine Ev.bind htab ?_
  rw [below_of _ _ (by omega) (by omega), ← hway]
  simp only [Option.bind_some]
  rw [hm]
  simp only [Option.bind_some]
  exact hl0 _ 0 [] st (by omega) rfl ⟨rfl, Valid.nil, fun t ht => by simp at ht, fun p hp => by simp at hp⟩
end Go.Proofs.Ythedaldmhjocdaa.Pure
