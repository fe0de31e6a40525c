/-
A course that is combined of two has on each day what the function makes of theirs, and two courses differ on a day exactly if their values do, for every two lists and every number.
-/
import Derived.Test.YtkcmjdbeiclbkaaPCourseZipx10
set_option linter.unusedVariables false
set_option linter.unusedSimpArgs false
namespace Go.Proofs.Ytkcmjdbeiclbkaa.Pure
open Go.RowKit Go.Proofs.Ytkcmjdbeiclbkaa.PCourseZip Go.Proofs.YtkcmjdbeiclbkaaW.PrintWords Go.Proofs.YtkcmjdbeiclbkaaW.PrintLast
/-- numbers that need no wrap -/
theorem w64 {x : Int} (h1 : -9223372036854775808 ≤ x) (h2 : x ≤ 9223372036854775807) : wrap64 x = x := by unfold wrap64; omega
theorem tdivnn {a b : Int} (h : 0 ≤ a) : Int.tdiv a b = a / b := Int.tdiv_eq_ediv_of_nonneg h
theorem tmodnn {a b : Int} (h : 0 ≤ a) : Int.tmod a b = a % b := Int.tmod_eq_emod_of_nonneg h
theorem Ev.ifp {α : Type} {c : Prop} [Decidable c] {a b : Nat → Option α} {r : α} (h : c) (k : Ev a r) : Ev (fun n => if c then a n else b n) r := Ev.congr (fun n => by rw [if_pos h]) k
theorem Ev.ifn {α : Type} {c : Prop} [Decidable c] {a b : Nat → Option α} {r : α} (h : ¬ c) (k : Ev b r) : Ev (fun n => if c then a n else b n) r := Ev.congr (fun n => by rw [if_neg h]) k
theorem Ev.to {α : Type} {a b : α} (h : a = b) : Ev (fun _ => some a) b := h ▸ Ev.now a
theorem below_of (x n : Int) (h0 : 0 < n) (h1 : n ≤ 4611686018427387904) : mootmake_Below.f x n = some (x % n) := by
  have hr := Int.emod_nonneg x (show n ≠ 0 by omega)
  have hl := Int.emod_lt_of_pos x h0
  unfold mootmake_Below.f
  rw [if_neg (by omega), Int.tmod_eq_emod]
  by_cases h : 0 ≤ x ∨ n ∣ x
  · rw [if_pos h, show x % n - ((0 : Nat) : Int) = x % n from by omega, if_neg (by omega)]
  · have h3 : x % n ≠ 0 := fun e => h (.inr (Int.dvd_of_emod_eq_zero e))
    rw [if_neg h, if_pos (by omega), w64 (by omega) (by omega)]
    congr 1; omega
theorem below_range (x n : Int) (h0 : 0 < n) : 0 ≤ x % n ∧ x % n < n := ⟨Int.emod_nonneg x (by omega), Int.emod_lt_of_pos x h0⟩
theorem drop_rd (l : List Int) (i : Nat) (h : i < l.length) : l.drop i = rd l (i : Int) :: l.drop (i + 1) := by
  rw [List.drop_eq_getElem_cons h]
  unfold rd
  simp [List.getD, h]
theorem w64_succ {i n : Nat} (h : i < n) (hn : n ≤ 9223372036854775807) : wrap64 ((i : Int) + 1) = ((i + 1 : Nat) : Int) := by
  rw [w64 (by omega) (by omega)]; omega
theorem next_of (l : List Int) (n : Int) (h0 : 0 < n) (h1 : n ≤ 4611686018427387904) : ∃ v l', mootmake_Stream_Next.f l n = some (v, l') ∧ 0 ≤ v ∧ v < n := by
  unfold mootmake_Stream_Next.f
  rw [if_neg (by omega)]
  by_cases h : l = []
  · rw [if_pos h]; exact ⟨0, l, rfl, by omega, h0⟩
  · rw [if_neg h, below_of _ _ h0 h1]
    have := below_range (rd l 0) n h0
    exact ⟨_, _, rfl, this.1, this.2⟩
/-- a span of a number of things, within all dates -/
def okv (kd n : Int) : Prop := kd ≠ 0 ∧ unit_Check.f kd n = some 0
def okspan (s : S58) : Prop := 0 ≤ s.f0 ∧ s.f0 < s.f1 ∧ s.f1 ≤ 1048576 ∧ okv s.f2.f0 s.f2.f1
def follows (p s : S58) : Prop := p.f1 ≤ s.f0 ∧ ¬ (s.f0 = p.f1 ∧ s.f2.f0 = p.f2.f0 ∧ s.f2.f1 = p.f2.f1)
inductive Valid : List S58 → Prop
  | nil : Valid []
  | one (s : S58) : okspan s → Valid [s]
  | snoc (l : List S58) (p s : S58) : Valid (l ++ [p]) → okspan s → follows p s → Valid (l ++ [p] ++ [s])
theorem getD_app (l : List S58) (s : S58) (i : Nat) (z : S58) : (l ++ [s]).getD i z = if i < l.length then l.getD i z else if i = l.length then s else z := by
  simp only [List.getD_eq_getElem?_getD, List.getElem?_append]
  split
  · rfl
  · split
    · rename_i h; subst h; simp
    · rename_i h h'
      rw [List.getElem?_eq_none (by simp; omega)]; rfl
theorem Valid.index {l : List S58} (h : Valid l) : ∀ i, i < l.length → okspan (l.getD i z58) ∧ (0 < i → follows (l.getD (i - 1) z58) (l.getD i z58)) := by
  induction h with
  | nil => intro i hi; simp at hi
  | one s hs => intro i hi; obtain rfl : i = 0 := by simp at hi; omega
                exact ⟨hs, fun h => by omega⟩
  | snoc l p s _ hs hf ih =>
    intro i hi
    by_cases hlt : i < (l ++ [p]).length
    · rw [getD_app (l ++ [p]) s i, getD_app (l ++ [p]) s (i - 1), if_pos hlt, if_pos (by omega)]
      exact ih i hlt
    · have e : i = (l ++ [p]).length := by rw [List.length_append] at hi; simp at hi hlt ⊢; omega
      rw [getD_app (l ++ [p]) s i, getD_app (l ++ [p]) s (i - 1), if_neg hlt, if_pos e]
      refine ⟨hs, fun hp => ?_⟩
      rw [if_pos (by omega), getD_app l p, if_neg (by simp at e; omega), if_pos (by simp at e; omega)]
      exact hf
theorem Valid.indexR {l : List S58} (h : Valid l) (i : Nat) (hi : i < l.length) : okspan (rd_T58 l (i : Int)) ∧ (0 < i → follows (rd_T58 l ((i - 1 : Nat) : Int)) (rd_T58 l (i : Int))) := h.index i hi
theorem ucheck_of (n : Int) (h1 : -1048576 ≤ n) (h2 : n ≤ 1048576) : unit_Check.f 5 n = some 0 := by
  unfold unit_Check.f unit_Range.f unit_known.f
  rw [if_neg (by decide), if_neg (by decide), if_neg (by decide), if_neg (by decide), if_pos rfl, if_pos (by decide)]
  simp only [Option.bind_some]
  rw [if_pos (by decide), if_neg (by omega), if_neg (by omega)]
theorem okv5 {n : Int} (h1 : -1048576 ≤ n) (h2 : n ≤ 1048576) : okv 5 n := ⟨by omega, ucheck_of n h1 h2⟩
theorem check_l0 (c : List S58) (hc : Valid c) (hl : c.length ≤ 1000) (n : Nat) : ∀ i : Nat, i ≤ c.length → c.length - i = n → Ev (fun k => course_Check.l0 k c c (c.length : Int) (i : Int)) 0 := by
  induction n with
  | zero =>
    intro i hi hn
    obtain rfl : i = c.length := by omega
    refine Ev.step (f := fun _ => some 0) (fun k => ?_) (Ev.now _)
    simp only [course_Check.l0]
    rw [if_neg (by omega)]
  | succ n ih =>
    intro i hi hn
    have hlt : i < c.length := by omega
    obtain ⟨⟨o1, o2, o3, o4, o5⟩, hf⟩ := hc.indexR i hlt
    have ih' := ih (i + 1) (by omega) (by omega)
    refine Ev.step (f := fun k => course_Check.j1 k c (i : Int) 0 c (c.length : Int) (i : Int) false (rd_T58 c (i : Int)).f0 (rd_T58 c (i : Int)).f1 (rd_T58 c (i : Int)).f2.f0 (rd_T58 c (i : Int)).f2.f1) (fun k => ?_) ?_
    · simp only [course_Check.l0]
      rw [if_pos (by omega), if_pos (by omega), if_pos (by omega), o5]
      simp only [Option.bind_some]
      rw [if_neg (by omega), if_neg (by omega), decide_eq_false (by omega)]
    refine Ev.step (f := fun k => course_Check.j2 k c (i : Int) c (c.length : Int) (i : Int) false (rd_T58 c (i : Int)).f0 (rd_T58 c (i : Int)).f1 (rd_T58 c (i : Int)).f2.f0 (rd_T58 c (i : Int)).f2.f1) (fun k => ?_) ?_
    · simp only [course_Check.j1]
      rw [if_neg (by decide), if_pos (by trivial), if_neg (by omega)]
      by_cases hi0 : 0 < i
      · have hfo := (hf hi0).1
        rw [if_pos (by omega), w64 (x := (i : Int) - 1) (by omega) (by omega), if_pos (by omega), if_pos (by omega), show (i : Int) - 1 = ((i - 1 : Nat) : Int) from by omega, decide_eq_false (by omega)]
      · rw [if_neg (by omega)]
    refine Ev.step (fun k => ?_) ih'
    simp only [course_Check.j2]
    rw [if_neg (by decide), w64_succ hlt (by omega)]
    by_cases hi0 : 0 < i
    · have hfo := hf hi0
      rw [if_pos (by omega), w64 (x := (i : Int) - 1) (by omega) (by omega), if_pos (by omega), if_pos (by omega), show (i : Int) - 1 = ((i - 1 : Nat) : Int) from by omega]
      by_cases he : (rd_T58 c (i : Int)).f0 = (rd_T58 c ((i - 1 : Nat) : Int)).f1
      · rw [if_pos he, if_neg]
        intro hh
        rw [Bool.and_eq_true, beq_iff_eq, beq_iff_eq] at hh
        exact hfo.2 ⟨he, hh.1, hh.2⟩
      · rw [if_neg he]
    · rw [if_neg (by omega)]
theorem check_of {c : List S58} (hc : Valid c) (hl : c.length ≤ 1000) : Ev (fun k => course_Check.f k c) 0 := by
  simp only [course_Check.f]
  exact Ev.ifn (by omega) (check_l0 c hc hl _ 0 (by omega) rfl)
/-- what a course has on a day -/
def atv : List S58 → Int → Int × Int
  | [], _ => (0, 0)
  | s :: l, d => if s.f0 ≤ d ∧ d < s.f1 then (s.f2.f0, s.f2.f1) else atv l d
theorem drop_span (l : List S58) (i : Nat) (h : i < l.length) : l.drop i = rd_T58 l (i : Int) :: l.drop (i + 1) := by
  rw [List.drop_eq_getElem_cons h]
  unfold rd_T58
  simp [List.getD, h]
theorem at_l0 (c : List S58) (d : Int) (hl : c.length ≤ 4398046511104) (n : Nat) : ∀ i : Nat, i ≤ c.length → c.length - i = n → Ev (fun k => course_At.l0 k d c (c.length : Int) (i : Int)) (atv (c.drop i) d) := by
  induction n with
  | zero =>
    intro i hi hn
    obtain rfl : i = c.length := by omega
    rw [List.drop_length]
    refine Ev.step (f := fun _ => some (0, 0)) (fun k => ?_) (Ev.now _)
    simp only [course_At.l0]
    rw [if_neg (by omega)]
  | succ n ih =>
    intro i hi hn
    have hlt : i < c.length := by omega
    rw [drop_span c i hlt]
    simp only [atv]
    by_cases h1 : (rd_T58 c (i : Int)).f0 ≤ d
    · by_cases h2 : d < (rd_T58 c (i : Int)).f1
      · rw [if_pos ⟨h1, h2⟩]
        refine Ev.step (f := fun _ => some _) (fun k => ?_) (Ev.now _)
        simp only [course_At.l0]
        rw [if_pos (by omega), if_pos (by omega), if_pos (by omega), if_pos h1, if_pos h2]
      · rw [if_neg (fun h => h2 h.2)]
        refine Ev.step (fun k => ?_) (ih (i + 1) (by omega) (by omega))
        simp only [course_At.l0]
        rw [if_pos (by omega), if_pos (by omega), if_pos (by omega), if_pos h1, if_neg h2, w64_succ hlt (by omega)]
    · rw [if_neg (fun h => h1 h.1)]
      refine Ev.step (fun k => ?_) (ih (i + 1) (by omega) (by omega))
      simp only [course_At.l0]
      rw [if_pos (by omega), if_pos (by omega), if_pos (by omega), if_neg h1, w64_succ hlt (by omega)]
theorem at_of (c : List S58) (d : Int) (hl : c.length ≤ 4398046511104) : Ev (fun k => course_At.f k c d) (atv c d) := by
  simp only [course_At.f]
  exact at_l0 c d hl _ 0 (by omega) rfl
theorem courses_of : Ev (fun k => mootkeep1_courses.f k) true := by
  have hv : Valid [(⟨5, 7, (⟨5, 4⟩ : S56)⟩ : S58)] := Valid.one _ ⟨by decide, by decide, by decide, okv5 (by decide) (by decide)⟩
  simp only [mootkeep1_courses.f, Option.bind_some]
  refine Ev.bind (check_of hv (by simp)) (Ev.ifp rfl ?_)
  refine Ev.bind (at_of _ 6 (by simp)) ?_
  exact Ev.to (by decide)
def has (s : S58) (d : Int) : Prop := s.f0 ≤ d ∧ d < s.f1
instance (s : S58) (d : Int) : Decidable (has s d) := by unfold has; infer_instance
theorem atv_none (l : List S58) (d : Int) (h : ∀ t ∈ l, ¬ has t d) : atv l d = (0, 0) := by
  induction l with
  | nil => rfl
  | cons s l ih =>
    simp only [atv]
    rw [if_neg (show ¬ (s.f0 ≤ d ∧ d < s.f1) from h s (by simp))]
    exact ih fun t ht => h t (by simp [ht])
theorem atv_snoc (l : List S58) (s : S58) (d : Int) : atv (l ++ [s]) d = if ∃ t ∈ l, has t d then atv l d else if has s d then (s.f2.f0, s.f2.f1) else (0, 0) := by
  induction l with
  | nil => simp [atv, has]
  | cons a l ih =>
    simp only [List.cons_append, atv]
    by_cases h : a.f0 ≤ d ∧ d < a.f1
    · rw [if_pos h, if_pos ⟨a, by simp, h⟩, if_pos h]
    · rw [if_neg h, ih, if_neg h]
      by_cases h2 : ∃ t ∈ l, has t d
      · obtain ⟨t, ht, hd⟩ := h2
        rw [if_pos ⟨t, ht, hd⟩, if_pos ⟨t, by simp [ht], hd⟩]
      · have h3 : ¬ ∃ t ∈ a :: l, has t d := by
          rintro ⟨t, ht, hd⟩
          rcases List.mem_cons.1 ht with rfl | ht
          · exact h hd
          · exact h2 ⟨t, ht, hd⟩
        rw [if_neg h2, if_neg h3]
theorem Valid.ok {l : List S58} (h : Valid l) : ∀ t ∈ l, okspan t := by
  induction h with
  | nil => intro t ht; simp at ht
  | one s hs => intro t ht; rw [List.mem_singleton.1 ht]; exact hs
  | snoc l p s _ hs _ ih =>
    intro t ht
    rcases List.mem_append.1 ht with ht | ht
    · exact ih t ht
    · rw [List.mem_singleton.1 ht]; exact hs
/-- no span of a course ends behind its last one -/
theorem Valid.hi {l : List S58} (h : Valid l) : ∀ p, l.getLast? = some p → ∀ t ∈ l, t.f1 ≤ p.f1 := by
  induction h with
  | nil => intro p hp; simp at hp
  | one s hs => intro p hp t ht; simp at hp; rw [List.mem_singleton.1 ht, hp]; omega
  | snoc l q s _ hs hf ih =>
    intro p hp t ht
    rw [List.getLast?_append] at hp
    simp at hp
    subst hp
    rcases List.mem_append.1 ht with ht | ht
    · have := ih q (by simp) t ht
      have := hf.1; have := hs.2.1
      omega
    · rw [List.mem_singleton.1 ht]; omega
theorem mn_min (a b : Int) : mn a b = min a b := by unfold mn; split <;> omega
theorem mx_max (a b : Int) : mx a b = max a b := by unfold mx; split <;> omega
theorem Valid.mk {l : List S58} {s : S58} (h : Valid l) (hs : okspan s) (hf : ∀ q, l.getLast? = some q → follows q s) : Valid (l ++ [s]) := by
  rcases List.eq_nil_or_concat l with rfl | ⟨l', p, rfl⟩
  · exact Valid.one s hs
  · simp only [List.concat_eq_append] at h hf ⊢
    exact Valid.snoc l' p s h hs (hf p (by simp))
theorem Valid.inv {l : List S58} {p : S58} (h : Valid (l ++ [p])) : Valid l ∧ okspan p ∧ ∀ q, l.getLast? = some q → follows q p := by
  generalize e : l ++ [p] = m at h
  cases h with
  | nil => simp at e
  | one s hs =>
    obtain ⟨rfl, rfl⟩ : l = [] ∧ p = s := by
      cases l with
      | nil => exact ⟨rfl, by simpa using e⟩
      | cons a l => simp at e
    exact ⟨Valid.nil, hs, fun q hq => by simp at hq⟩
  | snoc l2 p2 s2 hv hs hf =>
    obtain ⟨e1, e2⟩ := List.append_inj' e rfl
    obtain rfl : p = s2 := by simpa using e2
    subst e1
    refine ⟨hv, hs, fun q hq => ?_⟩
    obtain rfl : p2 = q := by simpa using hq
    exact hf
def Upto (l : List S58) (m : Int) : Prop := ∀ t ∈ l, t.f1 ≤ m
theorem Upto.mono {l : List S58} {m m' : Int} (h : Upto l m) (hm : m ≤ m') : Upto l m' := fun t ht => Int.le_trans (h t ht) hm
theorem grow_of (l : List S58) (f t kd n : Int) (hv : Valid l) (hl : l.length ≤ 2000) (hc : f ≥ t ∨ kd = 0 ∨ (okspan ⟨f, t, ⟨kd, n⟩⟩ ∧ Upto l f)) :
    ∃ r, Ev (fun k => course_grow.f k l f t kd n) r ∧ Valid r ∧ r.length ≤ l.length + 1 ∧ (∀ d, atv r d = if f ≤ d ∧ d < t ∧ kd ≠ 0 then (kd, n) else atv l d) ∧ ∀ m, Upto l m → (f < t → t ≤ m) → Upto r m := by
  simp only [course_grow.f]
  rw [w64 (x := (l.length : Int) - 1) (by omega) (by omega)]
  by_cases h1 : f ≥ t
  · refine ⟨l, Ev.ifp h1 (Ev.step (f := fun _ => some l) (fun k => ?_) (Ev.now _)), hv, by omega, fun d => ?_, fun m h _ => h⟩
    · simp only [course_grow.j0]; rfl
    · rw [if_neg (by omega)]
  by_cases h2 : kd = 0
  · refine ⟨l, Ev.ifn h1 (Ev.step (f := fun _ => some l) (fun k => ?_) (Ev.now _)), hv, by omega, fun d => ?_, fun m h _ => h⟩
    · simp only [course_grow.j0]; rw [if_pos (by simp [h2])]
    · rw [if_neg (fun h => h.2.2 h2)]
  obtain ⟨hok, hup⟩ : okspan ⟨f, t, ⟨kd, n⟩⟩ ∧ Upto l f := by
    rcases hc with h | h | h
    · exact absurd h h1
    · exact absurd h h2
    · exact h
  have o2 : f < t := hok.2.1
  -- a span more
  have happ : ∀ (d : Int), atv (l ++ [(⟨f, t, (⟨kd, n⟩ : S56)⟩ : S58)]) d = if f ≤ d ∧ d < t ∧ kd ≠ 0 then (kd, n) else atv l d := by
    intro d
    rw [atv_snoc]
    by_cases h : ∃ t ∈ l, has t d
    · obtain ⟨u, hu, hd⟩ := h
      have := hup u hu; have := hd.2
      rw [if_pos ⟨u, hu, hd⟩, if_neg (by omega)]
    · rw [if_neg h, atv_none l d (fun u hu hd => h ⟨u, hu, hd⟩)]
      by_cases hd : f ≤ d ∧ d < t
      · rw [if_pos (show has (⟨f, t, (⟨kd, n⟩ : S56)⟩ : S58) d from hd), if_pos ⟨hd.1, hd.2, h2⟩]
      · rw [if_neg (show ¬ has (⟨f, t, (⟨kd, n⟩ : S56)⟩ : S58) d from hd), if_neg (fun h => hd ⟨h.1, h.2.1⟩)]
  have happu : ∀ m, Upto l m → (f < t → t ≤ m) → Upto (l ++ [(⟨f, t, (⟨kd, n⟩ : S56)⟩ : S58)]) m := by
    intro m hm ht u hu
    rcases List.mem_append.1 hu with hu | hu
    · exact hm u hu
    · rw [List.mem_singleton.1 hu]; exact ht o2
  rcases List.eq_nil_or_concat l with rfl | ⟨l', p, rfl⟩
  · refine ⟨_, Ev.ifn h1 (Ev.step (f := fun _ => some ([] ++ [(⟨f, t, (⟨kd, n⟩ : S56)⟩ : S58)])) (fun k => ?_) (Ev.now _)), Valid.one _ hok, by simp, happ, happu⟩
    simp only [course_grow.j0]
    rw [if_neg (by simp [h2]), if_neg (by decide), if_pos (by decide)]
  · simp only [List.concat_eq_append] at *
    have hinv := hv.inv
    have hrd : rd_T58 (l' ++ [p]) (((l' ++ [p]).length : Int) - 1) = p := by
      have e : ((l' ++ [p]).length : Int) - 1 = ((l'.length : Nat) : Int) := by simp
      rw [e]
      show (l' ++ [p]).getD l'.length z58 = p
      rw [getD_app, if_neg (by omega), if_pos rfl]
    have hlen : (0 : Int) ≤ ((l' ++ [p]).length : Int) - 1 := by simp
    have hlt : ((l' ++ [p]).length : Int) - 1 < ((l' ++ [p]).length : Int) := by omega
    by_cases he : p.f1 = f ∧ p.f2.f0 = kd ∧ p.f2.f1 = n
    · obtain ⟨e1, e2, e3⟩ := he
      have hpo := hinv.2.1
      have hok' : okspan (⟨p.f0, t, (⟨p.f2.f0, p.f2.f1⟩ : S56)⟩ : S58) := ⟨hpo.1, by have := hpo.2.1; show p.f0 < t; omega, hok.2.2.1, hpo.2.2.2⟩
      have hlow : ∀ u ∈ l', u.f1 ≤ p.f0 := by
        intro u hu
        rcases List.eq_nil_or_concat l' with rfl | ⟨l2, q, rfl⟩
        · simp at hu
        · simp only [List.concat_eq_append] at *
          have := hinv.1.hi q (by simp) u hu
          have := (hinv.2.2 q (by simp)).1
          omega
      refine ⟨l' ++ [(⟨p.f0, t, (⟨p.f2.f0, p.f2.f1⟩ : S56)⟩ : S58)], Ev.ifn h1 (Ev.step (f := fun _ => some _) (fun k => ?_) (Ev.now _)), hinv.1.mk hok' (fun q hq => hinv.2.2 q hq), by simp, fun d => ?_, fun m hm ht u hu => ?_⟩
      · simp only [course_grow.j0]
        rw [if_neg (by simp [h2]), if_pos (by omega), if_pos hlen, if_pos hlt, hrd, if_pos e1, if_pos (by simp [e2, e3])]
        congr 1
        have e : (((l' ++ [p]).length : Int) - 1).toNat = l'.length := by simp
        rw [e]; simp
      · rw [atv_snoc, atv_snoc]
        by_cases h : ∃ t ∈ l', has t d
        · obtain ⟨u, hu, hd⟩ := h
          have := hlow u hu; have := hd.2; have := hpo.2.1
          rw [if_neg (c := f ≤ d ∧ d < t ∧ kd ≠ 0) (by omega), if_pos (c := ∃ t ∈ l', has t d) ⟨u, hu, hd⟩, if_pos (c := ∃ t ∈ l', has t d) ⟨u, hu, hd⟩]
        · rw [if_neg h, if_neg h]
          have hp1 := hpo.2.1
          by_cases hd : f ≤ d ∧ d < t
          · rw [if_pos (show has (⟨p.f0, t, (⟨p.f2.f0, p.f2.f1⟩ : S56)⟩ : S58) d from ⟨by show p.f0 ≤ d; omega, hd.2⟩), if_pos ⟨hd.1, hd.2, h2⟩]
            show (p.f2.f0, p.f2.f1) = (kd, n)
            rw [e2, e3]
          · rw [if_neg (c := f ≤ d ∧ d < t ∧ kd ≠ 0) (fun h => hd ⟨h.1, h.2.1⟩)]
            by_cases hd2 : has p d
            · have := hd2.1; have := hd2.2
              rw [if_pos hd2, if_pos (show has (⟨p.f0, t, (⟨p.f2.f0, p.f2.f1⟩ : S56)⟩ : S58) d from ⟨hd2.1, by show d < t; omega⟩)]
            · rw [if_neg hd2, if_neg]
              rintro ⟨ha, hb⟩
              have ha' : p.f0 ≤ d := ha; have hb' : d < t := hb
              exact hd2 ⟨ha', by omega⟩
      · rcases List.mem_append.1 hu with hu | hu
        · exact hm u (List.mem_append.2 (.inl hu))
        · rw [List.mem_singleton.1 hu]; exact ht o2
    · have hfo : follows p ⟨f, t, ⟨kd, n⟩⟩ := ⟨hup p (by simp), fun h => he ⟨h.1.symm, h.2.1.symm, h.2.2.symm⟩⟩
      refine ⟨_, Ev.ifn h1 (Ev.step (f := fun _ => some (l' ++ [p] ++ [(⟨f, t, (⟨kd, n⟩ : S56)⟩ : S58)])) (fun k => ?_) (Ev.now _)), Valid.snoc l' p _ hv hok hfo, by simp, happ, happu⟩
      simp only [course_grow.j0]
      rw [if_neg (by simp [h2]), if_pos (by omega), if_pos hlen, if_pos hlt, hrd]
      by_cases e1 : p.f1 = f
      · rw [if_pos e1, if_neg, if_pos (by omega)]
        intro hh
        rw [Bool.and_eq_true, beq_iff_eq, beq_iff_eq] at hh
        exact he ⟨e1, hh⟩
      · rw [if_neg e1, if_pos (by omega)]
/-- what `line` has made so far: the next span begins at `a`, it is number `i` -/
structure Made (l : List S58) (a : Int) (i : Nat) : Prop where
  valid : Valid l
  len : l.length = i
  a0 : 0 ≤ a
  a1 : a ≤ 19 + 17 * i
  small : ∀ s ∈ l, s.f2.f0 = 5 ∧ 0 ≤ s.f2.f1 ∧ s.f2.f1 ≤ 14
  last : ∀ p, l.getLast? = some p → p.f1 ≤ a ∧ p.f2.f1 % 5 = ((i : Int) - 1) % 5
theorem Made.next {l : List S58} {a : Int} {i : Nat} (h : Made l a i) (hi : i < 7) {x y z : Int} (hx0 : 0 ≤ x) (hx : x < 15) (hy0 : 0 ≤ y) (hy : y < 3) (hz0 : 0 ≤ z) (hz : z < 3) :
    Made (l ++ [(⟨a, a + 1 + x, (⟨5, 5 * y + (i : Int) % 5⟩ : S56)⟩ : S58)]) (a + 1 + x + z) (i + 1) := by
  obtain ⟨hv, hl, h0, h1, hs, hlast⟩ := h
  have hok : okspan (⟨a, a + 1 + x, (⟨5, 5 * y + (i : Int) % 5⟩ : S56)⟩ : S58) := ⟨h0, by show a < a + 1 + x; omega, by show a + 1 + x ≤ 1048576; omega, okv5 (by show -1048576 ≤ 5 * y + (i : Int) % 5; omega) (by show 5 * y + (i : Int) % 5 ≤ 1048576; omega)⟩
  refine ⟨?_, by simp [hl], by omega, by omega, ?_, ?_⟩
  · rcases List.eq_nil_or_concat l with rfl | ⟨l', p, rfl⟩
    · exact Valid.one _ hok
    · have hp := hlast p (by simp)
      simp only [List.concat_eq_append] at hv hl ⊢
      refine Valid.snoc l' p _ hv hok ⟨hp.1, ?_⟩
      rintro ⟨_, _, e⟩
      have e' : 5 * y + (i : Int) % 5 = p.f2.f1 := e
      omega
  · intro s hmem
    rcases List.mem_append.1 hmem with hm | hm
    · exact hs s hm
    · obtain rfl := List.mem_singleton.1 hm
      refine ⟨rfl, ?_, ?_⟩
      · show 0 ≤ 5 * y + (i : Int) % 5; omega
      · show 5 * y + (i : Int) % 5 ≤ 14; omega
  · intro p hp
    rw [List.getLast?_append] at hp
    simp at hp
    subst hp
    refine ⟨?_, ?_⟩
    · show a + 1 + x ≤ a + 1 + x + z; omega
    · show (5 * y + (i : Int) % 5) % 5 = (((i + 1 : Nat) : Int) - 1) % 5; omega
theorem line_l0 (m : Int) (hm : m < 8) (n : Nat) : ∀ (i : Nat) (l : List S58) (a : Int) (st : List Int), (i : Int) ≤ max m 0 → (max m 0 - i).toNat = n → Made l a i →
    ∃ c, Ev (fun k => mootkeep1_line.l0 k l a m (i : Int) st) c ∧ ∃ a' j, Made c a' j ∧ j ≤ 7 := by
  induction n with
  | zero =>
    intro i l a st hi hn hM
    refine ⟨l, Ev.step (f := fun _ => some l) (fun k => ?_) (Ev.now _), a, i, hM, by omega⟩
    simp only [mootkeep1_line.l0]
    rw [if_neg (by omega)]
  | succ n ih =>
    intro i l a st hi hn hM
    have hi7 : i < 7 := by omega
    obtain ⟨x, s1, e1, x0, x1⟩ := next_of st 15 (by omega) (by omega)
    obtain ⟨y, s2, e2, y0, y1⟩ := next_of s1 3 (by omega) (by omega)
    obtain ⟨z, s3, e3, z0, z1⟩ := next_of s2 3 (by omega) (by omega)
    have h0 := hM.a0; have h1 := hM.a1; have hl := hM.len
    obtain ⟨c, hc, h⟩ := ih (i + 1) _ _ s3 (by omega) (by omega) (hM.next hi7 x0 x1 y0 y1 z0 z1)
    refine ⟨c, Ev.step (fun k => ?_) hc, h⟩
    simp only [mootkeep1_line.l0]
    rw [if_pos (by omega), e1]
    simp only [Option.bind_some]
    rw [e2]
    simp only [Option.bind_some]
    rw [if_pos (by omega), e3]
    simp only [Option.bind_some]
    rw [w64 (x := a + 1) (by omega) (by omega), w64 (x := a + 1 + x) (by omega) (by omega), w64 (x := a + 1 + x + z) (by omega) (by omega), w64 (x := 5 * y) (by omega) (by omega), tmodnn (by omega), w64 (x := 5 * y + (i : Int) % 5) (by omega) (by omega), w64 (x := (i : Int) + 1) (by omega) (by omega), show (i : Int) + 1 = ((i + 1 : Nat) : Int) from by omega]
theorem line_of (l : List Int) : ∃ c, Ev (fun k => mootkeep1_line.f k l) c ∧ ∃ a' j, Made c a' j ∧ j ≤ 7 := by
  obtain ⟨a, s1, e1, a0, a1⟩ := next_of l 20 (by omega) (by omega)
  obtain ⟨m, s2, e2, m0, m1⟩ := next_of s1 8 (by omega) (by omega)
  obtain ⟨c, hc, h⟩ := line_l0 m m1 _ 0 [] a s2 (by omega) rfl ⟨Valid.nil, rfl, a0, by omega, fun s h => by simp at h, fun p h => by simp at h⟩
  refine ⟨c, ?_, h⟩
  simp only [mootkeep1_line.f]
  rw [e1]
  simp only [Option.bind_some]
  rw [e2]
  exact hc
theorem mem_compact (l : List Int) (x : Int) : x ∈ Lib.compact l ↔ x ∈ l := by
  unfold Lib.compact Lib.compactUpTo
  rw [List.mem_map]
  constructor
  · rintro ⟨j, hj, rfl⟩
    have := List.mem_range.1 (List.mem_filter.1 hj).1
    simp [this]
  · intro h
    obtain ⟨j, hj, e⟩ := List.getElem_of_mem h
    induction j generalizing x with
    | zero => exact ⟨0, List.mem_filter.2 ⟨List.mem_range.2 hj, by simp [Lib.keeps]⟩, by simp [hj, e]⟩
    | succ j ih =>
      by_cases hk : Lib.keeps l.toArray (j + 1) = true
      · exact ⟨j + 1, List.mem_filter.2 ⟨List.mem_range.2 hj, hk⟩, by simp [hj, e]⟩
      · have hj' : j < l.length := by omega
        have e2 : l[j] = l[j + 1] := by
          unfold Lib.keeps at hk
          simp [hj, hj'] at hk
          exact hk.symm
        exact ih x (by rw [← e, ← e2]; exact List.getElem_mem hj') hj' (by rw [e2, e])
theorem sorted_rd {l : List Int} (h : l.Pairwise (· ≤ ·)) (i j : Nat) (hij : i ≤ j) (hj : j < l.length) : rd l (i : Int) ≤ rd l (j : Int) := by
  have e : ∀ k : Nat, k < l.length → rd l (k : Int) = l[k]! := fun k hk => by unfold rd; simp [List.getD, hk]
  rw [e i (by omega), e j hj]
  rcases Nat.lt_or_eq_of_le hij with hlt | rfl
  · simpa [hj, show i < l.length by omega] using List.pairwise_iff_getElem.1 h i j (by omega) hj hlt
  · exact Int.le_refl _
theorem compact_rises {l : List Int} (h : l.Pairwise (· ≤ ·)) : (Lib.compact l).Pairwise (· < ·) := by
  unfold Lib.compact Lib.compactUpTo
  rw [List.pairwise_map]
  have hr : ((List.range l.length).filter (Lib.keeps l.toArray)).Pairwise (· < ·) := (List.pairwise_lt_range).filter _
  refine List.Pairwise.imp_of_mem (fun {a b} ha hb hab => ?_) hr
  have h1 := List.mem_range.1 (List.mem_filter.1 ha).1
  have h2 := List.mem_range.1 (List.mem_filter.1 hb).1
  have h3 := (List.mem_filter.1 hb).2
  have e : ∀ k : Nat, k < l.length → rd l (k : Int) = l.toArray[k]! := fun k hk => by unfold rd; simp [List.getD, hk]
  obtain ⟨b', rfl⟩ : ∃ b', b = b' + 1 := ⟨b - 1, by omega⟩
  have s1 := sorted_rd h a b' (by omega) (by omega)
  have s2 := sorted_rd h b' (b' + 1) (by omega) h2
  rw [e a h1, e b' (by omega)] at s1
  rw [e b' (by omega), e (b' + 1) h2] at s2
  unfold Lib.keeps at h3
  have h4 : l.toArray[b' + 1]! ≠ l.toArray[b']! := by simpa using h3
  omega
/-- days in order, each once -/
def days (l : List Int) : List Int := Lib.compact (l.mergeSort fun x y => decide (x ≤ y))
theorem mem_days (l : List Int) (x : Int) : x ∈ days l ↔ x ∈ l := by
  unfold days
  rw [mem_compact]
  exact (List.mergeSort_perm l _).mem_iff
theorem days_rise (l : List Int) : (days l).Pairwise (· < ·) := by
  unfold days
  refine compact_rises ?_
  have := List.pairwise_mergeSort (le := fun x y : Int => decide (x ≤ y)) (fun a b c h1 h2 => by simp at *; omega) (fun a b => by simp; omega) l
  exact this.imp (fun h => by simpa using h)
theorem days_len (l : List Int) : (days l).length ≤ l.length := by
  unfold days Lib.compact Lib.compactUpTo
  rw [List.length_map]
  refine Nat.le_trans (List.length_filter_le ..) ?_
  rw [List.length_range, List.length_mergeSort]
  exact Nat.le_refl _
theorem days_of (l : List Int) (h : l.length ≤ 1000000) : (slices_Sort_int_int.f l).bind (fun t => slices_Compact_int_int.f t) = some (days l) := by
  unfold slices_Sort_int_int.f slices_Compact_int_int.f
  rw [if_pos h, Option.bind_some, if_pos (by rw [List.length_mergeSort]; exact h)]
  rfl
theorem rise_rd {l : List Int} (h : l.Pairwise (· < ·)) (i j : Nat) (hij : i < j) (hj : j < l.length) : rd l (i : Int) < rd l (j : Int) := by
  have e : ∀ k : Nat, k < l.length → rd l (k : Int) = l[k]! := fun k hk => by unfold rd; simp [List.getD, hk]
  rw [e i (by omega), e j hj]
  simpa [hj, show i < l.length by omega] using List.pairwise_iff_getElem.1 h i j (by omega) hj hij
theorem rd_mem {l : List Int} (i : Nat) (h : i < l.length) : rd l (i : Int) ∈ l := by
  unfold rd
  simp [List.getD, h]
theorem mem_rd {l : List Int} {x : Int} (h : x ∈ l) : ∃ i : Nat, i < l.length ∧ rd l (i : Int) = x := by
  obtain ⟨i, hi, e⟩ := List.getElem_of_mem h
  exact ⟨i, hi, by unfold rd; simp [List.getD, hi, e]⟩
/-- between two days that follow one another there is none -/
theorem days_gap {l : List Int} (h : l.Pairwise (· < ·)) (i : Nat) (hi : i + 1 < l.length) (x : Int) (hx : x ∈ l) : x ≤ rd l (i : Int) ∨ rd l ((i + 1 : Nat) : Int) ≤ x := by
  obtain ⟨j, hj, rfl⟩ := mem_rd hx
  by_cases hij : j ≤ i
  · left
    rcases Nat.lt_or_eq_of_le hij with hlt | rfl
    · exact Int.le_of_lt (rise_rd h j i hlt (by omega))
    · exact Int.le_refl _
  · right
    rcases Nat.lt_or_eq_of_le (show i + 1 ≤ j by omega) with hlt | he
    · exact Int.le_of_lt (rise_rd h (i + 1) j hlt hj)
    · rw [he]; exact Int.le_refl _
theorem fconcat_of (a b : List S58) (ha : a.length ≤ 1000000) (hb : b.length ≤ 1000000) : Ev (fun k => fact_Span_80.f k [a, b]) (a ++ b) := by
  unfold fact_Span_80.f
  have r0 : rd_L4 [a, b] 0 = a := rfl
  have r1 : rd_L4 [a, b] 1 = b := rfl
  have e0 : wrap64 ((0 : Int) + 1) = 1 := by simp [wrap64]
  have e1 : wrap64 ((1 : Int) + 1) = 2 := by simp [wrap64]
  refine Ev.step (fun k => by rw [fact_Span_80.l0]) (Ev.ifp (by simp) (Ev.ifp (by omega) (Ev.ifp (by simp) ?_)))
  rw [r0, e0, w64 (x := 0 + (a.length : Int)) (by omega) (by omega)]
  refine Ev.ifn (by omega) ?_
  refine Ev.step (fun k => by rw [fact_Span_80.l0]) (Ev.ifp (by simp) (Ev.ifp (by omega) (Ev.ifp (by simp) ?_)))
  rw [r1, e1, w64 (x := 0 + (a.length : Int) + (b.length : Int)) (by omega) (by omega)]
  refine Ev.ifn (by omega) ?_
  refine Ev.step (fun k => by rw [fact_Span_80.l0]) (Ev.ifn (by simp) ?_)
  have hg : span_Grow.f (0 + (a.length : Int) + (b.length : Int)) = some [] := by
    unfold span_Grow.f
    rw [if_pos (by omega), if_pos (by omega)]
  simp only [hg, Option.bind_some]
  refine Ev.step (fun k => by rw [fact_Span_80.l1]) (Ev.ifp (by simp) (Ev.ifp (by omega) (Ev.ifp (by simp) ?_)))
  rw [r0, e0]
  refine Ev.ifp (by simp; omega) ?_
  refine Ev.step (fun k => by rw [fact_Span_80.l1]) (Ev.ifp (by simp) (Ev.ifp (by omega) (Ev.ifp (by simp) ?_)))
  rw [r1, e1]
  refine Ev.ifp (by simp; omega) ?_
  exact Ev.step (fun k => by rw [fact_Span_80.l1]) (Ev.ifn (by simp) (Ev.to (by simp)))
def sEnds : List S58 → List Int
  | [] => []
  | s :: l => s.f0 :: s.f1 :: sEnds l
theorem sEnds_len (l : List S58) : (sEnds l).length = 2 * l.length := by
  induction l with
  | nil => rfl
  | cons s l ih => simp [sEnds, ih]; omega
theorem sEnds_mem (l : List S58) (s : S58) (h : s ∈ l) : s.f0 ∈ sEnds l ∧ s.f1 ∈ sEnds l := by
  induction l with
  | nil => simp at h
  | cons t l ih =>
    rcases List.mem_cons.1 h with rfl | h
    · simp [sEnds]
    · have := ih h; simp [sEnds, this.1, this.2]
theorem atv_const (a b : Int) : ∀ (l : List S58), (∀ s ∈ l, (s.f0 ≤ a ∨ b ≤ s.f0) ∧ (s.f1 ≤ a ∨ b ≤ s.f1)) → ∀ d, a ≤ d → d < b → atv l d = atv l a
  | [], _, _, _, _ => rfl
  | s :: l, h, d, h1, h2 => by
    have hs := h s (by simp)
    simp only [atv]
    rw [atv_const a b l (fun t ht => h t (by simp [ht])) d h1 h2]
    by_cases hc : s.f0 ≤ d ∧ d < s.f1
    · rw [if_pos hc, if_pos (by omega)]
    · rw [if_neg hc, if_neg (by omega)]
theorem fconcat1_of (a : List S58) (ha : a.length ≤ 1000000) : Ev (fun k => fact_Span_80.f k [a]) a := by
  unfold fact_Span_80.f
  have r0 : rd_L4 [a] 0 = a := rfl
  have e0 : wrap64 ((0 : Int) + 1) = 1 := by simp [wrap64]
  refine Ev.step (fun k => by rw [fact_Span_80.l0]) (Ev.ifp (by simp) (Ev.ifp (by omega) (Ev.ifp (by simp) ?_)))
  rw [r0, e0, w64 (x := 0 + (a.length : Int)) (by omega) (by omega)]
  refine Ev.ifn (by omega) ?_
  refine Ev.step (fun k => by rw [fact_Span_80.l0]) (Ev.ifn (by simp) ?_)
  have hg : span_Grow.f (0 + (a.length : Int)) = some [] := by
    unfold span_Grow.f
    rw [if_pos (by omega), if_pos (by omega)]
  simp only [hg, Option.bind_some]
  refine Ev.step (fun k => by rw [fact_Span_80.l1]) (Ev.ifp (by simp) (Ev.ifp (by omega) (Ev.ifp (by simp) ?_)))
  rw [r0, e0]
  refine Ev.ifp (by simp; omega) ?_
  exact Ev.step (fun k => by rw [fact_Span_80.l1]) (Ev.ifn (by simp) (Ev.to (by simp)))
theorem ends_loop (c : List S58) (hl : c.length ≤ 1000) (n : Nat) : ∀ (i : Nat) (acc : List Int), i ≤ c.length → c.length - i = n → acc.length ≤ 2 + 2 * i → Ev (fun k => course_ends.l0 k acc c (c.length : Int) (i : Int)) (days (acc ++ sEnds (c.drop i))) := by
  induction n with
  | zero =>
    intro i acc hi hn ha
    obtain rfl : i = c.length := by omega
    rw [List.drop_length, sEnds, List.append_nil]
    refine Ev.step (f := fun _ => some (days acc)) (fun k => ?_) (Ev.now _)
    simp only [course_ends.l0]
    rw [if_neg (by omega), ← Option.bind_assoc, days_of _ (by omega)]
    rfl
  | succ n ih =>
    intro i acc hi hn ha
    have hlt : i < c.length := by omega
    rw [drop_span c i hlt, sEnds]
    have := ih (i + 1) (acc ++ [(rd_T58 c (i : Int)).f0, (rd_T58 c (i : Int)).f1]) (by omega) (by omega) (by simp; omega)
    rw [List.append_assoc] at this
    refine Ev.step (fun k => ?_) this
    simp only [course_ends.l0]
    rw [if_pos (by omega), if_pos (by omega), if_pos (by omega), Option.bind_some, if_pos (by simp; omega), w64_succ hlt (by omega)]
/-- the days on which a course may change -/
def chg (c : List S58) : List Int := days ([0, 1048576] ++ sEnds c)
theorem ends2_of (a b : List S58) (ha : a.length ≤ 400) (hb : b.length ≤ 400) : Ev (fun k => course_ends.f k [a, b]) (chg (a ++ b)) := by
  unfold course_ends.f
  exact Ev.bind (fconcat_of a b (by omega) (by omega)) (ends_loop (a ++ b) (by simp; omega) _ 0 [0, 1048576] (by omega) rfl (by simp))
theorem ends1_of (a : List S58) (ha : a.length ≤ 400) : Ev (fun k => course_ends.f k [a]) (chg a) := by
  unfold course_ends.f
  exact Ev.bind (fconcat1_of a (by omega)) (ends_loop a (by omega) _ 0 [0, 1048576] (by omega) rfl (by simp))
theorem chg_len (c : List S58) : (chg c).length ≤ 2 + 2 * c.length := by
  have := days_len ([0, 1048576] ++ sEnds c)
  rw [List.length_append, sEnds_len] at this
  exact this
theorem chg_rise (c : List S58) : (chg c).Pairwise (· < ·) := days_rise _
theorem chg_mem (c : List S58) (s : S58) (h : s ∈ c) : s.f0 ∈ chg c ∧ s.f1 ∈ chg c := by
  have := sEnds_mem c s h
  unfold chg
  rw [mem_days, mem_days]
  exact ⟨List.mem_append.2 (.inr this.1), List.mem_append.2 (.inr this.2)⟩
theorem sEnds_rng (c : List S58) (hc : ∀ s ∈ c, okspan s) (x : Int) (h : x ∈ sEnds c) : 0 ≤ x ∧ x ≤ 1048576 := by
  induction c with
  | nil => simp [sEnds] at h
  | cons s l ih =>
    have hs := hc s (by simp); have h1 := hs.1; have h2 := hs.2.1; have h3 := hs.2.2.1
    unfold sEnds at h
    rcases List.mem_cons.1 h with rfl | h
    · omega
    rcases List.mem_cons.1 h with rfl | h
    · omega
    · exact ih (fun t ht => hc t (by simp [ht])) h
theorem chg_rng (c : List S58) (hc : ∀ s ∈ c, okspan s) (x : Int) (h : x ∈ chg c) : 0 ≤ x ∧ x ≤ 1048576 := by
  unfold chg at h
  rw [mem_days] at h
  rcases List.mem_append.1 h with h | h
  · simp at h; omega
  · exact sEnds_rng c hc x h
theorem chg_two (c : List S58) : 2 ≤ (chg c).length := by
  have h0 : (0 : Int) ∈ chg c := by unfold chg; rw [mem_days]; simp
  have h1 : (1048576 : Int) ∈ chg c := by unfold chg; rw [mem_days]; simp
  obtain ⟨i, hi, e⟩ := mem_rd h0
  obtain ⟨j, hj, e'⟩ := mem_rd h1
  have : i ≠ j := by rintro rfl; omega
  omega
theorem chg_first (c : List S58) (hc : ∀ s ∈ c, okspan s) : rd (chg c) ((0 : Nat) : Int) = 0 := by
  have h0 : (0 : Int) ∈ chg c := by unfold chg; rw [mem_days]; simp
  have hl := chg_two c
  obtain ⟨i, hi, e⟩ := mem_rd h0
  have hb := chg_rng c hc _ (rd_mem 0 (by omega))
  rcases Nat.eq_zero_or_pos i with rfl | hp
  · exact e
  · have := rise_rd (chg_rise c) 0 i hp hi
    omega
theorem chg_last (c : List S58) (hc : ∀ s ∈ c, okspan s) : rd (chg c) (((chg c).length - 1 : Nat) : Int) = 1048576 := by
  have h0 : (1048576 : Int) ∈ chg c := by unfold chg; rw [mem_days]; simp
  have hl := chg_two c
  obtain ⟨i, hi, e⟩ := mem_rd h0
  have hb := chg_rng c hc _ (rd_mem ((chg c).length - 1) (by omega))
  rcases Nat.lt_or_eq_of_le (show i ≤ (chg c).length - 1 by omega) with hlt | he
  · have := rise_rd (chg_rise c) i ((chg c).length - 1) hlt (by omega)
    omega
  · rw [← he]; exact e
/-- on the days from one change on, before the next one, a course has one value -/
theorem chg_same (c l : List S58) (hs : ∀ s ∈ l, s ∈ c) (i : Nat) (hi : i + 1 < (chg c).length) (d : Int) (h1 : rd (chg c) (i : Int) ≤ d) (h2 : d < rd (chg c) ((i + 1 : Nat) : Int)) : atv l d = atv l (rd (chg c) (i : Int)) :=
  atv_const _ _ l (fun s h => ⟨days_gap (chg_rise c) i hi _ (chg_mem c s (hs s h)).1, days_gap (chg_rise c) i hi _ (chg_mem c s (hs s h)).2⟩) d h1 h2
theorem atv_out (l : List S58) (hl : ∀ s ∈ l, okspan s) (d : Int) (hd : d < 0 ∨ 1048576 ≤ d) : atv l d = (0, 0) :=
  atv_none l d fun t ht h => by have := hl t ht; have h1 := this.1; have h3 := this.2.2.1; have := h.1; have := h.2; omega
theorem atv_mem (l : List S58) (d : Int) : atv l d = (0, 0) ∨ ∃ s ∈ l, atv l d = (s.f2.f0, s.f2.f1) := by
  induction l with
  | nil => exact .inl rfl
  | cons s l ih =>
    simp only [atv]
    split
    · exact .inr ⟨s, by simp, rfl⟩
    · rcases ih with h | ⟨t, ht, h⟩
      · exact .inl h
      · exact .inr ⟨t, by simp [ht], h⟩
/-! #### sets of days -/
def spM : Int := 1048576
def spHas (l : List S90) (d : Int) : Prop := ∃ s ∈ l, s.f0 ≤ d ∧ d < s.f1
/-- normal form: within [lo, M], in order, with a day between two -/
def NF (M : Int) : Int → List S90 → Prop
  | _, [] => True
  | lo, s :: t => lo ≤ s.f0 ∧ s.f0 < s.f1 ∧ s.f1 ≤ M ∧ NF M (s.f1 + 1) t
theorem spHas_nil (d : Int) : ¬ spHas [] d := by rintro ⟨s, h, _⟩; simp at h
theorem spHas_cons (s : S90) (t : List S90) (d : Int) : spHas (s :: t) d ↔ (s.f0 ≤ d ∧ d < s.f1) ∨ spHas t d := by
  unfold spHas
  constructor
  · rintro ⟨x, h, h1, h2⟩
    rcases List.mem_cons.1 h with rfl | h
    · exact .inl ⟨h1, h2⟩
    · exact .inr ⟨x, h, h1, h2⟩
  · rintro (⟨h1, h2⟩ | ⟨x, h, h1, h2⟩)
    · exact ⟨s, List.mem_cons_self .., h1, h2⟩
    · exact ⟨x, List.mem_cons_of_mem _ h, h1, h2⟩
theorem spHas_append (a b : List S90) (d : Int) : spHas (a ++ b) d ↔ spHas a d ∨ spHas b d := by
  induction a with
  | nil => simp [spHas_nil]
  | cons s t ih => rw [List.cons_append, spHas_cons, spHas_cons, ih, or_assoc]
theorem NF.low {M : Int} : ∀ {l : List S90} {lo d : Int}, NF M lo l → spHas l d → lo ≤ d ∧ d < M
  | [], _, _, _, h => absurd h (spHas_nil _)
  | s :: t, lo, d, ⟨h1, h2, h3, h4⟩, h => by
    rcases (spHas_cons s t d).1 h with h | h
    · omega
    · have := NF.low h4 h; omega
theorem NF.weaken {M lo lo' : Int} {l : List S90} (h : NF M lo l) (hl : lo' ≤ lo) : NF M lo' l := by
  cases l with
  | nil => trivial
  | cons s t => exact ⟨by have := h.1; omega, h.2⟩
theorem NF.tighten {M M' : Int} : ∀ {l : List S90} {lo : Int}, NF M lo l → (∀ d, spHas l d → d < M') → NF M' lo l
  | [], _, _, _ => trivial
  | s :: t, lo, ⟨h1, h2, h3, h4⟩, h => ⟨h1, h2, by have := h (s.f1 - 1) ((spHas_cons ..).2 (.inl (by omega))); omega, NF.tighten h4 (fun d hd => h d ((spHas_cons ..).2 (.inr hd)))⟩
theorem NF.unique {M : Int} : ∀ {a b : List S90} {lo : Int}, NF M lo a → NF M lo b → (∀ d, spHas a d ↔ spHas b d) → a = b
  | [], [], _, _, _, _ => rfl
  | [], u :: v, _, _, hb, h => absurd ((h u.f0).2 ((spHas_cons ..).2 (.inl (by have := hb.2.1; omega)))) (spHas_nil _)
  | s :: t, [], _, ha, _, h => absurd ((h s.f0).1 ((spHas_cons ..).2 (.inl (by have := ha.2.1; omega)))) (spHas_nil _)
  | s :: t, u :: v, lo, ha, hb, h => by
    obtain ⟨a1, a2, a3, a4⟩ := ha
    obtain ⟨b1, b2, b3, b4⟩ := hb
    have lowA : ∀ d, spHas t d → s.f1 + 1 ≤ d := fun d hd => (NF.low a4 hd).1
    have lowB : ∀ d, spHas v d → u.f1 + 1 ≤ d := fun d hd => (NF.low b4 hd).1
    have toB : ∀ d, spHas (s :: t) d → (u.f0 ≤ d ∧ d < u.f1) ∨ u.f1 + 1 ≤ d := fun d hd => ((spHas_cons u v d).1 ((h d).1 hd)).imp id (lowB d)
    have toA : ∀ d, spHas (u :: v) d → (s.f0 ≤ d ∧ d < s.f1) ∨ s.f1 + 1 ≤ d := fun d hd => ((spHas_cons s t d).1 ((h d).2 hd)).imp id (lowA d)
    have inA : ∀ d, s.f0 ≤ d → d < s.f1 → spHas (s :: t) d := fun d p q => (spHas_cons ..).2 (.inl ⟨p, q⟩)
    have inB : ∀ d, u.f0 ≤ d → d < u.f1 → spHas (u :: v) d := fun d p q => (spHas_cons ..).2 (.inl ⟨p, q⟩)
    have e0 : s.f0 = u.f0 := by
      have x := toB s.f0 (inA _ (by omega) (by omega))
      have y := toA u.f0 (inB _ (by omega) (by omega))
      omega
    have e1 : s.f1 = u.f1 := by
      rcases Int.lt_trichotomy s.f1 u.f1 with g | g | g
      · have y := toA s.f1 (inB _ (by omega) (by omega)); omega
      · exact g
      · have y := toB u.f1 (inA _ (by omega) (by omega)); omega
    have e : s = u := by cases s; cases u; simp_all
    subst e
    congr 1
    refine NF.unique (lo := s.f1 + 1) a4 b4 fun d => ⟨fun hd => ?_, fun hd => ?_⟩
    · have l1 := lowA d hd
      rcases (spHas_cons s v d).1 ((h d).1 ((spHas_cons ..).2 (.inr hd))) with g | g
      · omega
      · exact g
    · have l1 := lowB d hd
      rcases (spHas_cons s t d).1 ((h d).2 ((spHas_cons ..).2 (.inr hd))) with g | g
      · omega
      · exact g
/-- the days of a raw list: each spell within all dates -/
def spFit (s : S90) : S90 := ⟨spell_fit.lm s.f0, spell_fit.lm s.f1⟩
theorem lm_range (n : Int) : 0 ≤ spell_fit.lm n ∧ spell_fit.lm n ≤ 1048576 := by unfold spell_fit.lm mx mn; repeat' split <;> omega
theorem lm_id {n : Int} (h0 : 0 ≤ n) (h1 : n ≤ 1048576) : spell_fit.lm n = n := by unfold spell_fit.lm mx mn; repeat' split <;> omega
theorem lm_lt {n d : Int} (h0 : 0 ≤ d) : d < spell_fit.lm n ↔ d < n ∧ d < 1048576 := by unfold spell_fit.lm mx mn; repeat' split <;> omega
theorem lm_le {n d : Int} (h1 : d < 1048576) : spell_fit.lm n ≤ d ↔ n ≤ d ∧ 0 ≤ d := by unfold spell_fit.lm mx mn; repeat' split <;> omega
def spGood (s : S90) : Bool := decide (s.f0 < s.f1)
def spAll (l : List S90) : List S90 := (l.map spFit).filter spGood
/-- the days that a list has within all dates -/
theorem spAll_has (l : List S90) (d : Int) : spHas (spAll l) d ↔ spHas l d ∧ 0 ≤ d ∧ d < 1048576 := by
  unfold spHas spAll
  constructor
  · rintro ⟨s, h, h1, h2⟩
    obtain ⟨h3, _⟩ := List.mem_filter.1 h
    obtain ⟨x, hx, rfl⟩ := List.mem_map.1 h3
    simp only [spFit] at h1 h2
    have r0 := lm_range x.f0
    have r1 := lm_range x.f1
    have := (lm_lt (n := x.f1) (d := d) (by omega)).1 h2
    have := (lm_le (n := x.f0) (d := d) (by omega)).1 h1
    exact ⟨⟨x, hx, by omega, by omega⟩, by omega, by omega⟩
  · rintro ⟨⟨x, hx, h1, h2⟩, h3, h4⟩
    have a := (lm_lt (n := x.f1) (d := d) h3).2 ⟨h2, h4⟩
    have b := (lm_le (n := x.f0) (d := d) h4).2 ⟨h1, h3⟩
    exact ⟨spFit x, List.mem_filter.2 ⟨List.mem_map.2 ⟨x, hx, rfl⟩, by simp only [spGood, spFit]; exact decide_eq_true (by omega)⟩, b, a⟩
theorem spAll_range {l : List S90} {s : S90} (h : s ∈ spAll l) : 0 ≤ s.f0 ∧ s.f0 < s.f1 ∧ s.f1 ≤ 1048576 := by
  obtain ⟨h3, h4⟩ := List.mem_filter.1 h
  obtain ⟨x, hx, rfl⟩ := List.mem_map.1 h3
  have r0 := lm_range x.f0
  have r1 := lm_range x.f1
  have := of_decide_eq_true h4
  simp only [spFit] at *
  omega
theorem spAll_length (l : List S90) : (spAll l).length ≤ l.length := by
  unfold spAll
  exact Nat.le_trans (List.length_filter_le _ _) (by simp)
/-- the sort -/
theorem spSort_of (l : List S90) (hl : l.length ≤ 1000000) (hr : ∀ s ∈ l, 0 ≤ s.f0 ∧ s.f0 ≤ 1048576) : ∃ r, spell_Sort.f l = some r ∧ r.length = l.length ∧ (∀ s, s ∈ r ↔ s ∈ l) ∧ r.Pairwise (fun a b => a.f0 ≤ b.f0) := by
  have hlm : ∀ s ∈ l, spell_Sort.lm s.f0 = s.f0 := fun s hs => lm_id (hr s hs).1 (hr s hs).2
  unfold spell_Sort.f
  by_cases h0 : l.length = 0
  · rw [if_pos h0]
    have : l = [] := List.length_eq_zero_iff.1 h0
    subst this
    exact ⟨[], rfl, rfl, fun _ => Iff.rfl, List.Pairwise.nil⟩
  · rw [if_neg h0, if_pos ⟨hl, List.all_eq_true.2 fun s hs => decide_eq_true (hlm s hs)⟩]
    have swo : Sort.SWO (ltOf spell_Sort.cf) := ⟨fun x => by unfold ltOf spell_Sort.cf; simp, fun x y z h1 h2 => by unfold ltOf spell_Sort.cf at *; simp at *; omega, fun x y z h1 h2 => by unfold ltOf spell_Sort.cf at *; simp at *; omega⟩
    have hp := Sort.pdq_sorts (ltOf spell_Sort.cf) swo l.toArray 0 l.toArray.size (Lib.bitLen l.toArray.size) true true (Nat.zero_le _) (Nat.le_refl _) (Or.inl rfl)
    refine ⟨_, rfl, ?_⟩
    unfold spell_Sort.srt
    rw [show l.length = l.toArray.size from rfl]
    obtain ⟨d, hd⟩ : ∃ d, d = Sort.pdq (ltOf spell_Sort.cf) l.toArray 0 l.toArray.size (Lib.bitLen l.toArray.size) true true := ⟨_, rfl⟩
    rw [← hd] at hp ⊢
    obtain ⟨⟨hsz, _, hperm⟩, hs⟩ := hp
    have e1 : (d.extract 0 l.toArray.size) = d := by rw [← hsz]; simp
    have e2 : (l.toArray.extract 0 l.toArray.size) = l.toArray := by simp
    rw [e1, e2] at hperm
    have hpl : d.toList.Perm l := hperm
    have hm : d.toList.map spell_Sort.nz = d.toList := by
      rw [List.map_congr_left (g := id) (fun s hs => ?_), List.map_id]
      show spell_Sort.nz s = s
      unfold spell_Sort.nz
      rw [hlm s (hpl.mem_iff.1 hs)]
    rw [hm]
    refine ⟨hpl.length_eq, fun s => hpl.mem_iff, ?_⟩
    rw [List.pairwise_iff_getElem]
    intro i j hi hj hij
    have hj' : j < d.size := by simpa using hj
    have q := hs i j (Nat.zero_le _) hij (by rw [← hsz]; exact hj')
    unfold ltOf spell_Sort.cf at q
    rw [getElem!_pos d j hj', getElem!_pos d i (by omega)] at q
    have q := of_decide_eq_false q
    have m1 := hlm d[i] (hpl.mem_iff.1 (Array.getElem_mem_toList ..))
    have m2 := hlm d[j] (hpl.mem_iff.1 (Array.getElem_mem_toList ..))
    rw [m1, m2] at q
    simp only [Array.getElem_toList]
    omega
/-- spells in order are merged where they meet -/
def spMerge (c : S90) : List S90 → List S90
  | [] => [c]
  | s :: t => if s.f0 ≤ c.f1 then spMerge ⟨c.f0, mx c.f1 s.f1⟩ t else c :: spMerge s t
theorem spMerge_nf : ∀ (t : List S90) (c : S90) (lo : Int), lo ≤ c.f0 → c.f0 < c.f1 → c.f1 ≤ 1048576 → (∀ s ∈ t, c.f0 ≤ s.f0 ∧ s.f0 < s.f1 ∧ s.f1 ≤ 1048576) → t.Pairwise (fun a b => a.f0 ≤ b.f0) → NF 1048576 lo (spMerge c t) ∧ (∀ d, spHas (spMerge c t) d ↔ spHas (c :: t) d) ∧ (spMerge c t).length ≤ t.length + 1
  | [], c, lo, h1, h2, h3, _, _ => ⟨⟨h1, h2, h3, trivial⟩, fun _ => Iff.rfl, by simp [spMerge]⟩
  | s :: t, c, lo, h1, h2, h3, h4, h5 => by
    obtain ⟨p1, p2⟩ := List.pairwise_cons.1 h5
    have hs := h4 s (List.mem_cons_self ..)
    have hm : mx c.f1 s.f1 = c.f1 ∨ mx c.f1 s.f1 = s.f1 := by unfold mx; split <;> simp
    have hm1 : c.f1 ≤ mx c.f1 s.f1 ∧ s.f1 ≤ mx c.f1 s.f1 := by unfold mx; split <;> omega
    rw [spMerge]
    by_cases hc : s.f0 ≤ c.f1
    · rw [if_pos hc]
      obtain ⟨a, b, e⟩ := spMerge_nf t ⟨c.f0, mx c.f1 s.f1⟩ lo h1 (by show c.f0 < mx c.f1 s.f1; omega) (by show mx c.f1 s.f1 ≤ _; omega) (fun x hx => h4 x (List.mem_cons_of_mem _ hx)) p2
      refine ⟨a, fun d => ?_, by simp; omega⟩
      rw [b, spHas_cons, spHas_cons, spHas_cons]
      show (c.f0 ≤ d ∧ d < mx c.f1 s.f1) ∨ _ ↔ _
      rw [← or_assoc]
      refine or_congr ?_ Iff.rfl
      omega
    · rw [if_neg hc]
      obtain ⟨a, b, e⟩ := spMerge_nf t s (c.f1 + 1) (by omega) hs.2.1 hs.2.2 (fun x hx => ⟨p1 x hx, (h4 x (List.mem_cons_of_mem _ hx)).2⟩) p2
      exact ⟨⟨h1, h2, h3, a⟩, fun d => by rw [spHas_cons, b, ← spHas_cons], by simp; omega⟩
theorem rdS (l : List S90) (i : Nat) (h : i < l.length) : rd_T90 l (i : Int) = l[i] := by
  unfold rd_T90
  simp [List.getD, h]
theorem rdS_last (p : List S90) (c : S90) : rd_T90 (p ++ [c]) (p.length : Int) = c := by
  rw [rdS _ _ (by simp)]; simp
/-- the second loop -/
theorem spL1 (x : List S90) (hx : x.length ≤ 1000000) : ∀ (n i : Nat) (p : List S90) (c : S90), i + n = x.length → p.length + 1 ≤ i → Ev (fun k => spell_Norm.l1 k (p ++ [c]) x (x.length : Int) (i : Int)) (p ++ spMerge c (x.drop i))
  | 0, i, p, c, h, hp => by
    refine Ev.step (fun k => by rw [spell_Norm.l1]) ?_
    refine Ev.ifn (by omega) (Ev.to ?_)
    rw [List.drop_eq_nil_of_le (by omega)]; rfl
  | n + 1, i, p, c, h, hp => by
    refine Ev.step (fun k => by rw [spell_Norm.l1]) ?_
    have hi : i < x.length := by omega
    have hl : wrap64 (((p ++ [c]).length : Int) - 1) = (p.length : Int) := by
      rw [List.length_append, List.length_singleton]; rw [w64 (by omega) (by omega)]; omega
    have hp1 : (p ++ [c]).length = p.length + 1 := by simp
    rw [hl, rdS_last, rdS _ _ hi, w64_succ hi (by omega)]
    refine Ev.ifp (by omega) (Ev.ifp (by omega) (Ev.ifp (by omega) (Ev.ifp (by omega) (Ev.ifp (by omega) (Ev.ifp (by omega) ?_)))))
    rw [List.drop_eq_getElem_cons hi, spMerge]
    by_cases hc : (x[i]).f0 ≤ c.f1
    · refine Ev.ifp hc ?_
      rw [if_pos hc]
      have hset : ∀ v : S90, (p ++ [c]).set ((p.length : Int)).toNat v = p ++ [v] := by
        intro v; simp
      rw [hset]
      exact spL1 x hx n (i + 1) p _ (by omega) (by omega)
    · refine Ev.ifn hc (Ev.ifp (by omega) ?_)
      rw [if_neg hc]
      have := spL1 x hx n (i + 1) (p ++ [c]) (x[i]) (by omega) (by omega)
      rw [List.append_assoc p [c] (spMerge x[i] _)] at this
      exact this
theorem spL1_of (x : List S90) (hx : x.length ≤ 1000000) (h4 : ∀ s ∈ x, 0 ≤ s.f0 ∧ s.f0 < s.f1 ∧ s.f1 ≤ 1048576) (h5 : x.Pairwise (fun a b => a.f0 ≤ b.f0)) : ∃ r, Ev (fun k => spell_Norm.l1 k [] x (x.length : Int) 0) r ∧ NF 1048576 0 r ∧ (∀ d, spHas r d ↔ spHas x d) ∧ r.length ≤ x.length := by
  cases hx0 : x with
  | nil => exact ⟨[], Ev.step (fun k => by rw [spell_Norm.l1]) (Ev.ifn (by simp) (Ev.to rfl)), trivial, fun _ => Iff.rfl, by simp⟩
  | cons s t =>
    rw [← hx0]
    have hs := h4 s (by rw [hx0]; exact List.mem_cons_self ..)
    have hlen : x.length = t.length + 1 := by rw [hx0]; simp
    obtain ⟨p1, p2⟩ := List.pairwise_cons.1 (hx0 ▸ h5)
    obtain ⟨a, b, e⟩ := spMerge_nf t s 0 hs.1 hs.2.1 hs.2.2 (fun u hu => ⟨p1 u hu, (h4 u (by rw [hx0]; exact List.mem_cons_of_mem _ hu)).2⟩) p2
    refine ⟨spMerge s t, ?_, a, fun d => by rw [b, hx0], by omega⟩
    refine Ev.step (fun k => by rw [spell_Norm.l1]) ?_
    have h0 : rd_T90 x 0 = s := by have := rdS x 0 (by omega); rw [show ((0 : Nat) : Int) = 0 from rfl] at this; rw [this]; simp [hx0]
    rw [h0, show wrap64 ((([] : List S90).length : Int) - 1) = -1 from by simp [wrap64], show wrap64 (0 + 1) = ((1 : Nat) : Int) from by simp [wrap64]]
    refine Ev.ifp (by omega) (Ev.ifp (by omega) (Ev.ifp (by omega) (Ev.ifn (by omega) (Ev.ifp (by simp) ?_))))
    have := spL1 x hx t.length 1 [] s (by omega) (by simp)
    rw [hx0, List.drop_one, List.tail_cons, ← hx0] at this
    exact this
/-- the first loop -/
theorem spL0 (x : List S90) (hx : x.length ≤ 1000000) : ∀ (n i : Nat) (p : List S90) (r : List S90), i + n = x.length → p.length ≤ i → (Ev (fun k => (spell_Sort.f (p ++ spAll (x.drop i))).bind fun t => spell_Norm.l1 k [] t ((p ++ spAll (x.drop i)).length : Int) 0) r) → Ev (fun k => spell_Norm.l0 k p x (x.length : Int) (i : Int)) r
  | 0, i, p, r, h, hp, hr => by
    refine Ev.step (fun k => by rw [spell_Norm.l0]) ?_
    refine Ev.ifn (by omega) ?_
    rw [List.drop_eq_nil_of_le (by omega), show spAll [] = [] from rfl, List.append_nil] at hr
    exact hr
  | n + 1, i, p, r, h, hp, hr => by
    refine Ev.step (fun k => by rw [spell_Norm.l0]) ?_
    have hi : i < x.length := by omega
    rw [rdS _ _ hi, w64_succ hi (by omega)]
    refine Ev.ifp (by omega) (Ev.ifp (by omega) (Ev.ifp (by omega) ?_))
    simp only [spell_fit.f, Option.bind_some]
    have hd : spAll (x.drop i) = (if spGood (spFit x[i]) = true then spFit x[i] :: spAll (x.drop (i + 1)) else spAll (x.drop (i + 1))) := by
      rw [List.drop_eq_getElem_cons hi]
      unfold spAll
      rw [List.map_cons, List.filter_cons]
    by_cases hg : spell_fit.lm (x[i]).f0 < spell_fit.lm (x[i]).f1
    · refine Ev.ifp hg (Ev.ifp (by omega) ?_)
      rw [hd, if_pos (by unfold spGood spFit; exact decide_eq_true hg)] at hr
      refine spL0 x hx n (i + 1) _ r (by omega) (by simp; omega) ?_
      rw [List.append_assoc]
      exact hr
    · refine Ev.ifn hg ?_
      rw [hd, if_neg (by unfold spGood spFit; simpa using hg)] at hr
      exact spL0 x hx n (i + 1) p r (by omega) (by omega) hr
theorem norm_of (l : List S90) (hl : l.length ≤ 1000000) : ∃ r, Ev (fun k => spell_Norm.f k l) r ∧ NF 1048576 0 r ∧ (∀ d, spHas r d ↔ spHas l d ∧ 0 ≤ d ∧ d < 1048576) ∧ r.length ≤ l.length := by
  have hlen := spAll_length l
  obtain ⟨q, hq, hq2, hq3, hq4⟩ := spSort_of (spAll l) (by omega) (fun s hs => by have := spAll_range hs; omega)
  obtain ⟨r, h1, h2, h3, h4⟩ := spL1_of q (by omega) (fun s hs => spAll_range ((hq3 s).1 hs)) hq4
  refine ⟨r, ?_, h2, fun d => ?_, by omega⟩
  · unfold spell_Norm.f
    have := spL0 l hl l.length 0 [] r (by omega) (by simp) (by
      simp only [List.drop_zero, List.nil_append, hq, Option.bind_some]
      rw [← hq2]; exact h1)
    exact this
  · rw [h3, ← spAll_has]
    unfold spHas
    exact ⟨fun ⟨s, a, b⟩ => ⟨s, (hq3 s).1 a, b⟩, fun ⟨s, a, b⟩ => ⟨s, (hq3 s).2 a, b⟩⟩
theorem has_of (l : List S90) (hl : l.length ≤ 1000) (d : Int) : ∃ b, spell_Has.f l d = some b ∧ (b = true ↔ spHas l d ∧ 0 ≤ d ∧ d < 1048576) := by
  unfold spell_Has.f
  rw [if_pos hl]
  refine ⟨_, rfl, ?_⟩
  rw [← spAll_has, List.any_eq_true]
  unfold spHas spAll
  constructor
  · rintro ⟨s, hs, h⟩
    unfold spell_Has.hit at h
    split at h
    · rename_i h1
      have h2 : d < spell_fit.lm s.f1 := of_decide_eq_true h
      have h3 : spell_fit.lm s.f0 ≤ d := h1
      exact ⟨spFit s, List.mem_filter.2 ⟨List.mem_map.2 ⟨s, hs, rfl⟩, by simp only [spGood, spFit]; exact decide_eq_true (by omega)⟩, h3, h2⟩
    · simp at h
  · rintro ⟨s, hs, h1, h2⟩
    obtain ⟨h3, _⟩ := List.mem_filter.1 hs
    obtain ⟨x, hx, rfl⟩ := List.mem_map.1 h3
    refine ⟨x, hx, ?_⟩
    unfold spell_Has.hit
    have a1 : spell_Has.lm x.f0 ≤ d := h1
    have a2 : d < spell_Has.lm x.f1 := h2
    rw [if_pos a1]
    exact decide_eq_true a2
/-- course_Zip -/
theorem course_Zip_l1 (G : Int × Int → Int × Int → Int × Int) (a b : List S58) (ha : Valid a) (hb : Valid b) (hla : a.length ≤ 90) (hlb : b.length ≤ 90)
    (hG : ∀ d, ((mootkeep1_CourseZip_1.f (atv a d).1 (atv a d).2 (atv b d).1 (atv b d).2).bind fun t => unit_Fit.f t.1 t.2) = some (G (atv a d) (atv b d))) (hok : ∀ d, G (atv a d) (atv b d) = (0, 0) ∨ okv (G (atv a d) (atv b d)).1 (G (atv a d) (atv b d)).2) (hzero : G (0, 0) (0, 0) = (0, 0)) (n : Nat) :
    ∀ (i : Nat) (out : List S58), i < (chg (a ++ b)).length → (chg (a ++ b)).length - 1 - i = n → Valid out → out.length ≤ i → Upto out (rd (chg (a ++ b)) (i : Int)) → (∀ d, atv out d = if d < rd (chg (a ++ b)) (i : Int) then G (atv a d) (atv b d) else (0, 0)) →
    ∃ r, Ev (fun k => course_Zip.l1 k a b out (chg (a ++ b)) (i : Int)) (r, 0) ∧ Valid r ∧ r.length ≤ 400 ∧ ∀ d, atv r d = G (atv a d) (atv b d) := by
  have hso : ∀ s ∈ a ++ b, okspan s := fun s h => (List.mem_append.1 h).elim (ha.ok s) (hb.ok s)
  have hcl := chg_len (a ++ b)
  rw [List.length_append] at hcl
  have hlast := chg_last (a ++ b) hso
  obtain ⟨E, hE⟩ : ∃ E, E = chg (a ++ b) := ⟨_, rfl⟩
  rw [← hE] at hcl hlast ⊢
  have hri : E.Pairwise (· < ·) := by rw [hE]; exact chg_rise _
  induction n with
  | zero =>
    intro i out hi hn hv hlen hup hat
    have hw := w64_succ (i := i) (n := E.length) (by omega) (by omega)
    refine ⟨out, Ev.step (f := fun k => (course_Check.f k out).bind fun t => if t = 0 then some (out, 0) else some ([], t)) (fun k => ?_) (Ev.bind (check_of hv (by omega)) (Ev.ifp rfl (Ev.now _))), hv, by omega, fun d => ?_⟩
    · simp only [course_Zip.l1, hw]
      rw [if_neg (by omega)]
    · rw [hat d]
      have hie : i = E.length - 1 := by omega
      rw [hie, hlast]
      by_cases hd : d < 1048576
      · rw [if_pos hd]
      · rw [if_neg hd, atv_out a ha.ok d (.inr (by omega)), atv_out b hb.ok d (.inr (by omega)), hzero]
  | succ n ih =>
    intro i out hi hn hv hlen hup hat
    have hi1 : i + 1 < E.length := by omega
    have hw := w64_succ (i := i) (n := E.length) (by omega) (by omega)
    have hlt := rise_rd hri i (i + 1) (by omega) hi1
    have hb1 : 0 ≤ rd E (i : Int) ∧ rd E (i : Int) ≤ 1048576 := chg_rng (a ++ b) hso _ (by rw [← hE]; exact rd_mem i hi)
    have hb2 : 0 ≤ rd E ((i + 1 : Nat) : Int) ∧ rd E ((i + 1 : Nat) : Int) ≤ 1048576 := chg_rng (a ++ b) hso _ (by rw [← hE]; exact rd_mem (i + 1) hi1)
    have hsame : ∀ d, rd E (i : Int) ≤ d → d < rd E ((i + 1 : Nat) : Int) → atv a d = atv a (rd E (i : Int)) ∧ atv b d = atv b (rd E (i : Int)) := by
      rw [hE]
      exact fun d h1 h2 => ⟨chg_same (a ++ b) a (fun s h => List.mem_append.2 (.inl h)) i (by rw [← hE]; exact hi1) d h1 h2, chg_same (a ++ b) b (fun s h => List.mem_append.2 (.inr h)) i (by rw [← hE]; exact hi1) d h1 h2⟩
    have hg := hG (rd E (i : Int))
    have hk := hok (rd E (i : Int))
    rcases hu : G (atv a (rd E (i : Int))) (atv b (rd E (i : Int))) with ⟨kd, m⟩
    rw [hu] at hg hk
    obtain ⟨r, hr, hrv, hrl, hra, hru⟩ := grow_of out (rd E (i : Int)) (rd E ((i + 1 : Nat) : Int)) kd m hv (by omega) (by
      rcases hk with h | h
      · exact .inr (.inl (Prod.mk.inj h).1)
      · exact .inr (.inr ⟨⟨hb1.1, hlt, hb2.2, h⟩, hup⟩))
    obtain ⟨r', hr', h'⟩ := ih (i + 1) r hi1 (by omega) hrv (by omega) (hru _ (hup.mono (by omega)) (fun _ => by omega)) (fun d => by
      rw [hra d, hat d]
      by_cases h1 : d < rd E (i : Int)
      · rw [if_neg (c := _ ∧ _) (by omega), if_pos h1, if_pos (by omega)]
      · by_cases h2 : d < rd E ((i + 1 : Nat) : Int)
        · obtain ⟨e1, e2⟩ := hsame d (by omega) h2
          rw [if_neg (c := d < rd E (i : Int)) h1, if_pos h2, e1, e2, hu]
          by_cases h3 : kd = 0
          · rw [if_neg (c := _ ∧ _) (fun h => h.2.2 h3)]
            rcases hk with h | h
            · exact h.symm
            · exact absurd h3 h.1
          · rw [if_pos ⟨by omega, h2, h3⟩]
        · rw [if_neg (c := _ ∧ _) (by omega), if_neg h1, if_neg h2])
    refine ⟨r', Ev.step (f := fun k => (course_At.f k a (rd E (i : Int))).bind fun bt => (course_At.f k b (rd E (i : Int))).bind fun bu => (mootkeep1_CourseZip_1.f bt.1 bt.2 bu.1 bu.2).bind fun bv => (unit_Fit.f bv.1 bv.2).bind fun bw => (course_grow.f k out (rd E (i : Int)) (rd E ((i + 1 : Nat) : Int)) bw.1 bw.2).bind fun t => course_Zip.l1 k a b t E ((i + 1 : Nat) : Int)) (fun k => ?_) ?_, h'⟩
    · simp only [course_Zip.l1, hw]
      rw [if_pos (by omega), if_pos (by omega), if_pos (by omega), if_pos (by omega)]
    · refine Ev.bind (at_of a _ (by omega)) (Ev.bind (at_of b _ (by omega)) ?_)
      refine Ev.congr (f := fun k => ((mootkeep1_CourseZip_1.f (atv a (rd E (i : Int))).1 (atv a (rd E (i : Int))).2 (atv b (rd E (i : Int))).1 (atv b (rd E (i : Int))).2).bind fun t => unit_Fit.f t.1 t.2).bind fun bw => (course_grow.f k out (rd E (i : Int)) (rd E ((i + 1 : Nat) : Int)) bw.1 bw.2).bind fun t => course_Zip.l1 k a b t E ((i + 1 : Nat) : Int)) (fun k => ?_) ?_
      · rw [Option.bind_assoc]
      · rw [hg]
        simp only [Option.bind_some]
        exact Ev.bind hr hr'
theorem course_Zip_of (G : Int × Int → Int × Int → Int × Int) (a b : List S58) (ha : Valid a) (hb : Valid b) (hla : a.length ≤ 90) (hlb : b.length ≤ 90)
    (hG : ∀ d, ((mootkeep1_CourseZip_1.f (atv a d).1 (atv a d).2 (atv b d).1 (atv b d).2).bind fun t => unit_Fit.f t.1 t.2) = some (G (atv a d) (atv b d))) (hok : ∀ d, G (atv a d) (atv b d) = (0, 0) ∨ okv (G (atv a d) (atv b d)).1 (G (atv a d) (atv b d)).2) (hzero : G (0, 0) (0, 0) = (0, 0)) (z : Int) :
    ∃ r, Ev (fun k => course_Zip.f k z a b) (r, 0) ∧ Valid r ∧ r.length ≤ 400 ∧ ∀ d, atv r d = G (atv a d) (atv b d) := by
  have hso : ∀ s ∈ a ++ b, okspan s := fun s h => (List.mem_append.1 h).elim (ha.ok s) (hb.ok s)
  have hfirst := chg_first (a ++ b) hso
  obtain ⟨r, hr, h⟩ := course_Zip_l1 G a b ha hb hla hlb hG hok hzero _ 0 [] (by have := chg_two (a ++ b); omega) rfl Valid.nil (by simp) (fun t ht => by simp at ht) (fun d => by
    rw [hfirst]
    by_cases hd : d < 0
    · rw [if_pos hd, atv_out a ha.ok d (.inl hd), atv_out b hb.ok d (.inl hd), hzero]
      rfl
    · rw [if_neg hd]; rfl)
  refine ⟨r, ?_, h⟩
  simp only [course_Zip.f, Option.bind_some]
  have e0 : wrap64 ((0 : Int) + 1) = 1 := by simp [wrap64]
  have e1 : wrap64 ((1 : Int) + 1) = 2 := by simp [wrap64]
  have r0 : rd_L4 [a, b] 0 = a := rfl
  have r1 : rd_L4 [a, b] 1 = b := rfl
  refine Ev.step (fun k => by rw [course_Zip.l0]) (Ev.ifp (by simp) (Ev.ifp (by omega) (Ev.ifp (by simp) ?_)))
  rw [r0, e0]
  refine Ev.bind (check_of ha (by omega)) (Ev.ifp rfl ?_)
  refine Ev.step (fun k => by rw [course_Zip.l0]) (Ev.ifp (by simp) (Ev.ifp (by omega) (Ev.ifp (by simp) ?_)))
  rw [r1, e1]
  refine Ev.bind (check_of hb (by omega)) (Ev.ifp rfl ?_)
  refine Ev.step (fun k => by rw [course_Zip.l0]) (Ev.ifn (by simp) ?_)
  exact Ev.bind (ends2_of a b (by omega) (by omega)) hr
/-- course_ZipD -/
theorem course_ZipD_l1 (G : Int × Int → Int × Int → Int × Int) (a b : List S58) (ha : Valid a) (hb : Valid b) (hla : a.length ≤ 90) (hlb : b.length ≤ 90)
    (hG : ∀ d, ((course_Differ_1.f (atv a d).1 (atv a d).2 (atv b d).1 (atv b d).2).bind fun t => unit_Fit.f t.1 t.2) = some (G (atv a d) (atv b d))) (hok : ∀ d, G (atv a d) (atv b d) = (0, 0) ∨ okv (G (atv a d) (atv b d)).1 (G (atv a d) (atv b d)).2) (hzero : G (0, 0) (0, 0) = (0, 0)) (n : Nat) :
    ∀ (i : Nat) (out : List S58), i < (chg (a ++ b)).length → (chg (a ++ b)).length - 1 - i = n → Valid out → out.length ≤ i → Upto out (rd (chg (a ++ b)) (i : Int)) → (∀ d, atv out d = if d < rd (chg (a ++ b)) (i : Int) then G (atv a d) (atv b d) else (0, 0)) →
    ∃ r, Ev (fun k => course_ZipD.l1 k a b out (chg (a ++ b)) (i : Int)) (r, 0) ∧ Valid r ∧ r.length ≤ 400 ∧ ∀ d, atv r d = G (atv a d) (atv b d) := by
  have hso : ∀ s ∈ a ++ b, okspan s := fun s h => (List.mem_append.1 h).elim (ha.ok s) (hb.ok s)
  have hcl := chg_len (a ++ b)
  rw [List.length_append] at hcl
  have hlast := chg_last (a ++ b) hso
  obtain ⟨E, hE⟩ : ∃ E, E = chg (a ++ b) := ⟨_, rfl⟩
  rw [← hE] at hcl hlast ⊢
  have hri : E.Pairwise (· < ·) := by rw [hE]; exact chg_rise _
  induction n with
  | zero =>
    intro i out hi hn hv hlen hup hat
    have hw := w64_succ (i := i) (n := E.length) (by omega) (by omega)
    refine ⟨out, Ev.step (f := fun k => (course_Check.f k out).bind fun t => if t = 0 then some (out, 0) else some ([], t)) (fun k => ?_) (Ev.bind (check_of hv (by omega)) (Ev.ifp rfl (Ev.now _))), hv, by omega, fun d => ?_⟩
    · simp only [course_ZipD.l1, hw]
      rw [if_neg (by omega)]
    · rw [hat d]
      have hie : i = E.length - 1 := by omega
      rw [hie, hlast]
      by_cases hd : d < 1048576
      · rw [if_pos hd]
      · rw [if_neg hd, atv_out a ha.ok d (.inr (by omega)), atv_out b hb.ok d (.inr (by omega)), hzero]
  | succ n ih =>
    intro i out hi hn hv hlen hup hat
    have hi1 : i + 1 < E.length := by omega
    have hw := w64_succ (i := i) (n := E.length) (by omega) (by omega)
    have hlt := rise_rd hri i (i + 1) (by omega) hi1
    have hb1 : 0 ≤ rd E (i : Int) ∧ rd E (i : Int) ≤ 1048576 := chg_rng (a ++ b) hso _ (by rw [← hE]; exact rd_mem i hi)
    have hb2 : 0 ≤ rd E ((i + 1 : Nat) : Int) ∧ rd E ((i + 1 : Nat) : Int) ≤ 1048576 := chg_rng (a ++ b) hso _ (by rw [← hE]; exact rd_mem (i + 1) hi1)
    have hsame : ∀ d, rd E (i : Int) ≤ d → d < rd E ((i + 1 : Nat) : Int) → atv a d = atv a (rd E (i : Int)) ∧ atv b d = atv b (rd E (i : Int)) := by
      rw [hE]
      exact fun d h1 h2 => ⟨chg_same (a ++ b) a (fun s h => List.mem_append.2 (.inl h)) i (by rw [← hE]; exact hi1) d h1 h2, chg_same (a ++ b) b (fun s h => List.mem_append.2 (.inr h)) i (by rw [← hE]; exact hi1) d h1 h2⟩
    have hg := hG (rd E (i : Int))
    have hk := hok (rd E (i : Int))
    rcases hu : G (atv a (rd E (i : Int))) (atv b (rd E (i : Int))) with ⟨kd, m⟩
    rw [hu] at hg hk
    obtain ⟨r, hr, hrv, hrl, hra, hru⟩ := grow_of out (rd E (i : Int)) (rd E ((i + 1 : Nat) : Int)) kd m hv (by omega) (by
      rcases hk with h | h
      · exact .inr (.inl (Prod.mk.inj h).1)
      · exact .inr (.inr ⟨⟨hb1.1, hlt, hb2.2, h⟩, hup⟩))
    obtain ⟨r', hr', h'⟩ := ih (i + 1) r hi1 (by omega) hrv (by omega) (hru _ (hup.mono (by omega)) (fun _ => by omega)) (fun d => by
      rw [hra d, hat d]
      by_cases h1 : d < rd E (i : Int)
      · rw [if_neg (c := _ ∧ _) (by omega), if_pos h1, if_pos (by omega)]
      · by_cases h2 : d < rd E ((i + 1 : Nat) : Int)
        · obtain ⟨e1, e2⟩ := hsame d (by omega) h2
          rw [if_neg (c := d < rd E (i : Int)) h1, if_pos h2, e1, e2, hu]
          by_cases h3 : kd = 0
          · rw [if_neg (c := _ ∧ _) (fun h => h.2.2 h3)]
            rcases hk with h | h
            · exact h.symm
            · exact absurd h3 h.1
          · rw [if_pos ⟨by omega, h2, h3⟩]
        · rw [if_neg (c := _ ∧ _) (by omega), if_neg h1, if_neg h2])
    refine ⟨r', Ev.step (f := fun k => (course_At.f k a (rd E (i : Int))).bind fun bt => (course_At.f k b (rd E (i : Int))).bind fun bu => (course_Differ_1.f bt.1 bt.2 bu.1 bu.2).bind fun bv => (unit_Fit.f bv.1 bv.2).bind fun bw => (course_grow.f k out (rd E (i : Int)) (rd E ((i + 1 : Nat) : Int)) bw.1 bw.2).bind fun t => course_ZipD.l1 k a b t E ((i + 1 : Nat) : Int)) (fun k => ?_) ?_, h'⟩
    · simp only [course_ZipD.l1, hw]
      rw [if_pos (by omega), if_pos (by omega), if_pos (by omega), if_pos (by omega)]
    · refine Ev.bind (at_of a _ (by omega)) (Ev.bind (at_of b _ (by omega)) ?_)
      refine Ev.congr (f := fun k => ((course_Differ_1.f (atv a (rd E (i : Int))).1 (atv a (rd E (i : Int))).2 (atv b (rd E (i : Int))).1 (atv b (rd E (i : Int))).2).bind fun t => unit_Fit.f t.1 t.2).bind fun bw => (course_grow.f k out (rd E (i : Int)) (rd E ((i + 1 : Nat) : Int)) bw.1 bw.2).bind fun t => course_ZipD.l1 k a b t E ((i + 1 : Nat) : Int)) (fun k => ?_) ?_
      · rw [Option.bind_assoc]
      · rw [hg]
        simp only [Option.bind_some]
        exact Ev.bind hr hr'
theorem course_ZipD_of (G : Int × Int → Int × Int → Int × Int) (a b : List S58) (ha : Valid a) (hb : Valid b) (hla : a.length ≤ 90) (hlb : b.length ≤ 90)
    (hG : ∀ d, ((course_Differ_1.f (atv a d).1 (atv a d).2 (atv b d).1 (atv b d).2).bind fun t => unit_Fit.f t.1 t.2) = some (G (atv a d) (atv b d))) (hok : ∀ d, G (atv a d) (atv b d) = (0, 0) ∨ okv (G (atv a d) (atv b d)).1 (G (atv a d) (atv b d)).2) (hzero : G (0, 0) (0, 0) = (0, 0)) (z : Int) :
    ∃ r, Ev (fun k => course_ZipD.f k z a b) (r, 0) ∧ Valid r ∧ r.length ≤ 400 ∧ ∀ d, atv r d = G (atv a d) (atv b d) := by
  have hso : ∀ s ∈ a ++ b, okspan s := fun s h => (List.mem_append.1 h).elim (ha.ok s) (hb.ok s)
  have hfirst := chg_first (a ++ b) hso
  obtain ⟨r, hr, h⟩ := course_ZipD_l1 G a b ha hb hla hlb hG hok hzero _ 0 [] (by have := chg_two (a ++ b); omega) rfl Valid.nil (by simp) (fun t ht => by simp at ht) (fun d => by
    rw [hfirst]
    by_cases hd : d < 0
    · rw [if_pos hd, atv_out a ha.ok d (.inl hd), atv_out b hb.ok d (.inl hd), hzero]
      rfl
    · rw [if_neg hd]; rfl)
  refine ⟨r, ?_, h⟩
  simp only [course_ZipD.f, Option.bind_some]
  have e0 : wrap64 ((0 : Int) + 1) = 1 := by simp [wrap64]
  have e1 : wrap64 ((1 : Int) + 1) = 2 := by simp [wrap64]
  have r0 : rd_L4 [a, b] 0 = a := rfl
  have r1 : rd_L4 [a, b] 1 = b := rfl
  refine Ev.step (fun k => by rw [course_ZipD.l0]) (Ev.ifp (by simp) (Ev.ifp (by omega) (Ev.ifp (by simp) ?_)))
  rw [r0, e0]
  refine Ev.bind (check_of ha (by omega)) (Ev.ifp rfl ?_)
  refine Ev.step (fun k => by rw [course_ZipD.l0]) (Ev.ifp (by simp) (Ev.ifp (by omega) (Ev.ifp (by simp) ?_)))
  rw [r1, e1]
  refine Ev.bind (check_of hb (by omega)) (Ev.ifp rfl ?_)
  refine Ev.step (fun k => by rw [course_ZipD.l0]) (Ev.ifn (by simp) ?_)
  exact Ev.bind (ends2_of a b (by omega) (by omega)) hr
theorem where_l0 (c : List S58) (hc : Valid c) (hl : c.length ≤ 400) (n : Nat) : ∀ (i : Nat) (out : List S90), i < (chg c).length → (chg c).length - 1 - i = n → out.length ≤ i → (∀ d, spHas out d ↔ 0 ≤ d ∧ d < rd (chg c) (i : Int) ∧ (atv c d).1 = 1) →
    ∃ r, Ev (fun k => course_Where.l0 k c out (chg c) (i : Int)) (r, 0) ∧ r.length ≤ 900 ∧ ∀ d, spHas r d ↔ (0 ≤ d ∧ d < 1048576) ∧ (atv c d).1 = 1 := by
  have hcl := chg_len c
  have hlast := chg_last c hc.ok
  have hrng := chg_rng c hc.ok
  have hsm := chg_same c c (fun s h => h)
  have hri := chg_rise c
  generalize chg c = E at hcl hlast hrng hsm hri ⊢
  induction n with
  | zero =>
    intro i out hi hn ho hh
    obtain ⟨r, h1, h2, h3, h4⟩ := norm_of out (by omega)
    refine ⟨r, Ev.step (f := fun k => (spell_Norm.f k out).bind fun t => some (t, 0)) (fun k => ?_) (Ev.bind h1 (Ev.now _)), by omega, fun d => ?_⟩
    · simp only [course_Where.l0]
      rw [w64_succ (i := i) (n := E.length) (by omega) (by omega), if_neg (by omega)]
    · rw [h3, hh, show i = E.length - 1 from by omega, hlast]
      constructor
      · rintro ⟨⟨p1, p2, p3⟩, _⟩; exact ⟨⟨p1, p2⟩, p3⟩
      · rintro ⟨⟨p1, p2⟩, p3⟩; exact ⟨⟨p1, p2, p3⟩, p1, p2⟩
  | succ n ih =>
    intro i out hi hn ho hh
    have hi1 : i + 1 < E.length := by omega
    have hw := w64_succ (i := i) (n := E.length) (by omega) (by omega)
    have hlt := rise_rd hri i (i + 1) (by omega) hi1
    have hb1 := hrng _ (rd_mem i hi)
    have hsame := hsm i hi1
    have ev : ∀ r : List S90, Ev (fun k => (course_At.f k c (rd E (i : Int))).bind fun bt => (course_Differ_2.f bt.1 bt.2).bind fun t => (if t = true then (if 0 ≤ ((i + 1 : Nat) : Int) then (if out.length < 8796093022208 then (course_Where.l0 k c (out ++ [(⟨rd E (i : Int), rd E ((i + 1 : Nat) : Int)⟩ : S90)]) E ((i + 1 : Nat) : Int)) else none) else none) else (course_Where.l0 k c out E ((i + 1 : Nat) : Int)))) (r, 0) → Ev (fun k => course_Where.l0 k c out E (i : Int)) (r, 0) := by
      intro r h
      refine Ev.step (fun k => ?_) h
      simp only [course_Where.l0, hw]
      rw [if_pos (by omega), if_pos (by omega), if_pos (by omega)]
    by_cases he : (atv c (rd E (i : Int))).1 = 1
    · obtain ⟨r, hr, h⟩ := ih (i + 1) (out ++ [(⟨rd E (i : Int), rd E ((i + 1 : Nat) : Int)⟩ : S90)]) hi1 (by omega) (by simp; omega) (fun d => by
        rw [spHas_append, spHas_cons, hh]
        have h0 := spHas_nil d
        simp only [h0, or_false]
        constructor
        · rintro (⟨p1, p2, p3⟩ | ⟨p1, p2⟩)
          · exact ⟨p1, by omega, p3⟩
          · exact ⟨by omega, p2, by rw [hsame d p1 p2]; exact he⟩
        · rintro ⟨p1, p2, p3⟩
          by_cases hd : d < rd E (i : Int)
          · exact .inl ⟨p1, hd, p3⟩
          · exact .inr ⟨by omega, p2⟩)
      refine ⟨r, ev r (Ev.bind (at_of c _ (by omega)) ?_), h⟩
      unfold course_Differ_2.f
      rw [he]
      simp only [Option.bind_some]
      exact Ev.ifp (by rfl) (Ev.ifp (by omega) (Ev.ifp (by omega) hr))
    · obtain ⟨r, hr, h⟩ := ih (i + 1) out hi1 (by omega) (by omega) (fun d => by
        rw [hh]
        constructor
        · rintro ⟨p1, p2, p3⟩; exact ⟨p1, by omega, p3⟩
        · rintro ⟨p1, p2, p3⟩
          by_cases hd : d < rd E (i : Int)
          · exact ⟨p1, hd, p3⟩
          · exact absurd (by rw [← hsame d (by omega) p2]; exact p3) he)
      refine ⟨r, ev r (Ev.bind (at_of c _ (by omega)) ?_), h⟩
      unfold course_Differ_2.f
      rw [show ((atv c (rd E (i : Int))).1 == 1) = false from beq_eq_false_iff_ne.2 he]
      simp only [Option.bind_some]
      exact Ev.ifn (by decide) hr
theorem where_of (c : List S58) (hc : Valid c) (hl : c.length ≤ 400) (z : Int) : ∃ r, Ev (fun k => course_Where.f k c z) (r, 0) ∧ r.length ≤ 900 ∧ ∀ d, spHas r d ↔ (0 ≤ d ∧ d < 1048576) ∧ (atv c d).1 = 1 := by
  have hf := chg_first c hc.ok
  obtain ⟨r, hr, h⟩ := where_l0 c hc hl _ 0 [] (by have := chg_two c; omega) rfl (by simp) (fun d => by
    rw [hf]
    have := spHas_nil d
    simp only [this, false_iff]
    rintro ⟨p1, p2, _⟩
    omega)
  refine ⟨r, ?_, h⟩
  unfold course_Where.f
  exact Ev.bind (check_of hc (by omega)) (Ev.ifp rfl (Ev.bind (ends1_of c (by omega)) hr))
def sumG (v w : Int × Int) : Int × Int := (max v.1 w.1, v.2 + w.2)
def difG (v w : Int × Int) : Int × Int := if v = w then (0, 0) else (1, 1)
theorem fit5 {m : Int} (h1 : -1048576 ≤ m) (h2 : m ≤ 1048576) : unit_Fit.f 5 m = some (5, m) := by
  have e : mx (-1048576) (mn m 1048576) = m := by rw [mx_max, mn_min]; omega
  unfold unit_Fit.f unit_known.f unit_Range.f
  simp [e]
theorem fit0 : unit_Fit.f 0 0 = some (0, 0) := by decide
theorem fit1 : unit_Fit.f 1 1 = some (1, 1) := by decide
theorem made_val {l : List S58} {a : Int} {i : Nat} (h : Made l a i) (d : Int) : atv l d = (0, 0) ∨ ∃ n : Int, atv l d = (5, n) ∧ 0 ≤ n ∧ n ≤ 14 := by
  rcases atv_mem l d with h1 | ⟨s, hs, h1⟩
  · exact .inl h1
  · have := h.small s hs
    exact .inr ⟨s.f2.f1, by rw [h1, this.1], this.2.1, this.2.2⟩
theorem CourseZip : mootkeep1_CourseZip.Pure := by
  intro l0 l1 a2
  intros
  have r2 := below_range a2 180 (by omega)
  obtain ⟨d, hd⟩ : ∃ x, x = a2 % 180 := ⟨_, rfl⟩
  rw [← hd] at r2
  obtain ⟨x, hx, ax, jx, hMx, hjx⟩ := line_of l0
  obtain ⟨y, hy, ay, jy, hMy, hjy⟩ := line_of l1
  have lx := hMx.len; have ly := hMy.len
  have hcl : ∀ e, (mootkeep1_CourseZip_1.f (atv x e).1 (atv x e).2 (atv y e).1 (atv y e).2) = some (sumG (atv x e) (atv y e)) := fun e => by
    unfold mootkeep1_CourseZip_1.f sumG
    rcases made_val hMx e with h | ⟨n, h, h1, h2⟩ <;> rcases made_val hMy e with g | ⟨m, g, g1, g2⟩ <;> rw [h, g] <;> simp only [mx_max] <;> rw [w64 (by omega) (by omega)]
  have hok : ∀ e, sumG (atv x e) (atv y e) = (0, 0) ∨ ∃ n : Int, sumG (atv x e) (atv y e) = (5, n) ∧ 0 ≤ n ∧ n ≤ 28 := fun e => by
    unfold sumG
    rcases made_val hMx e with h | ⟨n, h, h1, h2⟩ <;> rcases made_val hMy e with g | ⟨m, g, g1, g2⟩ <;> rw [h, g]
    · exact .inl rfl
    · exact .inr ⟨0 + m, rfl, by omega, by omega⟩
    · exact .inr ⟨n + 0, rfl, by omega, by omega⟩
    · exact .inr ⟨n + m, rfl, by omega, by omega⟩
  obtain ⟨z, hz, hzv, hzl, hza⟩ := course_Zip_of sumG x y hMx.valid hMy.valid (by omega) (by omega) (fun e => by
    rw [hcl e, Option.bind_some]
    rcases hok e with h | ⟨n, h, h1, h2⟩ <;> rw [h]
    · exact fit0
    · exact fit5 (by omega) (by omega)) (fun e => by
    rcases hok e with h | ⟨n, h, h1, h2⟩
    · exact .inl h
    · rw [h]; exact .inr (okv5 (by show -1048576 ≤ n; omega) (by show n ≤ 1048576; omega))) rfl 0
  have hdi : ∀ e, difG (atv x e) (atv y e) = (0, 0) ∨ difG (atv x e) (atv y e) = (1, 1) := fun e => by unfold difG; split <;> simp
  have hdc : ∀ v w : Int × Int, course_Differ_1.f v.1 v.2 w.1 w.2 = some (difG v w) := fun v w => by
    obtain ⟨v1, v2⟩ := v
    obtain ⟨w1, w2⟩ := w
    unfold course_Differ_1.f difG
    by_cases h : v1 = w1 ∧ v2 = w2
    · obtain ⟨rfl, rfl⟩ := h
      simp
    · rw [if_pos (by simp only [Bool.or_eq_true, Bool.not_eq_true', beq_eq_false_iff_ne]; exact (Classical.not_and_iff_not_or_not.1 h)), if_neg (fun e => h (by simpa using e))]
  obtain ⟨q, hq, hqv, hql, hqa⟩ := course_ZipD_of difG x y hMx.valid hMy.valid (by omega) (by omega) (fun e => by
    rw [hdc, Option.bind_some]
    rcases hdi e with h | h <;> rw [h]
    · exact fit0
    · exact fit1) (fun e => by
    rcases hdi e with h | h
    · exact .inl h
    · rw [h]; exact .inr ⟨by decide, by decide⟩) rfl 0
  obtain ⟨r, hr, hrl, hrh⟩ := where_of q hqv (by omega) 0
  have hdiff : Ev (fun k => course_Differ.f k x y) (r, 0) := by
    unfold course_Differ.f
    exact Ev.bind hq (Ev.ifp rfl (Ev.bind hr (Ev.now _)))
  obtain ⟨b, hb, hbi⟩ := has_of r (by omega) d
  have hbv : b = (!((atv x d).1 == (atv y d).1) || (!((atv x d).2 == (atv y d).2))) := by
    have e1 : b = true ↔ atv x d ≠ atv y d := by
      rw [hbi, hrh, hqa]
      unfold difG
      by_cases h : atv x d = atv y d
      · rw [if_pos h]; simp [h]
      · rw [if_neg h]
        constructor
        · intro _; exact h
        · intro _; exact ⟨⟨⟨by omega, by omega⟩, rfl⟩, by omega, by omega⟩
    have e2 : (!((atv x d).1 == (atv y d).1) || (!((atv x d).2 == (atv y d).2))) = true ↔ atv x d ≠ atv y d := by
      simp only [Bool.or_eq_true, Bool.not_eq_true', beq_eq_false_iff_ne, ne_eq, Prod.ext_iff]
      exact Classical.not_and_iff_not_or_not.symm
    rw [Bool.eq_iff_iff, e1, e2]
  refine Ev.rounds (g := fun k => mootkeep1_CourseZip.f k l0 l1 a2) ?_
  simp only [mootkeep1_CourseZip.f]
  refine Ev.bind hx (Ev.bind hy ?_)
  rw [below_of _ _ (by omega) (by omega), ← hd]
  simp only [Option.bind_some]
  refine Ev.bind hz (Ev.bind hdiff (Ev.bind courses_of (Ev.ifp rfl (Ev.ifp rfl (Ev.ifp rfl (Ev.bind (at_of z d (by omega)) (Ev.bind (at_of x d (by omega)) (Ev.bind (at_of y d (by omega)) ?_))))))))
  rw [hcl d]
  simp only [Option.bind_some]
  refine Ev.ifp (by rw [hza]; simp) ?_
  rw [hb]
  simp only [Option.bind_some]
  exact Ev.bind (at_of x d (by omega)) (Ev.bind (at_of y d (by omega)) (Ev.to (by rw [hbv]; simp)))
end Go.Proofs.Ytkcmjdbeiclbkaa.Pure
