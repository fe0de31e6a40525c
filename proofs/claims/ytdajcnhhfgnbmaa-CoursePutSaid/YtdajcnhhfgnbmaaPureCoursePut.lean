/-
A course has in a span what is put there and elsewhere what it had, and stays valid, for every list and all numbers.
-/
import Derived.Test.YtdajcnhhfgnbmaaPCoursePutx6
set_option linter.unusedVariables false
set_option linter.unusedSimpArgs false
namespace Go.Proofs.Ytdajcnhhfgnbmaa.Pure
open Go.RowKit Go.Proofs.Ytdajcnhhfgnbmaa.PCoursePut Go.Proofs.YtdajcnhhfgnbmaaW.PrintWords Go.Proofs.YtdajcnhhfgnbmaaW.PrintLast
/-- numbers that need no wrap -/
theorem w64 {x : Int} (h1 : -9223372036854775808 ≤ x) (h2 : x ≤ 9223372036854775807) : wrap64 x = x := by unfold wrap64; omega
theorem tdivnn {a b : Int} (h : 0 ≤ a) : Int.tdiv a b = a / b := Int.tdiv_eq_ediv_of_nonneg h
theorem tmodnn {a b : Int} (h : 0 ≤ a) : Int.tmod a b = a % b := Int.tmod_eq_emod_of_nonneg h
theorem Ev.ifp {α : Type} {c : Prop} [Decidable c] {a b : Nat → Option α} {r : α} (h : c) (k : Ev a r) : Ev (fun n => if c then a n else b n) r := Ev.congr (fun n => by rw [if_pos h]) k
theorem Ev.ifn {α : Type} {c : Prop} [Decidable c] {a b : Nat → Option α} {r : α} (h : ¬ c) (k : Ev b r) : Ev (fun n => if c then a n else b n) r := Ev.congr (fun n => by rw [if_neg h]) k
theorem Ev.to {α : Type} {a b : α} (h : a = b) : Ev (fun _ => some a) b := h ▸ Ev.now a
theorem below_of (x n : Int) (h0 : 0 < n) (h1 : n ≤ 4611686018427387904) : mootmake_Below.f x n = some (x % n) := by
  have hr := Int.emod_nonneg x (show n ≠ 0 by omega)
  have hl := Int.emod_lt_of_pos x h0
  unfold mootmake_Below.f
  rw [if_neg (by omega), Int.tmod_eq_emod]
  by_cases h : 0 ≤ x ∨ n ∣ x
  · rw [if_pos h, show x % n - ((0 : Nat) : Int) = x % n from by omega, if_neg (by omega)]
  · have h3 : x % n ≠ 0 := fun e => h (.inr (Int.dvd_of_emod_eq_zero e))
    rw [if_neg h, if_pos (by omega), w64 (by omega) (by omega)]
    congr 1; omega
theorem below_range (x n : Int) (h0 : 0 < n) : 0 ≤ x % n ∧ x % n < n := ⟨Int.emod_nonneg x (by omega), Int.emod_lt_of_pos x h0⟩
theorem drop_rd (l : List Int) (i : Nat) (h : i < l.length) : l.drop i = rd l (i : Int) :: l.drop (i + 1) := by
  rw [List.drop_eq_getElem_cons h]
  unfold rd
  simp [List.getD, h]
theorem w64_succ {i n : Nat} (h : i < n) (hn : n ≤ 9223372036854775807) : wrap64 ((i : Int) + 1) = ((i + 1 : Nat) : Int) := by
  rw [w64 (by omega) (by omega)]; omega
theorem next_of (l : List Int) (n : Int) (h0 : 0 < n) (h1 : n ≤ 4611686018427387904) : ∃ v l', mootmake_Stream_Next.f l n = some (v, l') ∧ 0 ≤ v ∧ v < n := by
  unfold mootmake_Stream_Next.f
  rw [if_neg (by omega)]
  by_cases h : l = []
  · rw [if_pos h]; exact ⟨0, l, rfl, by omega, h0⟩
  · rw [if_neg h, below_of _ _ h0 h1]
    have := below_range (rd l 0) n h0
    exact ⟨_, _, rfl, this.1, this.2⟩
/-- a span of a number of things, within all dates -/
def okspan (s : S46) : Prop := 0 ≤ s.f0 ∧ s.f0 < s.f1 ∧ s.f1 ≤ 1048576 ∧ s.f2.f0 = 5 ∧ -1048576 ≤ s.f2.f1 ∧ s.f2.f1 ≤ 1048576
def follows (p s : S46) : Prop := p.f1 ≤ s.f0 ∧ ¬ (s.f0 = p.f1 ∧ s.f2.f0 = p.f2.f0 ∧ s.f2.f1 = p.f2.f1)
inductive Valid : List S46 → Prop
  | nil : Valid []
  | one (s : S46) : okspan s → Valid [s]
  | snoc (l : List S46) (p s : S46) : Valid (l ++ [p]) → okspan s → follows p s → Valid (l ++ [p] ++ [s])
theorem getD_app (l : List S46) (s : S46) (i : Nat) (z : S46) : (l ++ [s]).getD i z = if i < l.length then l.getD i z else if i = l.length then s else z := by
  simp only [List.getD_eq_getElem?_getD, List.getElem?_append]
  split
  · rfl
  · split
    · rename_i h; subst h; simp
    · rename_i h h'
      rw [List.getElem?_eq_none (by simp; omega)]; rfl
theorem Valid.index {l : List S46} (h : Valid l) : ∀ i, i < l.length → okspan (l.getD i z46) ∧ (0 < i → follows (l.getD (i - 1) z46) (l.getD i z46)) := by
  induction h with
  | nil => intro i hi; simp at hi
  | one s hs => intro i hi; obtain rfl : i = 0 := by simp at hi; omega
                exact ⟨hs, fun h => by omega⟩
  | snoc l p s _ hs hf ih =>
    intro i hi
    by_cases hlt : i < (l ++ [p]).length
    · rw [getD_app (l ++ [p]) s i, getD_app (l ++ [p]) s (i - 1), if_pos hlt, if_pos (by omega)]
      exact ih i hlt
    · have e : i = (l ++ [p]).length := by rw [List.length_append] at hi; simp at hi hlt ⊢; omega
      rw [getD_app (l ++ [p]) s i, getD_app (l ++ [p]) s (i - 1), if_neg hlt, if_pos e]
      refine ⟨hs, fun hp => ?_⟩
      rw [if_pos (by omega), getD_app l p, if_neg (by simp at e; omega), if_pos (by simp at e; omega)]
      exact hf
theorem Valid.indexR {l : List S46} (h : Valid l) (i : Nat) (hi : i < l.length) : okspan (rd_T46 l (i : Int)) ∧ (0 < i → follows (rd_T46 l ((i - 1 : Nat) : Int)) (rd_T46 l (i : Int))) := h.index i hi
theorem ucheck_of (n : Int) (h1 : -1048576 ≤ n) (h2 : n ≤ 1048576) : unit_Check.f 5 n = some 0 := by
  unfold unit_Check.f unit_Range.f unit_known.f
  rw [if_neg (by decide), if_neg (by decide), if_neg (by decide), if_neg (by decide), if_pos rfl, if_pos (by decide)]
  simp only [Option.bind_some]
  rw [if_pos (by decide), if_neg (by omega), if_neg (by omega)]
theorem check_l0 (c : List S46) (hc : Valid c) (hl : c.length ≤ 1000) (n : Nat) : ∀ i : Nat, i ≤ c.length → c.length - i = n → Ev (fun k => course_Check.l0 k c c (c.length : Int) (i : Int)) 0 := by
  induction n with
  | zero =>
    intro i hi hn
    obtain rfl : i = c.length := by omega
    refine Ev.step (f := fun _ => some 0) (fun k => ?_) (Ev.now _)
    simp only [course_Check.l0]
    rw [if_neg (by omega)]
  | succ n ih =>
    intro i hi hn
    have hlt : i < c.length := by omega
    obtain ⟨⟨o1, o2, o3, o4, o5, o6⟩, hf⟩ := hc.indexR i hlt
    have ih' := ih (i + 1) (by omega) (by omega)
    refine Ev.step (f := fun k => course_Check.j1 k c (i : Int) 0 c (c.length : Int) (i : Int) false (rd_T46 c (i : Int)).f0 (rd_T46 c (i : Int)).f1 (rd_T46 c (i : Int)).f2.f0 (rd_T46 c (i : Int)).f2.f1) (fun k => ?_) ?_
    · simp only [course_Check.l0]
      rw [if_pos (by omega), if_pos (by omega), if_pos (by omega), o4, ucheck_of _ o5 o6]
      simp only [Option.bind_some]
      rw [if_neg (by omega), if_neg (by omega), decide_eq_false (by omega)]
    refine Ev.step (f := fun k => course_Check.j2 k c (i : Int) c (c.length : Int) (i : Int) false (rd_T46 c (i : Int)).f0 (rd_T46 c (i : Int)).f1 (rd_T46 c (i : Int)).f2.f0 (rd_T46 c (i : Int)).f2.f1) (fun k => ?_) ?_
    · simp only [course_Check.j1]
      rw [if_neg (by decide), if_pos (by trivial), if_neg (by omega)]
      by_cases hi0 : 0 < i
      · have hfo := (hf hi0).1
        rw [if_pos (by omega), w64 (x := (i : Int) - 1) (by omega) (by omega), if_pos (by omega), if_pos (by omega), show (i : Int) - 1 = ((i - 1 : Nat) : Int) from by omega, decide_eq_false (by omega)]
      · rw [if_neg (by omega)]
    refine Ev.step (fun k => ?_) ih'
    simp only [course_Check.j2]
    rw [if_neg (by decide), w64_succ hlt (by omega)]
    by_cases hi0 : 0 < i
    · have hfo := hf hi0
      rw [if_pos (by omega), w64 (x := (i : Int) - 1) (by omega) (by omega), if_pos (by omega), if_pos (by omega), show (i : Int) - 1 = ((i - 1 : Nat) : Int) from by omega]
      by_cases he : (rd_T46 c (i : Int)).f0 = (rd_T46 c ((i - 1 : Nat) : Int)).f1
      · rw [if_pos he, if_neg]
        intro hh
        rw [Bool.and_eq_true, beq_iff_eq, beq_iff_eq] at hh
        exact hfo.2 ⟨he, hh.1, hh.2⟩
      · rw [if_neg he]
    · rw [if_neg (by omega)]
theorem check_of {c : List S46} (hc : Valid c) (hl : c.length ≤ 1000) : Ev (fun k => course_Check.f k c) 0 := by
  simp only [course_Check.f]
  exact Ev.ifn (by omega) (check_l0 c hc hl _ 0 (by omega) rfl)
/-- what a course has on a day -/
def atv : List S46 → Int → Int × Int
  | [], _ => (0, 0)
  | s :: l, d => if s.f0 ≤ d ∧ d < s.f1 then (s.f2.f0, s.f2.f1) else atv l d
theorem drop_span (l : List S46) (i : Nat) (h : i < l.length) : l.drop i = rd_T46 l (i : Int) :: l.drop (i + 1) := by
  rw [List.drop_eq_getElem_cons h]
  unfold rd_T46
  simp [List.getD, h]
theorem at_l0 (c : List S46) (d : Int) (hl : c.length ≤ 4398046511104) (n : Nat) : ∀ i : Nat, i ≤ c.length → c.length - i = n → Ev (fun k => course_At.l0 k d c (c.length : Int) (i : Int)) (atv (c.drop i) d) := by
  induction n with
  | zero =>
    intro i hi hn
    obtain rfl : i = c.length := by omega
    rw [List.drop_length]
    refine Ev.step (f := fun _ => some (0, 0)) (fun k => ?_) (Ev.now _)
    simp only [course_At.l0]
    rw [if_neg (by omega)]
  | succ n ih =>
    intro i hi hn
    have hlt : i < c.length := by omega
    rw [drop_span c i hlt]
    simp only [atv]
    by_cases h1 : (rd_T46 c (i : Int)).f0 ≤ d
    · by_cases h2 : d < (rd_T46 c (i : Int)).f1
      · rw [if_pos ⟨h1, h2⟩]
        refine Ev.step (f := fun _ => some _) (fun k => ?_) (Ev.now _)
        simp only [course_At.l0]
        rw [if_pos (by omega), if_pos (by omega), if_pos (by omega), if_pos h1, if_pos h2]
      · rw [if_neg (fun h => h2 h.2)]
        refine Ev.step (fun k => ?_) (ih (i + 1) (by omega) (by omega))
        simp only [course_At.l0]
        rw [if_pos (by omega), if_pos (by omega), if_pos (by omega), if_pos h1, if_neg h2, w64_succ hlt (by omega)]
    · rw [if_neg (fun h => h1 h.1)]
      refine Ev.step (fun k => ?_) (ih (i + 1) (by omega) (by omega))
      simp only [course_At.l0]
      rw [if_pos (by omega), if_pos (by omega), if_pos (by omega), if_neg h1, w64_succ hlt (by omega)]
theorem at_of (c : List S46) (d : Int) (hl : c.length ≤ 4398046511104) : Ev (fun k => course_At.f k c d) (atv c d) := by
  simp only [course_At.f]
  exact at_l0 c d hl _ 0 (by omega) rfl
theorem courses_of : Ev (fun k => mootkeep1_courses.f k) true := by
  have hv : Valid [(⟨5, 7, (⟨5, 4⟩ : S43)⟩ : S46)] := Valid.one _ ⟨by decide, by decide, by decide, rfl, by decide, by decide⟩
  simp only [mootkeep1_courses.f, Option.bind_some]
  refine Ev.bind (check_of hv (by simp)) (Ev.ifp rfl ?_)
  refine Ev.bind (at_of _ 6 (by simp)) ?_
  exact Ev.to (by decide)
/-- what `line` has made so far: the next span begins at `a`, it is number `i` -/
structure Made (l : List S46) (a : Int) (i : Nat) : Prop where
  valid : Valid l
  len : l.length = i
  a0 : 0 ≤ a
  a1 : a ≤ 19 + 17 * i
  small : ∀ s ∈ l, 0 ≤ s.f2.f1 ∧ s.f2.f1 ≤ 14
  last : ∀ p, l.getLast? = some p → p.f1 ≤ a ∧ p.f2.f1 % 5 = ((i : Int) - 1) % 5
theorem Made.next {l : List S46} {a : Int} {i : Nat} (h : Made l a i) (hi : i < 7) {x y z : Int} (hx0 : 0 ≤ x) (hx : x < 15) (hy0 : 0 ≤ y) (hy : y < 3) (hz0 : 0 ≤ z) (hz : z < 3) :
    Made (l ++ [(⟨a, a + 1 + x, (⟨5, 5 * y + (i : Int) % 5⟩ : S43)⟩ : S46)]) (a + 1 + x + z) (i + 1) := by
  obtain ⟨hv, hl, h0, h1, hs, hlast⟩ := h
  have hok : okspan (⟨a, a + 1 + x, (⟨5, 5 * y + (i : Int) % 5⟩ : S43)⟩ : S46) := ⟨h0, by show a < a + 1 + x; omega, by show a + 1 + x ≤ 1048576; omega, rfl, by show -1048576 ≤ 5 * y + (i : Int) % 5; omega, by show 5 * y + (i : Int) % 5 ≤ 1048576; omega⟩
  refine ⟨?_, by simp [hl], by omega, by omega, ?_, ?_⟩
  · rcases List.eq_nil_or_concat l with rfl | ⟨l', p, rfl⟩
    · exact Valid.one _ hok
    · have hp := hlast p (by simp)
      simp only [List.concat_eq_append] at hv hl ⊢
      refine Valid.snoc l' p _ hv hok ⟨hp.1, ?_⟩
      rintro ⟨_, _, e⟩
      have e' : 5 * y + (i : Int) % 5 = p.f2.f1 := e
      omega
  · intro s hmem
    rcases List.mem_append.1 hmem with hm | hm
    · exact hs s hm
    · obtain rfl := List.mem_singleton.1 hm
      refine ⟨?_, ?_⟩
      · show 0 ≤ 5 * y + (i : Int) % 5; omega
      · show 5 * y + (i : Int) % 5 ≤ 14; omega
  · intro p hp
    rw [List.getLast?_append] at hp
    simp at hp
    subst hp
    refine ⟨?_, ?_⟩
    · show a + 1 + x ≤ a + 1 + x + z; omega
    · show (5 * y + (i : Int) % 5) % 5 = (((i + 1 : Nat) : Int) - 1) % 5; omega
theorem line_l0 (m : Int) (hm : m < 8) (n : Nat) : ∀ (i : Nat) (l : List S46) (a : Int) (st : List Int), (i : Int) ≤ max m 0 → (max m 0 - i).toNat = n → Made l a i →
    ∃ c, Ev (fun k => mootkeep1_line.l0 k l a m (i : Int) st) c ∧ ∃ a' j, Made c a' j ∧ j ≤ 7 := by
  induction n with
  | zero =>
    intro i l a st hi hn hM
    refine ⟨l, Ev.step (f := fun _ => some l) (fun k => ?_) (Ev.now _), a, i, hM, by omega⟩
    simp only [mootkeep1_line.l0]
    rw [if_neg (by omega)]
  | succ n ih =>
    intro i l a st hi hn hM
    have hi7 : i < 7 := by omega
    obtain ⟨x, s1, e1, x0, x1⟩ := next_of st 15 (by omega) (by omega)
    obtain ⟨y, s2, e2, y0, y1⟩ := next_of s1 3 (by omega) (by omega)
    obtain ⟨z, s3, e3, z0, z1⟩ := next_of s2 3 (by omega) (by omega)
    have h0 := hM.a0; have h1 := hM.a1; have hl := hM.len
    obtain ⟨c, hc, h⟩ := ih (i + 1) _ _ s3 (by omega) (by omega) (hM.next hi7 x0 x1 y0 y1 z0 z1)
    refine ⟨c, Ev.step (fun k => ?_) hc, h⟩
    simp only [mootkeep1_line.l0]
    rw [if_pos (by omega), e1]
    simp only [Option.bind_some]
    rw [e2]
    simp only [Option.bind_some]
    rw [if_pos (by omega), e3]
    simp only [Option.bind_some]
    rw [w64 (x := a + 1) (by omega) (by omega), w64 (x := a + 1 + x) (by omega) (by omega), w64 (x := a + 1 + x + z) (by omega) (by omega), w64 (x := 5 * y) (by omega) (by omega), tmodnn (by omega), w64 (x := 5 * y + (i : Int) % 5) (by omega) (by omega), w64 (x := (i : Int) + 1) (by omega) (by omega), show (i : Int) + 1 = ((i + 1 : Nat) : Int) from by omega]
theorem line_of (l : List Int) : ∃ c, Ev (fun k => mootkeep1_line.f k l) c ∧ ∃ a' j, Made c a' j ∧ j ≤ 7 := by
  obtain ⟨a, s1, e1, a0, a1⟩ := next_of l 20 (by omega) (by omega)
  obtain ⟨m, s2, e2, m0, m1⟩ := next_of s1 8 (by omega) (by omega)
  obtain ⟨c, hc, h⟩ := line_l0 m m1 _ 0 [] a s2 (by omega) rfl ⟨Valid.nil, rfl, a0, by omega, fun s h => by simp at h, fun p h => by simp at h⟩
  refine ⟨c, ?_, h⟩
  simp only [mootkeep1_line.f]
  rw [e1]
  simp only [Option.bind_some]
  rw [e2]
  exact hc
def has (s : S46) (d : Int) : Prop := s.f0 ≤ d ∧ d < s.f1
instance (s : S46) (d : Int) : Decidable (has s d) := by unfold has; infer_instance
theorem atv_none (l : List S46) (d : Int) (h : ∀ t ∈ l, ¬ has t d) : atv l d = (0, 0) := by
  induction l with
  | nil => rfl
  | cons s l ih =>
    simp only [atv]
    rw [if_neg (show ¬ (s.f0 ≤ d ∧ d < s.f1) from h s (by simp))]
    exact ih fun t ht => h t (by simp [ht])
theorem atv_snoc (l : List S46) (s : S46) (d : Int) : atv (l ++ [s]) d = if ∃ t ∈ l, has t d then atv l d else if has s d then (s.f2.f0, s.f2.f1) else (0, 0) := by
  induction l with
  | nil => simp [atv, has]
  | cons a l ih =>
    simp only [List.cons_append, atv]
    by_cases h : a.f0 ≤ d ∧ d < a.f1
    · rw [if_pos h, if_pos ⟨a, by simp, h⟩, if_pos h]
    · rw [if_neg h, ih, if_neg h]
      by_cases h2 : ∃ t ∈ l, has t d
      · obtain ⟨t, ht, hd⟩ := h2
        rw [if_pos ⟨t, ht, hd⟩, if_pos ⟨t, by simp [ht], hd⟩]
      · have h3 : ¬ ∃ t ∈ a :: l, has t d := by
          rintro ⟨t, ht, hd⟩
          rcases List.mem_cons.1 ht with rfl | ht
          · exact h hd
          · exact h2 ⟨t, ht, hd⟩
        rw [if_neg h2, if_neg h3]
theorem Valid.ok {l : List S46} (h : Valid l) : ∀ t ∈ l, okspan t := by
  induction h with
  | nil => intro t ht; simp at ht
  | one s hs => intro t ht; rw [List.mem_singleton.1 ht]; exact hs
  | snoc l p s _ hs _ ih =>
    intro t ht
    rcases List.mem_append.1 ht with ht | ht
    · exact ih t ht
    · rw [List.mem_singleton.1 ht]; exact hs
/-- no span of a course ends behind its last one -/
theorem Valid.hi {l : List S46} (h : Valid l) : ∀ p, l.getLast? = some p → ∀ t ∈ l, t.f1 ≤ p.f1 := by
  induction h with
  | nil => intro p hp; simp at hp
  | one s hs => intro p hp t ht; simp at hp; rw [List.mem_singleton.1 ht, hp]; omega
  | snoc l q s _ hs hf ih =>
    intro p hp t ht
    rw [List.getLast?_append] at hp
    simp at hp
    subst hp
    rcases List.mem_append.1 ht with ht | ht
    · have := ih q (by simp) t ht
      have := hf.1; have := hs.2.1
      omega
    · rw [List.mem_singleton.1 ht]; omega
theorem mn_min (a b : Int) : mn a b = min a b := by unfold mn; split <;> omega
theorem mx_max (a b : Int) : mx a b = max a b := by unfold mx; split <;> omega
theorem Valid.mk {l : List S46} {s : S46} (h : Valid l) (hs : okspan s) (hf : ∀ q, l.getLast? = some q → follows q s) : Valid (l ++ [s]) := by
  rcases List.eq_nil_or_concat l with rfl | ⟨l', p, rfl⟩
  · exact Valid.one s hs
  · simp only [List.concat_eq_append] at h hf ⊢
    exact Valid.snoc l' p s h hs (hf p (by simp))
theorem Valid.inv {l : List S46} {p : S46} (h : Valid (l ++ [p])) : Valid l ∧ okspan p ∧ ∀ q, l.getLast? = some q → follows q p := by
  generalize e : l ++ [p] = m at h
  cases h with
  | nil => simp at e
  | one s hs =>
    obtain ⟨rfl, rfl⟩ : l = [] ∧ p = s := by
      cases l with
      | nil => exact ⟨rfl, by simpa using e⟩
      | cons a l => simp at e
    exact ⟨Valid.nil, hs, fun q hq => by simp at hq⟩
  | snoc l2 p2 s2 hv hs hf =>
    obtain ⟨e1, e2⟩ := List.append_inj' e rfl
    obtain rfl : p = s2 := by simpa using e2
    subst e1
    refine ⟨hv, hs, fun q hq => ?_⟩
    obtain rfl : p2 = q := by simpa using hq
    exact hf
def Upto (l : List S46) (m : Int) : Prop := ∀ t ∈ l, t.f1 ≤ m
theorem Upto.mono {l : List S46} {m m' : Int} (h : Upto l m) (hm : m ≤ m') : Upto l m' := fun t ht => Int.le_trans (h t ht) hm
theorem grow_of (l : List S46) (f t kd n : Int) (hv : Valid l) (hl : l.length ≤ 2000) (hc : f ≥ t ∨ kd = 0 ∨ (okspan ⟨f, t, ⟨kd, n⟩⟩ ∧ Upto l f)) :
    ∃ r, Ev (fun k => course_grow.f k l f t kd n) r ∧ Valid r ∧ r.length ≤ l.length + 1 ∧ (∀ d, atv r d = if f ≤ d ∧ d < t ∧ kd ≠ 0 then (kd, n) else atv l d) ∧ ∀ m, Upto l m → (f < t → t ≤ m) → Upto r m := by
  simp only [course_grow.f]
  rw [w64 (x := (l.length : Int) - 1) (by omega) (by omega)]
  by_cases h1 : f ≥ t
  · refine ⟨l, Ev.ifp h1 (Ev.step (f := fun _ => some l) (fun k => ?_) (Ev.now _)), hv, by omega, fun d => ?_, fun m h _ => h⟩
    · simp only [course_grow.j0]; rfl
    · rw [if_neg (by omega)]
  by_cases h2 : kd = 0
  · refine ⟨l, Ev.ifn h1 (Ev.step (f := fun _ => some l) (fun k => ?_) (Ev.now _)), hv, by omega, fun d => ?_, fun m h _ => h⟩
    · simp only [course_grow.j0]; rw [if_pos (by simp [h2])]
    · rw [if_neg (fun h => h.2.2 h2)]
  obtain ⟨hok, hup⟩ : okspan ⟨f, t, ⟨kd, n⟩⟩ ∧ Upto l f := by
    rcases hc with h | h | h
    · exact absurd h h1
    · exact absurd h h2
    · exact h
  have o2 : f < t := hok.2.1
  -- a span more
  have happ : ∀ (d : Int), atv (l ++ [(⟨f, t, (⟨kd, n⟩ : S43)⟩ : S46)]) d = if f ≤ d ∧ d < t ∧ kd ≠ 0 then (kd, n) else atv l d := by
    intro d
    rw [atv_snoc]
    by_cases h : ∃ t ∈ l, has t d
    · obtain ⟨u, hu, hd⟩ := h
      have := hup u hu; have := hd.2
      rw [if_pos ⟨u, hu, hd⟩, if_neg (by omega)]
    · rw [if_neg h, atv_none l d (fun u hu hd => h ⟨u, hu, hd⟩)]
      by_cases hd : f ≤ d ∧ d < t
      · rw [if_pos (show has (⟨f, t, (⟨kd, n⟩ : S43)⟩ : S46) d from hd), if_pos ⟨hd.1, hd.2, h2⟩]
      · rw [if_neg (show ¬ has (⟨f, t, (⟨kd, n⟩ : S43)⟩ : S46) d from hd), if_neg (fun h => hd ⟨h.1, h.2.1⟩)]
  have happu : ∀ m, Upto l m → (f < t → t ≤ m) → Upto (l ++ [(⟨f, t, (⟨kd, n⟩ : S43)⟩ : S46)]) m := by
    intro m hm ht u hu
    rcases List.mem_append.1 hu with hu | hu
    · exact hm u hu
    · rw [List.mem_singleton.1 hu]; exact ht o2
  rcases List.eq_nil_or_concat l with rfl | ⟨l', p, rfl⟩
  · refine ⟨_, Ev.ifn h1 (Ev.step (f := fun _ => some ([] ++ [(⟨f, t, (⟨kd, n⟩ : S43)⟩ : S46)])) (fun k => ?_) (Ev.now _)), Valid.one _ hok, by simp, happ, happu⟩
    simp only [course_grow.j0]
    rw [if_neg (by simp [h2]), if_neg (by decide), if_pos (by decide)]
  · simp only [List.concat_eq_append] at *
    have hinv := hv.inv
    have hrd : rd_T46 (l' ++ [p]) (((l' ++ [p]).length : Int) - 1) = p := by
      have e : ((l' ++ [p]).length : Int) - 1 = ((l'.length : Nat) : Int) := by simp
      rw [e]
      show (l' ++ [p]).getD l'.length z46 = p
      rw [getD_app, if_neg (by omega), if_pos rfl]
    have hlen : (0 : Int) ≤ ((l' ++ [p]).length : Int) - 1 := by simp
    have hlt : ((l' ++ [p]).length : Int) - 1 < ((l' ++ [p]).length : Int) := by omega
    by_cases he : p.f1 = f ∧ p.f2.f0 = kd ∧ p.f2.f1 = n
    · obtain ⟨e1, e2, e3⟩ := he
      have hpo := hinv.2.1
      have hok' : okspan (⟨p.f0, t, (⟨p.f2.f0, p.f2.f1⟩ : S43)⟩ : S46) := ⟨hpo.1, by have := hpo.2.1; show p.f0 < t; omega, hok.2.2.1, by show p.f2.f0 = 5; exact hpo.2.2.2.1, hpo.2.2.2.2.1, hpo.2.2.2.2.2⟩
      have hlow : ∀ u ∈ l', u.f1 ≤ p.f0 := by
        intro u hu
        rcases List.eq_nil_or_concat l' with rfl | ⟨l2, q, rfl⟩
        · simp at hu
        · simp only [List.concat_eq_append] at *
          have := hinv.1.hi q (by simp) u hu
          have := (hinv.2.2 q (by simp)).1
          omega
      refine ⟨l' ++ [(⟨p.f0, t, (⟨p.f2.f0, p.f2.f1⟩ : S43)⟩ : S46)], Ev.ifn h1 (Ev.step (f := fun _ => some _) (fun k => ?_) (Ev.now _)), hinv.1.mk hok' (fun q hq => hinv.2.2 q hq), by simp, fun d => ?_, fun m hm ht u hu => ?_⟩
      · simp only [course_grow.j0]
        rw [if_neg (by simp [h2]), if_pos (by omega), if_pos hlen, if_pos hlt, hrd, if_pos e1, if_pos (by simp [e2, e3])]
        congr 1
        have e : (((l' ++ [p]).length : Int) - 1).toNat = l'.length := by simp
        rw [e]; simp
      · rw [atv_snoc, atv_snoc]
        by_cases h : ∃ t ∈ l', has t d
        · obtain ⟨u, hu, hd⟩ := h
          have := hlow u hu; have := hd.2; have := hpo.2.1
          rw [if_neg (c := f ≤ d ∧ d < t ∧ kd ≠ 0) (by omega), if_pos (c := ∃ t ∈ l', has t d) ⟨u, hu, hd⟩, if_pos (c := ∃ t ∈ l', has t d) ⟨u, hu, hd⟩]
        · rw [if_neg h, if_neg h]
          have hp1 := hpo.2.1
          by_cases hd : f ≤ d ∧ d < t
          · rw [if_pos (show has (⟨p.f0, t, (⟨p.f2.f0, p.f2.f1⟩ : S43)⟩ : S46) d from ⟨by show p.f0 ≤ d; omega, hd.2⟩), if_pos ⟨hd.1, hd.2, h2⟩]
            show (p.f2.f0, p.f2.f1) = (kd, n)
            rw [e2, e3]
          · rw [if_neg (c := f ≤ d ∧ d < t ∧ kd ≠ 0) (fun h => hd ⟨h.1, h.2.1⟩)]
            by_cases hd2 : has p d
            · have := hd2.1; have := hd2.2
              rw [if_pos hd2, if_pos (show has (⟨p.f0, t, (⟨p.f2.f0, p.f2.f1⟩ : S43)⟩ : S46) d from ⟨hd2.1, by show d < t; omega⟩)]
            · rw [if_neg hd2, if_neg]
              rintro ⟨ha, hb⟩
              have ha' : p.f0 ≤ d := ha; have hb' : d < t := hb
              exact hd2 ⟨ha', by omega⟩
      · rcases List.mem_append.1 hu with hu | hu
        · exact hm u (List.mem_append.2 (.inl hu))
        · rw [List.mem_singleton.1 hu]; exact ht o2
    · have hfo : follows p ⟨f, t, ⟨kd, n⟩⟩ := ⟨hup p (by simp), fun h => he ⟨h.1.symm, h.2.1.symm, h.2.2.symm⟩⟩
      refine ⟨_, Ev.ifn h1 (Ev.step (f := fun _ => some (l' ++ [p] ++ [(⟨f, t, (⟨kd, n⟩ : S43)⟩ : S46)])) (fun k => ?_) (Ev.now _)), Valid.snoc l' p _ hv hok hfo, by simp, happ, happu⟩
      simp only [course_grow.j0]
      rw [if_neg (by simp [h2]), if_pos (by omega), if_pos hlen, if_pos hlt, hrd]
      by_cases e1 : p.f1 = f
      · rw [if_pos e1, if_neg, if_pos (by omega)]
        intro hh
        rw [Bool.and_eq_true, beq_iff_eq, beq_iff_eq] at hh
        exact he ⟨e1, hh⟩
      · rw [if_neg e1, if_pos (by omega)]
theorem take_span (c : List S46) (i : Nat) (h : i < c.length) : c.take (i + 1) = c.take i ++ [rd_T46 c (i : Int)] := by
  rw [List.take_succ_eq_append_getElem h]
  show c.take i ++ [c[i]] = c.take i ++ [c.getD i z46]
  simp [List.getD, h]
/-- where the spans before number i end -/
def edge (c : List S46) (i : Nat) : Int := if i = 0 then 0 else (rd_T46 c ((i - 1 : Nat) : Int)).f1
theorem edge_le {c : List S46} (hc : Valid c) (i : Nat) (hi : i < c.length) : edge c i ≤ (rd_T46 c (i : Int)).f0 := by
  have h := hc.indexR i hi
  unfold edge
  by_cases e : i = 0
  · rw [if_pos e]; exact h.1.1
  · rw [if_neg e]; exact (h.2 (by omega)).1
theorem edge_succ (c : List S46) (i : Nat) : edge c (i + 1) = (rd_T46 c (i : Int)).f1 := by
  unfold edge; rw [if_neg (by omega)]; rfl
theorem edge_upto {c : List S46} (hc : Valid c) (i : Nat) (hi : i ≤ c.length) : Upto (c.take i) (edge c i) := by
  induction i with
  | zero => intro t ht; simp at ht
  | succ i ih =>
    have := edge_le hc i (by omega)
    have h := (hc.indexR i (by omega)).1.2.1
    rw [take_span c i (by omega), edge_succ]
    intro t ht
    rcases List.mem_append.1 ht with ht | ht
    · have := ih (by omega) t ht; omega
    · rw [List.mem_singleton.1 ht]; omega
theorem atv_take {c : List S46} (hc : Valid c) (i : Nat) (hi : i < c.length) (d : Int) : atv (c.take (i + 1)) d = if has (rd_T46 c (i : Int)) d then ((rd_T46 c (i : Int)).f2.f0, (rd_T46 c (i : Int)).f2.f1) else atv (c.take i) d := by
  rw [take_span c i hi, atv_snoc]
  have he := edge_le hc i hi
  have hu := edge_upto hc i (by omega)
  by_cases h : ∃ t ∈ c.take i, has t d
  · obtain ⟨u, hm, hd⟩ := h
    have := hu u hm; have := hd.2
    rw [if_pos ⟨u, hm, hd⟩, if_neg (fun h => by have := h.1; omega)]
  · rw [if_neg h, atv_none _ d (fun u hu hd => h ⟨u, hu, hd⟩)]
theorem put_l1 {c : List S46} (hc : Valid c) (hl : c.length ≤ 100) (F T kd n : Int) (hT : F ≤ T) (n' : Nat) : ∀ (i : Nat) (out : List S46), i ≤ c.length → c.length - i = n' → Valid out → out.length ≤ c.length + 1 + i → Upto out (max (edge c i) T) →
    (∀ d, atv out d = if F ≤ d ∧ d < T then (if kd ≠ 0 then (kd, n) else (0, 0)) else if d < F then atv c d else atv (c.take i) d) →
    ∃ r, Ev (fun k => course_Put.l1 k out c (c.length : Int) (i : Int) F T kd n) (r, 0) ∧ Valid r ∧ r.length ≤ 201 ∧ ∀ d, atv r d = if F ≤ d ∧ d < T then (if kd ≠ 0 then (kd, n) else (0, 0)) else atv c d := by
  induction n' with
  | zero =>
    intro i out hi hn hv hlen hup hat
    obtain rfl : i = c.length := by omega
    refine ⟨out, Ev.step (f := fun k => (course_Check.f k out).bind fun t => if t = 0 then some (out, 0) else some ([], t)) (fun k => ?_) (Ev.bind (check_of hv (by omega)) (Ev.ifp rfl (Ev.now _))), hv, by omega, fun d => ?_⟩
    · simp only [course_Put.l1]
      rw [if_neg (by omega)]
    · rw [hat d, List.take_length]
      by_cases h1 : F ≤ d ∧ d < T
      · rw [if_pos h1, if_pos h1]
      · rw [if_neg h1, if_neg h1]
        split <;> rfl
  | succ n' ih =>
    intro i out hi hn hv hlen hup hat
    have hlt : i < c.length := by omega
    have hx := hc.indexR i hlt
    have he := edge_le hc i hlt
    obtain ⟨⟨o1, o2, o3, o4, o5, o6⟩, _⟩ := hx
    have hsp := atv_take hc i hlt
    have hs := edge_succ c i
    obtain ⟨r, hr, hrv, hrl, hra, hru⟩ := grow_of out (max (rd_T46 c (i : Int)).f0 T) (rd_T46 c (i : Int)).f1 (rd_T46 c (i : Int)).f2.f0 (rd_T46 c (i : Int)).f2.f1 hv (by omega) (by
      by_cases h : max (rd_T46 c (i : Int)).f0 T ≥ (rd_T46 c (i : Int)).f1
      · exact .inl h
      · exact .inr (.inr ⟨⟨by show 0 ≤ max (rd_T46 c (i : Int)).f0 T; omega, by show max (rd_T46 c (i : Int)).f0 T < (rd_T46 c (i : Int)).f1; omega, o3, o4, o5, o6⟩, hup.mono (by omega)⟩))
    obtain ⟨r', hr', h'⟩ := ih (i + 1) r (by omega) (by omega) hrv (by omega) (hru _ (hup.mono (by omega)) (fun _ => by omega)) (fun d => by
      rw [hra d, hat d, hsp d]
      by_cases h1 : F ≤ d ∧ d < T
      · rw [if_neg (by omega), if_pos h1, if_pos h1]
      · rw [if_neg (c := F ≤ d ∧ d < T) h1, if_neg (c := F ≤ d ∧ d < T) h1]
        by_cases h2 : d < F
        · rw [if_neg (by omega), if_pos h2, if_pos h2]
        · rw [if_neg h2, if_neg h2]
          by_cases h3 : has (rd_T46 c (i : Int)) d
          · have h3' : (rd_T46 c (i : Int)).f0 ≤ d ∧ d < (rd_T46 c (i : Int)).f1 := h3
            rw [if_pos (c := _ ∧ _ ∧ _) ⟨by omega, h3'.2, by omega⟩, if_pos h3]
          · have h3' : ¬ ((rd_T46 c (i : Int)).f0 ≤ d ∧ d < (rd_T46 c (i : Int)).f1) := h3
            rw [if_neg (c := _ ∧ _ ∧ _) (by omega), if_neg h3])
    refine ⟨r', Ev.step (f := fun k => (course_grow.f k out (max (rd_T46 c (i : Int)).f0 T) (rd_T46 c (i : Int)).f1 (rd_T46 c (i : Int)).f2.f0 (rd_T46 c (i : Int)).f2.f1).bind fun t => course_Put.l1 k t c (c.length : Int) ((i + 1 : Nat) : Int) F T kd n) (fun k => ?_) (Ev.bind hr hr'), h'⟩
    simp only [course_Put.l1]
    rw [if_pos (by omega), if_pos (by omega), if_pos (by omega), mx_max, w64_succ hlt (by omega)]
theorem put_l0 {c : List S46} (hc : Valid c) (hl : c.length ≤ 100) (F T kd n : Int) (hF : 0 ≤ F) (hT : F ≤ T) (hT2 : T ≤ 1048576) (hk : kd = 0 ∨ kd = 5 ∧ -1048576 ≤ n ∧ n ≤ 1048576) (n' : Nat) : ∀ (i : Nat) (out : List S46), i ≤ c.length → c.length - i = n' → Valid out → out.length ≤ i → Upto out (edge c i) → Upto out F →
    (∀ d, atv out d = if d < F then atv (c.take i) d else (0, 0)) →
    ∃ r, Ev (fun k => course_Put.l0 k c out c (c.length : Int) (i : Int) F T kd n) (r, 0) ∧ Valid r ∧ r.length ≤ 201 ∧ ∀ d, atv r d = if F ≤ d ∧ d < T then (if kd ≠ 0 then (kd, n) else (0, 0)) else atv c d := by
  induction n' with
  | zero =>
    intro i out hi hn hv hlen hup hupF hat
    obtain rfl : i = c.length := by omega
    obtain ⟨r, hr, hrv, hrl, hra, hru⟩ := grow_of out F T kd n hv (by omega) (by
      by_cases h : F ≥ T
      · exact .inl h
      · rcases hk with h0 | ⟨h0, h1, h2⟩
        · exact .inr (.inl h0)
        · exact .inr (.inr ⟨⟨hF, by show F < T; omega, hT2, h0, h1, h2⟩, hupF⟩))
    obtain ⟨r', hr', h'⟩ := put_l1 hc hl F T kd n hT _ 0 r (by omega) rfl hrv (by omega) (by
        refine hru _ (hupF.mono (by omega)) (fun _ => by omega)) (fun d => by
      rw [hra d, hat d, List.take_length, List.take_zero]
      simp only [atv]
      by_cases h1 : F ≤ d ∧ d < T
      · rw [if_pos h1]
        by_cases h2 : kd ≠ 0
        · rw [if_pos ⟨h1.1, h1.2, h2⟩, if_pos h2]
        · rw [if_neg (fun h => h2 h.2.2), if_neg h2, if_neg (by omega)]
      · rw [if_neg h1, if_neg (c := F ≤ d ∧ d < T ∧ kd ≠ 0) (fun h => h1 ⟨h.1, h.2.1⟩)])
    refine ⟨r', Ev.step (f := fun k => (course_grow.f k out F T kd n).bind fun t => course_Put.l1 k t c (c.length : Int) ((0 : Nat) : Int) F T kd n) (fun k => ?_) (Ev.bind hr hr'), h'⟩
    simp only [course_Put.l0]
    rw [if_neg (by omega)]
    rfl
  | succ n' ih =>
    intro i out hi hn hv hlen hup hupF hat
    have hlt : i < c.length := by omega
    have hx := hc.indexR i hlt
    have he := edge_le hc i hlt
    obtain ⟨⟨o1, o2, o3, o4, o5, o6⟩, _⟩ := hx
    have hsp := atv_take hc i hlt
    have hs := edge_succ c i
    obtain ⟨r, hr, hrv, hrl, hra, hru⟩ := grow_of out (rd_T46 c (i : Int)).f0 (min (rd_T46 c (i : Int)).f1 F) (rd_T46 c (i : Int)).f2.f0 (rd_T46 c (i : Int)).f2.f1 hv (by omega) (by
      by_cases h : (rd_T46 c (i : Int)).f0 ≥ min (rd_T46 c (i : Int)).f1 F
      · exact .inl h
      · exact .inr (.inr ⟨⟨o1, by show (rd_T46 c (i : Int)).f0 < min (rd_T46 c (i : Int)).f1 F; omega, by show min (rd_T46 c (i : Int)).f1 F ≤ 1048576; omega, o4, o5, o6⟩, hup.mono he⟩))
    obtain ⟨r', hr', h'⟩ := ih (i + 1) r (by omega) (by omega) hrv (by omega) (hru _ (hup.mono (by omega)) (fun _ => by omega)) (hru _ hupF (fun _ => by omega)) (fun d => by
      rw [hra d, hat d, hsp d]
      by_cases h2 : d < F
      · rw [if_pos h2, if_pos h2]
        by_cases h3 : has (rd_T46 c (i : Int)) d
        · have h3' : (rd_T46 c (i : Int)).f0 ≤ d ∧ d < (rd_T46 c (i : Int)).f1 := h3
          rw [if_pos (c := _ ∧ _ ∧ _) ⟨h3'.1, by omega, by omega⟩, if_pos h3]
        · have h3' : ¬ ((rd_T46 c (i : Int)).f0 ≤ d ∧ d < (rd_T46 c (i : Int)).f1) := h3
          rw [if_neg (c := _ ∧ _ ∧ _) (by omega), if_neg h3]
      · rw [if_neg h2, if_neg h2, if_neg (by omega)])
    refine ⟨r', Ev.step (f := fun k => (course_grow.f k out (rd_T46 c (i : Int)).f0 (min (rd_T46 c (i : Int)).f1 F) (rd_T46 c (i : Int)).f2.f0 (rd_T46 c (i : Int)).f2.f1).bind fun t => course_Put.l0 k c t c (c.length : Int) ((i + 1 : Nat) : Int) F T kd n) (fun k => ?_) (Ev.bind hr hr'), h'⟩
    simp only [course_Put.l0]
    rw [if_pos (by omega), if_pos (by omega), if_pos (by omega), mn_min, w64_succ hlt (by omega)]
theorem put_of {c : List S46} (hc : Valid c) (hl : c.length ≤ 100) (F T kd n : Int) (hF : 0 ≤ F) (hT : F ≤ T) (hT2 : T ≤ 1048576) (hk : kd = 0 ∧ n = 0 ∨ kd = 5 ∧ -1048576 ≤ n ∧ n ≤ 1048576) :
    ∃ r, Ev (fun k => course_Put.f k c F T kd n) (r, 0) ∧ Valid r ∧ r.length ≤ 201 ∧ ∀ d, atv r d = if F ≤ d ∧ d < T then (kd, n) else atv c d := by
  obtain ⟨r, hr, hv, hlen, hat⟩ := put_l0 hc hl F T kd n hF hT hT2 (hk.imp (fun h => h.1) id) _ 0 [] (by omega) rfl Valid.nil (by simp) (fun t ht => by simp at ht) (fun t ht => by simp at ht) (fun d => by rw [List.take_zero]; simp [atv])
  have hu : unit_Check.f kd n = some 0 := by
    rcases hk with ⟨rfl, rfl⟩ | ⟨rfl, h1, h2⟩
    · decide
    · exact ucheck_of n h1 h2
  refine ⟨r, ?_, hv, hlen, fun d => ?_⟩
  · simp only [course_Put.f]
    refine Ev.bind (check_of hc (by omega)) (Ev.ifp rfl (Ev.ifn (by omega) (Ev.ifn (by omega) ?_)))
    refine Ev.step (f := fun k => course_Put.l0 k c [] c (c.length : Int) ((0 : Nat) : Int) F T kd n) (fun k => ?_) hr
    simp only [course_Put.j0]
    rw [if_neg (by simp; omega), hu]
    simp
  · rw [hat d]
    by_cases h1 : F ≤ d ∧ d < T
    · rw [if_pos h1, if_pos h1]
      by_cases h2 : kd ≠ 0
      · rw [if_pos h2]
      · rw [if_neg h2]
        rcases hk with ⟨rfl, rfl⟩ | ⟨rfl, _, _⟩
        · rfl
        · exact absurd (by decide : (5 : Int) ≠ 0) h2
    · rw [if_neg h1, if_neg h1]
theorem put_law {c : List S46} (hc : Valid c) (hl : c.length ≤ 100) (d F T kd n : Int) (hF : 0 ≤ F) (hT : F ≤ T) (hT2 : T ≤ 1048576) (hk : kd = 0 ∧ n = 0 ∨ kd = 5 ∧ -1048576 ≤ n ∧ n ≤ 1048576) :
    Ev (fun k => mootkeep1_CoursePut.j0 k d c F T kd n) true := by
  obtain ⟨r, hr, hv, hlen, hat⟩ := put_of hc hl F T kd n hF hT hT2 hk
  have hend : ∀ v w : Int, atv r d = (v, w) → Ev (fun k => mootkeep1_CoursePut.j2 k d c r 0 v w) true := by
    intro v w h
    refine Ev.step (f := fun k => (mootkeep1_courses.f k).bind fun t180 => (if t180 = true then ((course_Check.f k c).bind fun t181 => (if t181 = 0 then (if (0 : Int) = 0 then ((course_At.f k r d).bind fun bt182 => (if (bt182.1 == v && (bt182.2 == w)) = true then ((course_Check.f k r).bind fun t184 => (some (t184 == 0))) else (some false))) else (some false)) else (some false))) else (some false))) (fun k => by simp only [mootkeep1_CoursePut.j2]) ?_
    refine Ev.bind courses_of (Ev.ifp rfl (Ev.bind (check_of hc (by omega)) (Ev.ifp rfl (Ev.ifp rfl (Ev.bind (at_of r d (by omega)) (Ev.ifp (by rw [h]; simp) ?_))))))
    exact Ev.bind (check_of hv (by omega)) (Ev.now _)
  refine Ev.step (f := fun k => (course_Put.f k c F T kd n).bind fun bt173 => ((course_At.f k c d).bind fun bt177 => (if F ≤ d then (mootkeep1_CoursePut.j1 k d c bt173.1 bt173.2 (decide (d < T)) F T kd n bt177.1 bt177.2) else (mootkeep1_CoursePut.j1 k d c bt173.1 bt173.2 false F T kd n bt177.1 bt177.2)))) (fun k => by simp only [mootkeep1_CoursePut.j0]) ?_
  refine Ev.bind hr (Ev.bind (at_of c d (by omega)) ?_)
  have hd := hat d
  by_cases h1 : F ≤ d
  · refine Ev.ifp h1 ?_
    by_cases h2 : d < T
    · rw [if_pos ⟨h1, h2⟩] at hd
      refine Ev.step (fun k => ?_) (hend _ _ hd)
      simp only [mootkeep1_CoursePut.j1]
      rw [if_pos (by simpa using h2)]
    · rw [if_neg (fun h => h2 h.2)] at hd
      refine Ev.step (fun k => ?_) (hend (atv c d).1 (atv c d).2 hd)
      simp only [mootkeep1_CoursePut.j1]
      rw [if_neg (by simpa using h2)]
  · rw [if_neg (fun h => h1 h.1)] at hd
    refine Ev.ifn h1 (Ev.step (fun k => ?_) (hend (atv c d).1 (atv c d).2 hd))
    simp only [mootkeep1_CoursePut.j1]
    rw [if_neg (by decide)]
theorem CoursePut : mootkeep1_CoursePut.Pure := by
  intro l a1 a2 a3 a4 _ _ _ _ _ _ _
  have r1 := below_range a1 120 (by omega)
  have r2 := below_range a4 180 (by omega)
  have r3 := below_range a2 40 (by omega)
  have r4 := below_range a3 9 (by omega)
  obtain ⟨c, hline, a', j, hM, hj⟩ := line_of l
  have hv := hM.valid; have hl := hM.len
  refine Ev.rounds (g := fun k => mootkeep1_CoursePut.f k l a1 a2 a3 a4) ?_
  simp only [mootkeep1_CoursePut.f]
  refine Ev.bind hline ?_
  rw [below_of _ _ (by omega) (by omega), below_of _ _ (by omega) (by omega), below_of _ _ (by omega) (by omega), below_of _ _ (by omega) (by omega)]
  simp only [Option.bind_some]
  rw [w64 (x := a1 % 120 + a2 % 40) (by omega) (by omega)]
  by_cases h : Int.tmod a3 7 = 0
  · exact Ev.ifp h (put_law hv (by omega) _ _ _ _ _ (by omega) (by omega) (by omega) (.inl ⟨rfl, rfl⟩))
  · exact Ev.ifn h (put_law hv (by omega) _ _ _ _ _ (by omega) (by omega) (by omega) (.inr ⟨rfl, by omega, by omega⟩))
end Go.Proofs.Ytdajcnhhfgnbmaa.Pure
