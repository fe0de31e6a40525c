/-
The sum of a course of counts over a time is the sum over its parts, and over one day the value of that day, for every list and all numbers.
-/
import Derived.Test.YtdajcnhhfgnbmaaPCourseSumx4
set_option linter.unusedVariables false
set_option linter.unusedSimpArgs false
namespace Go.Proofs.Ytdajcnhhfgnbmaa.Pure
open Go.RowKit Go.Proofs.Ytdajcnhhfgnbmaa.PCourseSum Go.Proofs.YtdajcnhhfgnbmaaW.PrintWords Go.Proofs.YtdajcnhhfgnbmaaW.PrintLast
/-- numbers that need no wrap -/
theorem w64 {x : Int} (h1 : -9223372036854775808 ≤ x) (h2 : x ≤ 9223372036854775807) : wrap64 x = x := by unfold wrap64; omega
theorem tdivnn {a b : Int} (h : 0 ≤ a) : Int.tdiv a b = a / b := Int.tdiv_eq_ediv_of_nonneg h
theorem tmodnn {a b : Int} (h : 0 ≤ a) : Int.tmod a b = a % b := Int.tmod_eq_emod_of_nonneg h
theorem Ev.ifp {α : Type} {c : Prop} [Decidable c] {a b : Nat → Option α} {r : α} (h : c) (k : Ev a r) : Ev (fun n => if c then a n else b n) r := Ev.congr (fun n => by rw [if_pos h]) k
theorem Ev.ifn {α : Type} {c : Prop} [Decidable c] {a b : Nat → Option α} {r : α} (h : ¬ c) (k : Ev b r) : Ev (fun n => if c then a n else b n) r := Ev.congr (fun n => by rw [if_neg h]) k
theorem Ev.to {α : Type} {a b : α} (h : a = b) : Ev (fun _ => some a) b := h ▸ Ev.now a
theorem below_of (x n : Int) (h0 : 0 < n) (h1 : n ≤ 4611686018427387904) : mootmake_Below.f x n = some (x % n) := by
  have hr := Int.emod_nonneg x (show n ≠ 0 by omega)
  have hl := Int.emod_lt_of_pos x h0
  unfold mootmake_Below.f
  rw [if_neg (by omega), Int.tmod_eq_emod]
  by_cases h : 0 ≤ x ∨ n ∣ x
  · rw [if_pos h, show x % n - ((0 : Nat) : Int) = x % n from by omega, if_neg (by omega)]
  · have h3 : x % n ≠ 0 := fun e => h (.inr (Int.dvd_of_emod_eq_zero e))
    rw [if_neg h, if_pos (by omega), w64 (by omega) (by omega)]
    congr 1; omega
theorem below_range (x n : Int) (h0 : 0 < n) : 0 ≤ x % n ∧ x % n < n := ⟨Int.emod_nonneg x (by omega), Int.emod_lt_of_pos x h0⟩
theorem drop_rd (l : List Int) (i : Nat) (h : i < l.length) : l.drop i = rd l (i : Int) :: l.drop (i + 1) := by
  rw [List.drop_eq_getElem_cons h]
  unfold rd
  simp [List.getD, h]
theorem w64_succ {i n : Nat} (h : i < n) (hn : n ≤ 9223372036854775807) : wrap64 ((i : Int) + 1) = ((i + 1 : Nat) : Int) := by
  rw [w64 (by omega) (by omega)]; omega
theorem next_of (l : List Int) (n : Int) (h0 : 0 < n) (h1 : n ≤ 4611686018427387904) : ∃ v l', mootmake_Stream_Next.f l n = some (v, l') ∧ 0 ≤ v ∧ v < n := by
  unfold mootmake_Stream_Next.f
  rw [if_neg (by omega)]
  by_cases h : l = []
  · rw [if_pos h]; exact ⟨0, l, rfl, by omega, h0⟩
  · rw [if_neg h, below_of _ _ h0 h1]
    have := below_range (rd l 0) n h0
    exact ⟨_, _, rfl, this.1, this.2⟩
/-- a span of a number of things, within all dates -/
def okspan (s : S46) : Prop := 0 ≤ s.f0 ∧ s.f0 < s.f1 ∧ s.f1 ≤ 1048576 ∧ s.f2.f0 = 5 ∧ -1048576 ≤ s.f2.f1 ∧ s.f2.f1 ≤ 1048576
def follows (p s : S46) : Prop := p.f1 ≤ s.f0 ∧ ¬ (s.f0 = p.f1 ∧ s.f2.f0 = p.f2.f0 ∧ s.f2.f1 = p.f2.f1)
inductive Valid : List S46 → Prop
  | nil : Valid []
  | one (s : S46) : okspan s → Valid [s]
  | snoc (l : List S46) (p s : S46) : Valid (l ++ [p]) → okspan s → follows p s → Valid (l ++ [p] ++ [s])
theorem getD_app (l : List S46) (s : S46) (i : Nat) (z : S46) : (l ++ [s]).getD i z = if i < l.length then l.getD i z else if i = l.length then s else z := by
  simp only [List.getD_eq_getElem?_getD, List.getElem?_append]
  split
  · rfl
  · split
    · rename_i h; subst h; simp
    · rename_i h h'
      rw [List.getElem?_eq_none (by simp; omega)]; rfl
theorem Valid.index {l : List S46} (h : Valid l) : ∀ i, i < l.length → okspan (l.getD i z46) ∧ (0 < i → follows (l.getD (i - 1) z46) (l.getD i z46)) := by
  induction h with
  | nil => intro i hi; simp at hi
  | one s hs => intro i hi; obtain rfl : i = 0 := by simp at hi; omega
                exact ⟨hs, fun h => by omega⟩
  | snoc l p s _ hs hf ih =>
    intro i hi
    by_cases hlt : i < (l ++ [p]).length
    · rw [getD_app (l ++ [p]) s i, getD_app (l ++ [p]) s (i - 1), if_pos hlt, if_pos (by omega)]
      exact ih i hlt
    · have e : i = (l ++ [p]).length := by rw [List.length_append] at hi; simp at hi hlt ⊢; omega
      rw [getD_app (l ++ [p]) s i, getD_app (l ++ [p]) s (i - 1), if_neg hlt, if_pos e]
      refine ⟨hs, fun hp => ?_⟩
      rw [if_pos (by omega), getD_app l p, if_neg (by simp at e; omega), if_pos (by simp at e; omega)]
      exact hf
theorem Valid.indexR {l : List S46} (h : Valid l) (i : Nat) (hi : i < l.length) : okspan (rd_T46 l (i : Int)) ∧ (0 < i → follows (rd_T46 l ((i - 1 : Nat) : Int)) (rd_T46 l (i : Int))) := h.index i hi
theorem ucheck_of (n : Int) (h1 : -1048576 ≤ n) (h2 : n ≤ 1048576) : unit_Check.f 5 n = some 0 := by
  unfold unit_Check.f unit_Range.f unit_known.f
  rw [if_neg (by decide), if_neg (by decide), if_neg (by decide), if_neg (by decide), if_pos rfl, if_pos (by decide)]
  simp only [Option.bind_some]
  rw [if_pos (by decide), if_neg (by omega), if_neg (by omega)]
theorem check_l0 (c : List S46) (hc : Valid c) (hl : c.length ≤ 1000) (n : Nat) : ∀ i : Nat, i ≤ c.length → c.length - i = n → Ev (fun k => course_Check.l0 k c c (c.length : Int) (i : Int)) 0 := by
  induction n with
  | zero =>
    intro i hi hn
    obtain rfl : i = c.length := by omega
    refine Ev.step (f := fun _ => some 0) (fun k => ?_) (Ev.now _)
    simp only [course_Check.l0]
    rw [if_neg (by omega)]
  | succ n ih =>
    intro i hi hn
    have hlt : i < c.length := by omega
    obtain ⟨⟨o1, o2, o3, o4, o5, o6⟩, hf⟩ := hc.indexR i hlt
    have ih' := ih (i + 1) (by omega) (by omega)
    refine Ev.step (f := fun k => course_Check.j1 k c (i : Int) 0 c (c.length : Int) (i : Int) false (rd_T46 c (i : Int)).f0 (rd_T46 c (i : Int)).f1 (rd_T46 c (i : Int)).f2.f0 (rd_T46 c (i : Int)).f2.f1) (fun k => ?_) ?_
    · simp only [course_Check.l0]
      rw [if_pos (by omega), if_pos (by omega), if_pos (by omega), o4, ucheck_of _ o5 o6]
      simp only [Option.bind_some]
      rw [if_neg (by omega), if_neg (by omega), decide_eq_false (by omega)]
    refine Ev.step (f := fun k => course_Check.j2 k c (i : Int) c (c.length : Int) (i : Int) false (rd_T46 c (i : Int)).f0 (rd_T46 c (i : Int)).f1 (rd_T46 c (i : Int)).f2.f0 (rd_T46 c (i : Int)).f2.f1) (fun k => ?_) ?_
    · simp only [course_Check.j1]
      rw [if_neg (by decide), if_pos (by trivial), if_neg (by omega)]
      by_cases hi0 : 0 < i
      · have hfo := (hf hi0).1
        rw [if_pos (by omega), w64 (x := (i : Int) - 1) (by omega) (by omega), if_pos (by omega), if_pos (by omega), show (i : Int) - 1 = ((i - 1 : Nat) : Int) from by omega, decide_eq_false (by omega)]
      · rw [if_neg (by omega)]
    refine Ev.step (fun k => ?_) ih'
    simp only [course_Check.j2]
    rw [if_neg (by decide), w64_succ hlt (by omega)]
    by_cases hi0 : 0 < i
    · have hfo := hf hi0
      rw [if_pos (by omega), w64 (x := (i : Int) - 1) (by omega) (by omega), if_pos (by omega), if_pos (by omega), show (i : Int) - 1 = ((i - 1 : Nat) : Int) from by omega]
      by_cases he : (rd_T46 c (i : Int)).f0 = (rd_T46 c ((i - 1 : Nat) : Int)).f1
      · rw [if_pos he, if_neg]
        intro hh
        rw [Bool.and_eq_true, beq_iff_eq, beq_iff_eq] at hh
        exact hfo.2 ⟨he, hh.1, hh.2⟩
      · rw [if_neg he]
    · rw [if_neg (by omega)]
theorem check_of {c : List S46} (hc : Valid c) (hl : c.length ≤ 1000) : Ev (fun k => course_Check.f k c) 0 := by
  simp only [course_Check.f]
  exact Ev.ifn (by omega) (check_l0 c hc hl _ 0 (by omega) rfl)
/-- what a course has on a day -/
def atv : List S46 → Int → Int × Int
  | [], _ => (0, 0)
  | s :: l, d => if s.f0 ≤ d ∧ d < s.f1 then (s.f2.f0, s.f2.f1) else atv l d
theorem drop_span (l : List S46) (i : Nat) (h : i < l.length) : l.drop i = rd_T46 l (i : Int) :: l.drop (i + 1) := by
  rw [List.drop_eq_getElem_cons h]
  unfold rd_T46
  simp [List.getD, h]
theorem at_l0 (c : List S46) (d : Int) (hl : c.length ≤ 4398046511104) (n : Nat) : ∀ i : Nat, i ≤ c.length → c.length - i = n → Ev (fun k => course_At.l0 k d c (c.length : Int) (i : Int)) (atv (c.drop i) d) := by
  induction n with
  | zero =>
    intro i hi hn
    obtain rfl : i = c.length := by omega
    rw [List.drop_length]
    refine Ev.step (f := fun _ => some (0, 0)) (fun k => ?_) (Ev.now _)
    simp only [course_At.l0]
    rw [if_neg (by omega)]
  | succ n ih =>
    intro i hi hn
    have hlt : i < c.length := by omega
    rw [drop_span c i hlt]
    simp only [atv]
    by_cases h1 : (rd_T46 c (i : Int)).f0 ≤ d
    · by_cases h2 : d < (rd_T46 c (i : Int)).f1
      · rw [if_pos ⟨h1, h2⟩]
        refine Ev.step (f := fun _ => some _) (fun k => ?_) (Ev.now _)
        simp only [course_At.l0]
        rw [if_pos (by omega), if_pos (by omega), if_pos (by omega), if_pos h1, if_pos h2]
      · rw [if_neg (fun h => h2 h.2)]
        refine Ev.step (fun k => ?_) (ih (i + 1) (by omega) (by omega))
        simp only [course_At.l0]
        rw [if_pos (by omega), if_pos (by omega), if_pos (by omega), if_pos h1, if_neg h2, w64_succ hlt (by omega)]
    · rw [if_neg (fun h => h1 h.1)]
      refine Ev.step (fun k => ?_) (ih (i + 1) (by omega) (by omega))
      simp only [course_At.l0]
      rw [if_pos (by omega), if_pos (by omega), if_pos (by omega), if_neg h1, w64_succ hlt (by omega)]
theorem at_of (c : List S46) (d : Int) (hl : c.length ≤ 4398046511104) : Ev (fun k => course_At.f k c d) (atv c d) := by
  simp only [course_At.f]
  exact at_l0 c d hl _ 0 (by omega) rfl
theorem courses_of : Ev (fun k => mootkeep1_courses.f k) true := by
  have hv : Valid [(⟨5, 7, (⟨5, 4⟩ : S43)⟩ : S46)] := Valid.one _ ⟨by decide, by decide, by decide, rfl, by decide, by decide⟩
  simp only [mootkeep1_courses.f, Option.bind_some]
  refine Ev.bind (check_of hv (by simp)) (Ev.ifp rfl ?_)
  refine Ev.bind (at_of _ 6 (by simp)) ?_
  exact Ev.to (by decide)
/-- what `line` has made so far: the next span begins at `a`, it is number `i` -/
structure Made (l : List S46) (a : Int) (i : Nat) : Prop where
  valid : Valid l
  len : l.length = i
  a0 : 0 ≤ a
  a1 : a ≤ 19 + 17 * i
  small : ∀ s ∈ l, 0 ≤ s.f2.f1 ∧ s.f2.f1 ≤ 14
  last : ∀ p, l.getLast? = some p → p.f1 ≤ a ∧ p.f2.f1 % 5 = ((i : Int) - 1) % 5
theorem Made.next {l : List S46} {a : Int} {i : Nat} (h : Made l a i) (hi : i < 7) {x y z : Int} (hx0 : 0 ≤ x) (hx : x < 15) (hy0 : 0 ≤ y) (hy : y < 3) (hz0 : 0 ≤ z) (hz : z < 3) :
    Made (l ++ [(⟨a, a + 1 + x, (⟨5, 5 * y + (i : Int) % 5⟩ : S43)⟩ : S46)]) (a + 1 + x + z) (i + 1) := by
  obtain ⟨hv, hl, h0, h1, hs, hlast⟩ := h
  have hok : okspan (⟨a, a + 1 + x, (⟨5, 5 * y + (i : Int) % 5⟩ : S43)⟩ : S46) := ⟨h0, by show a < a + 1 + x; omega, by show a + 1 + x ≤ 1048576; omega, rfl, by show -1048576 ≤ 5 * y + (i : Int) % 5; omega, by show 5 * y + (i : Int) % 5 ≤ 1048576; omega⟩
  refine ⟨?_, by simp [hl], by omega, by omega, ?_, ?_⟩
  · rcases List.eq_nil_or_concat l with rfl | ⟨l', p, rfl⟩
    · exact Valid.one _ hok
    · have hp := hlast p (by simp)
      simp only [List.concat_eq_append] at hv hl ⊢
      refine Valid.snoc l' p _ hv hok ⟨hp.1, ?_⟩
      rintro ⟨_, _, e⟩
      have e' : 5 * y + (i : Int) % 5 = p.f2.f1 := e
      omega
  · intro s hmem
    rcases List.mem_append.1 hmem with hm | hm
    · exact hs s hm
    · obtain rfl := List.mem_singleton.1 hm
      refine ⟨?_, ?_⟩
      · show 0 ≤ 5 * y + (i : Int) % 5; omega
      · show 5 * y + (i : Int) % 5 ≤ 14; omega
  · intro p hp
    rw [List.getLast?_append] at hp
    simp at hp
    subst hp
    refine ⟨?_, ?_⟩
    · show a + 1 + x ≤ a + 1 + x + z; omega
    · show (5 * y + (i : Int) % 5) % 5 = (((i + 1 : Nat) : Int) - 1) % 5; omega
theorem line_l0 (m : Int) (hm : m < 8) (n : Nat) : ∀ (i : Nat) (l : List S46) (a : Int) (st : List Int), (i : Int) ≤ max m 0 → (max m 0 - i).toNat = n → Made l a i →
    ∃ c, Ev (fun k => mootkeep1_line.l0 k l a m (i : Int) st) c ∧ ∃ a' j, Made c a' j ∧ j ≤ 7 := by
  induction n with
  | zero =>
    intro i l a st hi hn hM
    refine ⟨l, Ev.step (f := fun _ => some l) (fun k => ?_) (Ev.now _), a, i, hM, by omega⟩
    simp only [mootkeep1_line.l0]
    rw [if_neg (by omega)]
  | succ n ih =>
    intro i l a st hi hn hM
    have hi7 : i < 7 := by omega
    obtain ⟨x, s1, e1, x0, x1⟩ := next_of st 15 (by omega) (by omega)
    obtain ⟨y, s2, e2, y0, y1⟩ := next_of s1 3 (by omega) (by omega)
    obtain ⟨z, s3, e3, z0, z1⟩ := next_of s2 3 (by omega) (by omega)
    have h0 := hM.a0; have h1 := hM.a1; have hl := hM.len
    obtain ⟨c, hc, h⟩ := ih (i + 1) _ _ s3 (by omega) (by omega) (hM.next hi7 x0 x1 y0 y1 z0 z1)
    refine ⟨c, Ev.step (fun k => ?_) hc, h⟩
    simp only [mootkeep1_line.l0]
    rw [if_pos (by omega), e1]
    simp only [Option.bind_some]
    rw [e2]
    simp only [Option.bind_some]
    rw [if_pos (by omega), e3]
    simp only [Option.bind_some]
    rw [w64 (x := a + 1) (by omega) (by omega), w64 (x := a + 1 + x) (by omega) (by omega), w64 (x := a + 1 + x + z) (by omega) (by omega), w64 (x := 5 * y) (by omega) (by omega), tmodnn (by omega), w64 (x := 5 * y + (i : Int) % 5) (by omega) (by omega), w64 (x := (i : Int) + 1) (by omega) (by omega), show (i : Int) + 1 = ((i + 1 : Nat) : Int) from by omega]
theorem line_of (l : List Int) : ∃ c, Ev (fun k => mootkeep1_line.f k l) c ∧ ∃ a' j, Made c a' j ∧ j ≤ 7 := by
  obtain ⟨a, s1, e1, a0, a1⟩ := next_of l 20 (by omega) (by omega)
  obtain ⟨m, s2, e2, m0, m1⟩ := next_of s1 8 (by omega) (by omega)
  obtain ⟨c, hc, h⟩ := line_l0 m m1 _ 0 [] a s2 (by omega) rfl ⟨Valid.nil, rfl, a0, by omega, fun s h => by simp at h, fun p h => by simp at h⟩
  refine ⟨c, ?_, h⟩
  simp only [mootkeep1_line.f]
  rw [e1]
  simp only [Option.bind_some]
  rw [e2]
  exact hc
def has (s : S46) (d : Int) : Prop := s.f0 ≤ d ∧ d < s.f1
instance (s : S46) (d : Int) : Decidable (has s d) := by unfold has; infer_instance
theorem atv_none (l : List S46) (d : Int) (h : ∀ t ∈ l, ¬ has t d) : atv l d = (0, 0) := by
  induction l with
  | nil => rfl
  | cons s l ih =>
    simp only [atv]
    rw [if_neg (show ¬ (s.f0 ≤ d ∧ d < s.f1) from h s (by simp))]
    exact ih fun t ht => h t (by simp [ht])
theorem atv_snoc (l : List S46) (s : S46) (d : Int) : atv (l ++ [s]) d = if ∃ t ∈ l, has t d then atv l d else if has s d then (s.f2.f0, s.f2.f1) else (0, 0) := by
  induction l with
  | nil => simp [atv, has]
  | cons a l ih =>
    simp only [List.cons_append, atv]
    by_cases h : a.f0 ≤ d ∧ d < a.f1
    · rw [if_pos h, if_pos ⟨a, by simp, h⟩, if_pos h]
    · rw [if_neg h, ih, if_neg h]
      by_cases h2 : ∃ t ∈ l, has t d
      · obtain ⟨t, ht, hd⟩ := h2
        rw [if_pos ⟨t, ht, hd⟩, if_pos ⟨t, by simp [ht], hd⟩]
      · have h3 : ¬ ∃ t ∈ a :: l, has t d := by
          rintro ⟨t, ht, hd⟩
          rcases List.mem_cons.1 ht with rfl | ht
          · exact h hd
          · exact h2 ⟨t, ht, hd⟩
        rw [if_neg h2, if_neg h3]
theorem Valid.ok {l : List S46} (h : Valid l) : ∀ t ∈ l, okspan t := by
  induction h with
  | nil => intro t ht; simp at ht
  | one s hs => intro t ht; rw [List.mem_singleton.1 ht]; exact hs
  | snoc l p s _ hs _ ih =>
    intro t ht
    rcases List.mem_append.1 ht with ht | ht
    · exact ih t ht
    · rw [List.mem_singleton.1 ht]; exact hs
/-- no span of a course ends behind its last one -/
theorem Valid.hi {l : List S46} (h : Valid l) : ∀ p, l.getLast? = some p → ∀ t ∈ l, t.f1 ≤ p.f1 := by
  induction h with
  | nil => intro p hp; simp at hp
  | one s hs => intro p hp t ht; simp at hp; rw [List.mem_singleton.1 ht, hp]; omega
  | snoc l q s _ hs hf ih =>
    intro p hp t ht
    rw [List.getLast?_append] at hp
    simp at hp
    subst hp
    rcases List.mem_append.1 ht with ht | ht
    · have := ih q (by simp) t ht
      have := hf.1; have := hs.2.1
      omega
    · rw [List.mem_singleton.1 ht]; omega
theorem mn_min (a b : Int) : mn a b = min a b := by unfold mn; split <;> omega
theorem mx_max (a b : Int) : mx a b = max a b := by unfold mx; split <;> omega
def term (a b : Int) (s : S46) : Int := if min b s.f1 - max a s.f0 > 0 then (min b s.f1 - max a s.f0) * s.f2.f1 else 0
def sumv (c : List S46) (a b : Int) : Int := (c.map (term a b)).foldr (· + ·) 0
theorem sumv_cons (s : S46) (c : List S46) (a b : Int) : sumv (s :: c) a b = term a b s + sumv c a b := rfl
theorem sumv_snoc (c : List S46) (s : S46) (a b : Int) : sumv (c ++ [s]) a b = sumv c a b + term a b s := by
  induction c with
  | nil => simp [sumv]
  | cons t c ih => rw [List.cons_append, sumv_cons, sumv_cons, ih]; omega
theorem mul_bound {x y A B : Int} (hx0 : 0 ≤ x) (hx : x ≤ A) (hy0 : -B ≤ y) (hy : y ≤ B) (hB : 0 ≤ B) : -(A * B) ≤ x * y ∧ x * y ≤ A * B := by
  have h1 : x * y ≤ x * B := Int.mul_le_mul_of_nonneg_left hy hx0
  have h2 : x * B ≤ A * B := Int.mul_le_mul_of_nonneg_right hx hB
  have h3 : x * (-B) ≤ x * y := Int.mul_le_mul_of_nonneg_left hy0 hx0
  rw [Int.mul_neg] at h3
  omega
theorem term_bound {a b : Int} {s : S46} (hs : okspan s) (ha : 0 ≤ a) (hb : b ≤ 1048576) : -1099511627776 ≤ term a b s ∧ term a b s ≤ 1099511627776 := by
  obtain ⟨o1, o2, o3, o4, o5, o6⟩ := hs
  unfold term
  split
  · have := mul_bound (x := min b s.f1 - max a s.f0) (y := s.f2.f1) (A := 1048576) (B := 1048576) (by omega) (by omega) o5 o6 (by omega)
    omega
  · omega
theorem sum_l0 (c : List S46) (hc : ∀ t ∈ c, okspan t) (a b : Int) (hab : a ≤ b) (ha : 0 ≤ a) (hb : b ≤ 1048576) (hb0 : 0 ≤ b) (hl : c.length ≤ 1000) (n : Nat) : ∀ (i : Nat) (x : Int), i ≤ c.length → c.length - i = n → -(1099511627776 * i) ≤ x → x ≤ 1099511627776 * i →
    Ev (fun k => course_Sum.l0 k 5 a b x c (c.length : Int) (i : Int)) (x + sumv (c.drop i) a b, 0) := by
  induction n with
  | zero =>
    intro i x hi hn h1 h2
    obtain rfl : i = c.length := by omega
    rw [List.drop_length]
    refine Ev.step (f := fun _ => some (x, 0)) (fun k => ?_) (Ev.to (by simp [sumv]))
    simp only [course_Sum.l0]
    rw [if_neg (by omega)]
  | succ n ih =>
    intro i x hi hn h1 h2
    have hlt : i < c.length := by omega
    have hs : okspan (rd_T46 c (i : Int)) := hc _ (by have : rd_T46 c (i : Int) = c.getD i z46 := rfl; rw [this, List.getD_eq_getElem?_getD, List.getElem?_eq_getElem hlt]; simp)
    have ht := term_bound hs ha hb
    rw [drop_span c i hlt, sumv_cons]
    have ih' := ih (i + 1) (x + term a b (rd_T46 c (i : Int))) (by omega) (by omega) (by omega) (by omega)
    obtain ⟨o1, o2, o3, o4, o5, o6⟩ := hs
    by_cases hd : min b (rd_T46 c (i : Int)).f1 - max a (rd_T46 c (i : Int)).f0 > 0
    · have hm := mul_bound (x := min b (rd_T46 c (i : Int)).f1 - max a (rd_T46 c (i : Int)).f0) (y := (rd_T46 c (i : Int)).f2.f1) (A := 1048576) (B := 1048576) (by omega) (by omega) o5 o6 (by omega)
      have e : term a b (rd_T46 c (i : Int)) = (min b (rd_T46 c (i : Int)).f1 - max a (rd_T46 c (i : Int)).f0) * (rd_T46 c (i : Int)).f2.f1 := if_pos hd
      rw [e] at ih' ⊢
      rw [← Int.add_assoc]
      refine Ev.step (fun k => ?_) ih'
      simp only [course_Sum.l0]
      rw [if_pos (by omega), if_pos (by omega), if_pos (by omega), mn_min, mx_max, w64 (x := min b (rd_T46 c (i : Int)).f1 - max a (rd_T46 c (i : Int)).f0) (by omega) (by omega), if_pos hd, if_pos o4, w64 (x := (min b (rd_T46 c (i : Int)).f1 - max a (rd_T46 c (i : Int)).f0) * (rd_T46 c (i : Int)).f2.f1) (by omega) (by omega), w64_succ hlt (by omega)]
      rw [w64 (by omega) (by omega)]
    · have e : term a b (rd_T46 c (i : Int)) = 0 := if_neg hd
      rw [e, Int.add_zero] at ih'
      rw [e, Int.zero_add]
      refine Ev.step (fun k => ?_) ih'
      simp only [course_Sum.l0]
      rw [if_pos (by omega), if_pos (by omega), if_pos (by omega), mn_min, mx_max, w64 (x := min b (rd_T46 c (i : Int)).f1 - max a (rd_T46 c (i : Int)).f0) (by omega) (by omega), if_neg hd, w64_succ hlt (by omega)]
theorem sum_of {c : List S46} (hc : Valid c) (hl : c.length ≤ 1000) {a b : Int} (ha : 0 ≤ a) (hab : a ≤ b) (hb : b ≤ 1048576) : Ev (fun k => course_Sum.f k c 5 a b) (sumv c a b, 0) := by
  have h := sum_l0 c hc.ok a b hab ha hb (by omega) hl _ 0 0 (by omega) rfl (by omega) (by omega)
  rw [List.drop_zero, Int.zero_add] at h
  simp only [course_Sum.f]
  refine Ev.bind (check_of hc hl) (Ev.ifp rfl (Ev.ifn (by omega) (Ev.ifn (by omega) ?_)))
  refine Ev.step (f := fun k => course_Sum.j1 k c 5 a b false) (fun k => ?_) ?_
  · simp only [course_Sum.j0]
    rw [if_neg (by simp; omega), if_neg (by decide), if_neg (by decide), if_neg (by decide)]
    rfl
  refine Ev.step (fun k => ?_) h
  simp only [course_Sum.j1]
  rw [if_neg (by decide)]; rfl
theorem sumv_add (c : List S46) (x y z : Int) (h1 : x ≤ y) (h2 : y ≤ z) : sumv c x y + sumv c y z = sumv c x z := by
  induction c with
  | nil => rfl
  | cons s c ih =>
    rw [sumv_cons, sumv_cons, sumv_cons]
    have : term x y s + term y z s = term x z s := by
      unfold term
      by_cases a1 : min y s.f1 - max x s.f0 > 0
      · by_cases a2 : min z s.f1 - max y s.f0 > 0
        · rw [if_pos a1, if_pos a2, if_pos (by omega), ← Int.add_mul]; congr 1; omega
        · rw [if_pos a1, if_neg a2, if_pos (by omega), Int.add_zero]; congr 1; omega
      · by_cases a2 : min z s.f1 - max y s.f0 > 0
        · rw [if_neg a1, if_pos a2, if_pos (by omega), Int.zero_add]; congr 1; omega
        · rw [if_neg a1, if_neg a2]
          by_cases a3 : min z s.f1 - max x s.f0 > 0
          · exfalso; omega
          · rw [if_neg a3]; rfl
    omega
theorem term_in (s : S46) (d : Int) : term d (d + 1) s = if has s d then s.f2.f1 else 0 := by
  unfold term
  by_cases h : has s d
  · have h' := h; unfold has at h'
    rw [if_pos h, if_pos (by omega), show min (d + 1) s.f1 - max d s.f0 = 1 from by omega, Int.one_mul]
  · have h' := h; unfold has at h'
    rw [if_neg h, if_neg (by omega)]
theorem sumv_zero (l : List S46) (d : Int) (h : ∀ t ∈ l, ¬ has t d) : sumv l d (d + 1) = 0 := by
  induction l with
  | nil => rfl
  | cons s l ih => rw [sumv_cons, term_in, if_neg (h s (by simp)), ih fun t ht => h t (by simp [ht])]; rfl
theorem sumv_at {c : List S46} (hc : Valid c) (d : Int) : sumv c d (d + 1) = (atv c d).2 := by
  induction hc with
  | nil => rfl
  | one s hs =>
    rw [sumv_cons, term_in]
    simp only [atv]
    by_cases h : has s d
    · rw [if_pos h, if_pos (show s.f0 ≤ d ∧ d < s.f1 from h)]; simp [sumv]
    · rw [if_neg h, if_neg (show ¬ (s.f0 ≤ d ∧ d < s.f1) from h)]; simp [sumv]
  | snoc l p s hv hs hf ih =>
    rw [sumv_snoc, term_in, atv_snoc]
    by_cases h : has s d
    · have hn : ¬ ∃ t ∈ l ++ [p], has t d := by
        rintro ⟨t, ht, h1, h2⟩
        have := hv.hi p (by simp) t ht
        have := hf.1; have := h.1
        omega
      have hz := sumv_zero (l ++ [p]) d (fun t ht hh => hn ⟨t, ht, hh⟩)
      rw [if_pos h, if_neg hn, if_pos h, hz]; simp
    · rw [if_neg h, if_neg h, ih, Int.add_zero]
      by_cases he : ∃ t ∈ l ++ [p], has t d
      · rw [if_pos he]
      · rw [if_neg he, atv_none _ _ (fun t ht hh => he ⟨t, ht, hh⟩)]
theorem CourseSum : mootkeep1_CourseSum.Pure := by
  intro l a1 a2 a3 _ _ _ _ _ _
  have r1 := below_range a1 150 (by omega)
  have r2 := below_range a2 60 (by omega)
  have r3 := below_range a3 60 (by omega)
  obtain ⟨c, hline, a', j, hM, hj⟩ := line_of l
  have hv := hM.valid; have hl := hM.len
  obtain ⟨a, ha⟩ : ∃ a, a = a1 % 150 := ⟨_, rfl⟩
  obtain ⟨b, hb⟩ : ∃ b, b = a + a2 % 60 := ⟨_, rfl⟩
  obtain ⟨e, he⟩ : ∃ e, e = b + a3 % 60 := ⟨_, rfl⟩
  have hp := sum_of hv (by omega) (a := a) (b := b) (by omega) (by omega) (by omega)
  have hq := sum_of hv (by omega) (a := b) (b := e) (by omega) (by omega) (by omega)
  have hr := sum_of hv (by omega) (a := a) (b := e) (by omega) (by omega) (by omega)
  have h1 := sum_of hv (by omega) (a := a) (b := a + 1) (by omega) (by omega) (by omega)
  have hadd := sumv_add c a b e (by omega) (by omega)
  have hat := sumv_at hv a
  have hbnd : ∀ (x y : Int), 0 ≤ x → y ≤ 1048576 → -(1099511627776 * (c.length : Int)) ≤ sumv c x y ∧ sumv c x y ≤ 1099511627776 * (c.length : Int) := by
    intro x y hx hy
    have hok := hv.ok
    clear hline hM hv hl hp hq hr h1 hadd hat
    induction c with
    | nil => simp [sumv]
    | cons s c ih =>
      have h2 := ih (fun t ht => hok t (by simp [ht]))
      have h3 := term_bound (hok s (by simp)) hx hy
      rw [sumv_cons, List.length_cons]
      omega
  have b1 := hbnd a b (by omega) (by omega)
  have b2 := hbnd b e (by omega) (by omega)
  refine Ev.rounds (g := fun k => mootkeep1_CourseSum.f k l a1 a2 a3) ?_
  simp only [mootkeep1_CourseSum.f]
  refine Ev.bind hline ?_
  rw [below_of _ _ (by omega) (by omega), below_of _ _ (by omega) (by omega), below_of _ _ (by omega) (by omega)]
  simp only [Option.bind_some]
  rw [← ha, w64 (x := a + a2 % 60) (by omega) (by omega), ← hb, w64 (x := b + a3 % 60) (by omega) (by omega), ← he, w64 (x := a + 1) (by omega) (by omega)]
  refine Ev.bind hp (Ev.bind hq (Ev.bind hr (Ev.bind h1 (Ev.bind courses_of ?_))))
  refine Ev.ifp rfl (Ev.ifp rfl (Ev.ifp rfl (Ev.ifp rfl (Ev.ifp rfl ?_))))
  refine Ev.ifp ?_ ?_
  · simp only []
    rw [w64 (by omega) (by omega)]; exact hadd
  refine Ev.bind (at_of c a (by omega)) (Ev.to ?_)
  simp only []
  rw [hat]; simp
end Go.Proofs.Ytdajcnhhfgnbmaa.Pure
