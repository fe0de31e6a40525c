/-
A fact that becomes known later changes nothing of what was known before, and afterwards only what it tells, for every list and all numbers.
-/
import Derived.Test.YtkcmjdbeiclbkaaPFactLaterx11
set_option linter.unusedVariables false
set_option linter.unusedSimpArgs false
namespace Go.Proofs.Ytkcmjdbeiclbkaa.Pure
open Go.RowKit Go.Proofs.Ytkcmjdbeiclbkaa.PFactLater Go.Proofs.YtkcmjdbeiclbkaaW.PrintWords Go.Proofs.YtkcmjdbeiclbkaaW.PrintLast
/-- numbers that need no wrap -/
theorem w64 {x : Int} (h1 : -9223372036854775808 ≤ x) (h2 : x ≤ 9223372036854775807) : wrap64 x = x := by unfold wrap64; omega
theorem tdivnn {a b : Int} (h : 0 ≤ a) : Int.tdiv a b = a / b := Int.tdiv_eq_ediv_of_nonneg h
theorem tmodnn {a b : Int} (h : 0 ≤ a) : Int.tmod a b = a % b := Int.tmod_eq_emod_of_nonneg h
theorem Ev.ifp {α : Type} {c : Prop} [Decidable c] {a b : Nat → Option α} {r : α} (h : c) (k : Ev a r) : Ev (fun n => if c then a n else b n) r := Ev.congr (fun n => by rw [if_pos h]) k
theorem Ev.ifn {α : Type} {c : Prop} [Decidable c] {a b : Nat → Option α} {r : α} (h : ¬ c) (k : Ev b r) : Ev (fun n => if c then a n else b n) r := Ev.congr (fun n => by rw [if_neg h]) k
theorem Ev.to {α : Type} {a b : α} (h : a = b) : Ev (fun _ => some a) b := h ▸ Ev.now a
theorem below_of (x n : Int) (h0 : 0 < n) (h1 : n ≤ 4611686018427387904) : mootmake_Below.f x n = some (x % n) := by
  have hr := Int.emod_nonneg x (show n ≠ 0 by omega)
  have hl := Int.emod_lt_of_pos x h0
  unfold mootmake_Below.f
  rw [if_neg (by omega), Int.tmod_eq_emod]
  by_cases h : 0 ≤ x ∨ n ∣ x
  · rw [if_pos h, show x % n - ((0 : Nat) : Int) = x % n from by omega, if_neg (by omega)]
  · have h3 : x % n ≠ 0 := fun e => h (.inr (Int.dvd_of_emod_eq_zero e))
    rw [if_neg h, if_pos (by omega), w64 (by omega) (by omega)]
    congr 1; omega
theorem below_range (x n : Int) (h0 : 0 < n) : 0 ≤ x % n ∧ x % n < n := ⟨Int.emod_nonneg x (by omega), Int.emod_lt_of_pos x h0⟩
theorem drop_rd (l : List Int) (i : Nat) (h : i < l.length) : l.drop i = rd l (i : Int) :: l.drop (i + 1) := by
  rw [List.drop_eq_getElem_cons h]
  unfold rd
  simp [List.getD, h]
theorem w64_succ {i n : Nat} (h : i < n) (hn : n ≤ 9223372036854775807) : wrap64 ((i : Int) + 1) = ((i + 1 : Nat) : Int) := by
  rw [w64 (by omega) (by omega)]; omega
theorem next_of (l : List Int) (n : Int) (h0 : 0 < n) (h1 : n ≤ 4611686018427387904) : ∃ v l', mootmake_Stream_Next.f l n = some (v, l') ∧ 0 ≤ v ∧ v < n := by
  unfold mootmake_Stream_Next.f
  rw [if_neg (by omega)]
  by_cases h : l = []
  · rw [if_pos h]; exact ⟨0, l, rfl, by omega, h0⟩
  · rw [if_neg h, below_of _ _ h0 h1]
    have := below_range (rd l 0) n h0
    exact ⟨_, _, rfl, this.1, this.2⟩
/-- a span of a number of things, within all dates -/
def okspan (s : S58) : Prop := 0 ≤ s.f0 ∧ s.f0 < s.f1 ∧ s.f1 ≤ 1048576 ∧ s.f2.f0 = 5 ∧ -1048576 ≤ s.f2.f1 ∧ s.f2.f1 ≤ 1048576
def follows (p s : S58) : Prop := p.f1 ≤ s.f0 ∧ ¬ (s.f0 = p.f1 ∧ s.f2.f0 = p.f2.f0 ∧ s.f2.f1 = p.f2.f1)
inductive Valid : List S58 → Prop
  | nil : Valid []
  | one (s : S58) : okspan s → Valid [s]
  | snoc (l : List S58) (p s : S58) : Valid (l ++ [p]) → okspan s → follows p s → Valid (l ++ [p] ++ [s])
theorem getD_app (l : List S58) (s : S58) (i : Nat) (z : S58) : (l ++ [s]).getD i z = if i < l.length then l.getD i z else if i = l.length then s else z := by
  simp only [List.getD_eq_getElem?_getD, List.getElem?_append]
  split
  · rfl
  · split
    · rename_i h; subst h; simp
    · rename_i h h'
      rw [List.getElem?_eq_none (by simp; omega)]; rfl
theorem Valid.index {l : List S58} (h : Valid l) : ∀ i, i < l.length → okspan (l.getD i z58) ∧ (0 < i → follows (l.getD (i - 1) z58) (l.getD i z58)) := by
  induction h with
  | nil => intro i hi; simp at hi
  | one s hs => intro i hi; obtain rfl : i = 0 := by simp at hi; omega
                exact ⟨hs, fun h => by omega⟩
  | snoc l p s _ hs hf ih =>
    intro i hi
    by_cases hlt : i < (l ++ [p]).length
    · rw [getD_app (l ++ [p]) s i, getD_app (l ++ [p]) s (i - 1), if_pos hlt, if_pos (by omega)]
      exact ih i hlt
    · have e : i = (l ++ [p]).length := by rw [List.length_append] at hi; simp at hi hlt ⊢; omega
      rw [getD_app (l ++ [p]) s i, getD_app (l ++ [p]) s (i - 1), if_neg hlt, if_pos e]
      refine ⟨hs, fun hp => ?_⟩
      rw [if_pos (by omega), getD_app l p, if_neg (by simp at e; omega), if_pos (by simp at e; omega)]
      exact hf
theorem Valid.indexR {l : List S58} (h : Valid l) (i : Nat) (hi : i < l.length) : okspan (rd_T58 l (i : Int)) ∧ (0 < i → follows (rd_T58 l ((i - 1 : Nat) : Int)) (rd_T58 l (i : Int))) := h.index i hi
theorem ucheck_of (n : Int) (h1 : -1048576 ≤ n) (h2 : n ≤ 1048576) : unit_Check.f 5 n = some 0 := by
  unfold unit_Check.f unit_Range.f unit_known.f
  rw [if_neg (by decide), if_neg (by decide), if_neg (by decide), if_neg (by decide), if_pos rfl, if_pos (by decide)]
  simp only [Option.bind_some]
  rw [if_pos (by decide), if_neg (by omega), if_neg (by omega)]
/-- what a course has on a day -/
def atv : List S58 → Int → Int × Int
  | [], _ => (0, 0)
  | s :: l, d => if s.f0 ≤ d ∧ d < s.f1 then (s.f2.f0, s.f2.f1) else atv l d
theorem drop_span (l : List S58) (i : Nat) (h : i < l.length) : l.drop i = rd_T58 l (i : Int) :: l.drop (i + 1) := by
  rw [List.drop_eq_getElem_cons h]
  unfold rd_T58
  simp [List.getD, h]
def has (s : S58) (d : Int) : Prop := s.f0 ≤ d ∧ d < s.f1
instance (s : S58) (d : Int) : Decidable (has s d) := by unfold has; infer_instance
theorem atv_none (l : List S58) (d : Int) (h : ∀ t ∈ l, ¬ has t d) : atv l d = (0, 0) := by
  induction l with
  | nil => rfl
  | cons s l ih =>
    simp only [atv]
    rw [if_neg (show ¬ (s.f0 ≤ d ∧ d < s.f1) from h s (by simp))]
    exact ih fun t ht => h t (by simp [ht])
theorem atv_snoc (l : List S58) (s : S58) (d : Int) : atv (l ++ [s]) d = if ∃ t ∈ l, has t d then atv l d else if has s d then (s.f2.f0, s.f2.f1) else (0, 0) := by
  induction l with
  | nil => simp [atv, has]
  | cons a l ih =>
    simp only [List.cons_append, atv]
    by_cases h : a.f0 ≤ d ∧ d < a.f1
    · rw [if_pos h, if_pos ⟨a, by simp, h⟩, if_pos h]
    · rw [if_neg h, ih, if_neg h]
      by_cases h2 : ∃ t ∈ l, has t d
      · obtain ⟨t, ht, hd⟩ := h2
        rw [if_pos ⟨t, ht, hd⟩, if_pos ⟨t, by simp [ht], hd⟩]
      · have h3 : ¬ ∃ t ∈ a :: l, has t d := by
          rintro ⟨t, ht, hd⟩
          rcases List.mem_cons.1 ht with rfl | ht
          · exact h hd
          · exact h2 ⟨t, ht, hd⟩
        rw [if_neg h2, if_neg h3]
theorem Valid.ok {l : List S58} (h : Valid l) : ∀ t ∈ l, okspan t := by
  induction h with
  | nil => intro t ht; simp at ht
  | one s hs => intro t ht; rw [List.mem_singleton.1 ht]; exact hs
  | snoc l p s _ hs _ ih =>
    intro t ht
    rcases List.mem_append.1 ht with ht | ht
    · exact ih t ht
    · rw [List.mem_singleton.1 ht]; exact hs
/-- no span of a course ends behind its last one -/
theorem Valid.hi {l : List S58} (h : Valid l) : ∀ p, l.getLast? = some p → ∀ t ∈ l, t.f1 ≤ p.f1 := by
  induction h with
  | nil => intro p hp; simp at hp
  | one s hs => intro p hp t ht; simp at hp; rw [List.mem_singleton.1 ht, hp]; omega
  | snoc l q s _ hs hf ih =>
    intro p hp t ht
    rw [List.getLast?_append] at hp
    simp at hp
    subst hp
    rcases List.mem_append.1 ht with ht | ht
    · have := ih q (by simp) t ht
      have := hf.1; have := hs.2.1
      omega
    · rw [List.mem_singleton.1 ht]; omega
theorem mn_min (a b : Int) : mn a b = min a b := by unfold mn; split <;> omega
theorem mx_max (a b : Int) : mx a b = max a b := by unfold mx; split <;> omega
theorem Valid.mk {l : List S58} {s : S58} (h : Valid l) (hs : okspan s) (hf : ∀ q, l.getLast? = some q → follows q s) : Valid (l ++ [s]) := by
  rcases List.eq_nil_or_concat l with rfl | ⟨l', p, rfl⟩
  · exact Valid.one s hs
  · simp only [List.concat_eq_append] at h hf ⊢
    exact Valid.snoc l' p s h hs (hf p (by simp))
theorem Valid.inv {l : List S58} {p : S58} (h : Valid (l ++ [p])) : Valid l ∧ okspan p ∧ ∀ q, l.getLast? = some q → follows q p := by
  generalize e : l ++ [p] = m at h
  cases h with
  | nil => simp at e
  | one s hs =>
    obtain ⟨rfl, rfl⟩ : l = [] ∧ p = s := by
      cases l with
      | nil => exact ⟨rfl, by simpa using e⟩
      | cons a l => simp at e
    exact ⟨Valid.nil, hs, fun q hq => by simp at hq⟩
  | snoc l2 p2 s2 hv hs hf =>
    obtain ⟨e1, e2⟩ := List.append_inj' e rfl
    obtain rfl : p = s2 := by simpa using e2
    subst e1
    refine ⟨hv, hs, fun q hq => ?_⟩
    obtain rfl : p2 = q := by simpa using hq
    exact hf
def Upto (l : List S58) (m : Int) : Prop := ∀ t ∈ l, t.f1 ≤ m
theorem Upto.mono {l : List S58} {m m' : Int} (h : Upto l m) (hm : m ≤ m') : Upto l m' := fun t ht => Int.le_trans (h t ht) hm
/-- a course with one span more behind it -/
def gro (l : List S58) (f t kd n : Int) : List S58 :=
  match l.getLast? with
  | none => l ++ [(⟨f, t, (⟨kd, n⟩ : S56)⟩ : S58)]
  | some p => if p.f1 = f ∧ p.f2.f0 = kd ∧ p.f2.f1 = n then l.dropLast ++ [(⟨p.f0, t, (⟨p.f2.f0, p.f2.f1⟩ : S56)⟩ : S58)] else l ++ [(⟨f, t, (⟨kd, n⟩ : S56)⟩ : S58)]
theorem gro_of (l : List S58) (f t kd n : Int) (hv : Valid l) (hok : okspan ⟨f, t, ⟨kd, n⟩⟩) (hup : Upto l f) :
    Valid (gro l f t kd n) ∧ (gro l f t kd n).length ≤ l.length + 1 ∧ (∀ d, atv (gro l f t kd n) d = if f ≤ d ∧ d < t then (kd, n) else atv l d) ∧ ∀ m, Upto l m → t ≤ m → Upto (gro l f t kd n) m := by
  have o2 : f < t := hok.2.1
  have happ : ∀ (d : Int), atv (l ++ [(⟨f, t, (⟨kd, n⟩ : S56)⟩ : S58)]) d = if f ≤ d ∧ d < t then (kd, n) else atv l d := by
    intro d
    rw [atv_snoc]
    by_cases h : ∃ t ∈ l, has t d
    · obtain ⟨u, hu, hd⟩ := h
      have := hup u hu; have := hd.2
      rw [if_pos ⟨u, hu, hd⟩, if_neg (by omega)]
    · rw [if_neg h, atv_none l d (fun u hu hd => h ⟨u, hu, hd⟩)]
      by_cases hd : f ≤ d ∧ d < t
      · rw [if_pos (show has (⟨f, t, (⟨kd, n⟩ : S56)⟩ : S58) d from hd), if_pos hd]
      · rw [if_neg (show ¬ has (⟨f, t, (⟨kd, n⟩ : S56)⟩ : S58) d from hd), if_neg hd]
  have happu : ∀ m, Upto l m → t ≤ m → Upto (l ++ [(⟨f, t, (⟨kd, n⟩ : S56)⟩ : S58)]) m := by
    intro m hm ht u hu
    rcases List.mem_append.1 hu with hu | hu
    · exact hm u hu
    · rw [List.mem_singleton.1 hu]; exact ht
  rcases List.eq_nil_or_concat l with rfl | ⟨l', p, rfl⟩
  · have e : gro [] f t kd n = [] ++ [(⟨f, t, (⟨kd, n⟩ : S56)⟩ : S58)] := rfl
    rw [e]
    exact ⟨Valid.one _ hok, by simp, happ, happu⟩
  · simp only [List.concat_eq_append] at *
    have hinv := hv.inv
    by_cases he : p.f1 = f ∧ p.f2.f0 = kd ∧ p.f2.f1 = n
    · have e : gro (l' ++ [p]) f t kd n = l' ++ [(⟨p.f0, t, (⟨p.f2.f0, p.f2.f1⟩ : S56)⟩ : S58)] := by
        unfold gro
        simp [he]
      rw [e]
      obtain ⟨e1, e2, e3⟩ := he
      have hpo := hinv.2.1
      have hok' : okspan (⟨p.f0, t, (⟨p.f2.f0, p.f2.f1⟩ : S56)⟩ : S58) := ⟨hpo.1, by have := hpo.2.1; show p.f0 < t; omega, hok.2.2.1, by show p.f2.f0 = 5; exact hpo.2.2.2.1, hpo.2.2.2.2.1, hpo.2.2.2.2.2⟩
      have hlow : ∀ u ∈ l', u.f1 ≤ p.f0 := by
        intro u hu
        rcases List.eq_nil_or_concat l' with rfl | ⟨l2, q, rfl⟩
        · simp at hu
        · simp only [List.concat_eq_append] at *
          have := hinv.1.hi q (by simp) u hu
          have := (hinv.2.2 q (by simp)).1
          omega
      refine ⟨hinv.1.mk hok' (fun q hq => hinv.2.2 q hq), by simp, fun d => ?_, fun m hm ht u hu => ?_⟩
      · rw [atv_snoc, atv_snoc]
        by_cases h : ∃ t ∈ l', has t d
        · obtain ⟨u, hu, hd⟩ := h
          have := hlow u hu; have := hd.2; have := hpo.2.1
          rw [if_neg (c := f ≤ d ∧ d < t) (by omega), if_pos (c := ∃ t ∈ l', has t d) ⟨u, hu, hd⟩, if_pos (c := ∃ t ∈ l', has t d) ⟨u, hu, hd⟩]
        · rw [if_neg h, if_neg h]
          have hp1 := hpo.2.1
          by_cases hd : f ≤ d ∧ d < t
          · rw [if_pos (show has (⟨p.f0, t, (⟨p.f2.f0, p.f2.f1⟩ : S56)⟩ : S58) d from ⟨by show p.f0 ≤ d; omega, hd.2⟩), if_pos hd]
            show (p.f2.f0, p.f2.f1) = (kd, n)
            rw [e2, e3]
          · rw [if_neg (c := f ≤ d ∧ d < t) hd]
            by_cases hd2 : has p d
            · have := hd2.1; have := hd2.2
              rw [if_pos hd2, if_pos (show has (⟨p.f0, t, (⟨p.f2.f0, p.f2.f1⟩ : S56)⟩ : S58) d from ⟨hd2.1, by show d < t; omega⟩)]
            · rw [if_neg hd2, if_neg]
              rintro ⟨ha, hb⟩
              have ha' : p.f0 ≤ d := ha; have hb' : d < t := hb
              exact hd2 ⟨ha', by omega⟩
      · rcases List.mem_append.1 hu with hu | hu
        · exact hm u (List.mem_append.2 (.inl hu))
        · rw [List.mem_singleton.1 hu]; exact ht
    · have hfo : follows p ⟨f, t, ⟨kd, n⟩⟩ := ⟨hup p (by simp), fun h => he ⟨h.1.symm, h.2.1.symm, h.2.2.symm⟩⟩
      have e : gro (l' ++ [p]) f t kd n = l' ++ [p] ++ [(⟨f, t, (⟨kd, n⟩ : S56)⟩ : S58)] := by
        unfold gro
        simp [he]
      rw [e]
      exact ⟨Valid.snoc l' p _ hv hok hfo, by simp, happ, happu⟩
def tA : ByteArray := ⟨#[97]⟩
def tB : ByteArray := ⟨#[98]⟩
/-- a fact of the two parties, as `facts` makes them -/
structure Good (f : S77) : Prop where
  who : f.f0 = 0 ∨ f.f0 = 1
  attr : f.f1 = tA ∨ f.f1 = tB
  val : (f.f2.f0 = 0 ∧ f.f2.f1 = 0) ∨ (f.f2.f0 = 5 ∧ 0 ≤ f.f2.f1 ∧ f.f2.f1 < 4)
  from0 : 0 ≤ f.f3
  from1 : f.f3 < 60
  to0 : f.f3 < f.f4
  to1 : f.f4 ≤ f.f3 + 30
  known0 : 0 ≤ f.f5
  known1 : f.f5 ≤ 30
theorem facts_l0 (m : Int) (hm : m < 12) (n : Nat) : ∀ (i : Nat) (l : List S77) (st : List Int), (i : Int) ≤ max m 0 → (max m 0 - i).toNat = n → l.length = i → (∀ f ∈ l, Good f ∧ f.f5 < 20) →
    ∃ F, Ev (fun k => mootkeep1_facts.l0 k l m (i : Int) st) F ∧ F.length ≤ 11 ∧ ∀ f ∈ F, Good f ∧ f.f5 < 20 := by
  induction n with
  | zero =>
    intro i l st hi hn hl hg
    refine ⟨l, Ev.step (f := fun _ => some l) (fun k => ?_) (Ev.now _), by omega, hg⟩
    simp only [mootkeep1_facts.l0]
    rw [if_neg (by omega)]
  | succ n ih =>
    intro i l st hi hn hl hg
    have hi11 : i < 11 := by omega
    obtain ⟨a, s1, e1, a0, a1⟩ := next_of st 2 (by omega) (by omega)
    obtain ⟨b, s2, e2, b0, b1⟩ := next_of s1 2 (by omega) (by omega)
    obtain ⟨c, s3, e3, c0, c1⟩ := next_of s2 4 (by omega) (by omega)
    obtain ⟨d, s4, e4, d0, d1⟩ := next_of s3 60 (by omega) (by omega)
    obtain ⟨x, s5, e5, x0, x1⟩ := next_of s4 20 (by omega) (by omega)
    obtain ⟨y, s6, e6, y0, y1⟩ := next_of s5 30 (by omega) (by omega)
    obtain ⟨z, s7, e7, z0, z1⟩ := next_of s6 5 (by omega) (by omega)
    have hw : wrap64 (wrap64 (d + 1) + y) = d + 1 + y := by rw [w64 (x := d + 1) (by omega) (by omega), w64 (by omega) (by omega)]
    have hat : rdOf ByteArray.empty [tA, tB] b = tA ∨ rdOf ByteArray.empty [tA, tB] b = tB := by
      rcases (show b = 0 ∨ b = 1 by omega) with rfl | rfl
      · exact .inl rfl
      · exact .inr rfl
    have main : ∀ v w : Int, (v = 0 ∧ w = 0) ∨ (v = 5 ∧ 0 ≤ w ∧ w < 4) → ∃ F, Ev (fun k => mootkeep1_facts.j1 k l m (i : Int) s7 a (rdOf ByteArray.empty [tA, tB] b) v w d (d + 1 + y) x) F ∧ F.length ≤ 11 ∧ ∀ f ∈ F, Good f ∧ f.f5 < 20 := by
      intro v w hvw
      obtain ⟨F, hF, h⟩ := ih (i + 1) (l ++ [(⟨a, rdOf ByteArray.empty [tA, tB] b, (⟨v, w⟩ : S56), d, d + 1 + y, x⟩ : S77)]) s7 (by omega) (by omega) (by simp [hl]) (fun f hf => by
        rcases List.mem_append.1 hf with hf | hf
        · exact hg f hf
        · rw [List.mem_singleton.1 hf]
          exact ⟨⟨by show a = 0 ∨ a = 1; omega, hat, hvw, d0, d1, by show d < d + 1 + y; omega, by show d + 1 + y ≤ d + 30; omega, x0, by show x ≤ 30; omega⟩, x1⟩)
      refine ⟨F, Ev.step (fun k => ?_) hF, h⟩
      simp only [mootkeep1_facts.j1]
      rw [if_pos (by omega), w64 (x := (i : Int) + 1) (by omega) (by omega), show (i : Int) + 1 = ((i + 1 : Nat) : Int) from by omega]
    by_cases hz : z = 1
    · obtain ⟨F, hF, h⟩ := main 0 0 (.inl ⟨rfl, rfl⟩)
      refine ⟨F, Ev.step (fun k => ?_) hF, h⟩
      simp only [mootkeep1_facts.l0]
      rw [if_pos (by omega), e1]
      simp only [Option.bind_some]
      rw [e2]
      simp only [Option.bind_some]
      rw [if_pos (by omega), if_pos (by simp; omega), e3]
      simp only [Option.bind_some]
      rw [e4]
      simp only [Option.bind_some]
      rw [e5]
      simp only [Option.bind_some]
      rw [e6]
      simp only [Option.bind_some]
      rw [e7]
      simp only [Option.bind_some]
      rw [if_pos hz, hw]
      rfl
    · obtain ⟨F, hF, h⟩ := main 5 c (.inr ⟨rfl, c0, c1⟩)
      refine ⟨F, Ev.step (fun k => ?_) hF, h⟩
      simp only [mootkeep1_facts.l0]
      rw [if_pos (by omega), e1]
      simp only [Option.bind_some]
      rw [e2]
      simp only [Option.bind_some]
      rw [if_pos (by omega), if_pos (by simp; omega), e3]
      simp only [Option.bind_some]
      rw [e4]
      simp only [Option.bind_some]
      rw [e5]
      simp only [Option.bind_some]
      rw [e6]
      simp only [Option.bind_some]
      rw [e7]
      simp only [Option.bind_some]
      rw [if_neg hz, hw]
      rfl
theorem facts_of (l : List Int) : ∃ F, Ev (fun k => mootkeep1_facts.f k l) F ∧ F.length ≤ 11 ∧ ∀ f ∈ F, Good f ∧ f.f5 < 20 := by
  obtain ⟨m, s1, e1, m0, m1⟩ := next_of l 12 (by omega) (by omega)
  obtain ⟨F, hF, h⟩ := facts_l0 m m1 _ 0 [] s1 (by omega) rfl rfl (fun f hf => by simp at hf)
  refine ⟨F, ?_, h⟩
  simp only [mootkeep1_facts.f]
  rw [e1]
  exact hF
/-- whether a fact speaks of a party's attribute -/
def ofw (who : Int) (attr : ByteArray) (f : S77) : Bool := decide (f.f0 = who) && decide (f.f1.toList = attr.toList)
/-- whether a fact is known and has a day -/
def hit (who : Int) (attr : ByteArray) (d known : Int) (f : S77) : Bool := ofw who attr f && !decide (f.f5 > known) && !decide (d < f.f3) && !decide (d ≥ f.f4)
def ste (h : S77 → Bool) (s : Int × Bool × Int × Int) (f : S77) : Int × Bool × Int × Int :=
  if h f = true then (if s.2.1 = true ∧ f.f5 < s.1 then s else (f.f5, true, f.f2.f0, f.f2.f1)) else s
def fin (s : Int × Bool × Int × Int) : Int × Int := if s.2.2.1 = 0 then (0, 0) else (s.2.2.1, s.2.2.2)
/-- the value of an attribute as of a day and a day of knowledge -/
def atF (F : List S77) (who : Int) (attr : ByteArray) (d known : Int) : Int × Int := fin (F.foldl (ste (hit who attr d known)) (0, false, 0, 0))
theorem drop_fact (l : List S77) (i : Nat) (h : i < l.length) : l.drop i = rd_T77 l (i : Int) :: l.drop (i + 1) := by
  rw [List.drop_eq_getElem_cons h]
  unfold rd_T77
  simp [List.getD, h]
theorem factAt_l0 (who : Int) (attr : ByteArray) (d known : Int) (F : List S77) (hl : F.length ≤ 4398046511104) (n : Nat) : ∀ (i : Nat) (s : Int × Bool × Int × Int), i ≤ F.length → F.length - i = n →
    Ev (fun k => fact_At.l0 k who attr d known s.1 s.2.1 F (F.length : Int) (i : Int) s.2.2.1 s.2.2.2) (fin ((F.drop i).foldl (ste (hit who attr d known)) s)) := by
  induction n with
  | zero =>
    intro i s hi hn
    obtain rfl : i = F.length := by omega
    rw [List.drop_length]
    refine Ev.step (f := fun _ => some (fin s)) (fun k => ?_) (Ev.now _)
    simp only [fact_At.l0]
    rw [if_neg (by omega)]
    unfold fin
    split <;> rfl
  | succ n ih =>
    intro i s hi hn
    have hlt : i < F.length := by omega
    rw [drop_fact F i hlt, List.foldl_cons]
    have skip : hit who attr d known (rd_T77 F (i : Int)) = false → ste (hit who attr d known) s (rd_T77 F (i : Int)) = s := fun h => by unfold ste; rw [if_neg (by rw [h]; decide)]
    have ih' := ih (i + 1)
    have hw := w64_succ hlt (by omega)
    by_cases h1 : (rd_T77 F (i : Int)).f0 = who
    · by_cases h2 : (rd_T77 F (i : Int)).f1.toList = attr.toList
      · by_cases h3 : (rd_T77 F (i : Int)).f5 > known
        · rw [skip (by unfold hit; simp [h3])]
          refine Ev.step (fun k => ?_) (ih' s (by omega) (by omega))
          simp only [fact_At.l0]
          rw [if_pos (by omega), if_pos (by omega), if_pos (by omega), if_pos h1, if_pos h2, if_pos h3, hw]
        · by_cases h4 : d < (rd_T77 F (i : Int)).f3
          · rw [skip (by unfold hit; simp [h4])]
            refine Ev.step (fun k => ?_) (ih' s (by omega) (by omega))
            simp only [fact_At.l0]
            rw [if_pos (by omega), if_pos (by omega), if_pos (by omega), if_pos h1, if_pos h2, if_neg h3, if_pos h4, hw]
          · by_cases h5 : d ≥ (rd_T77 F (i : Int)).f4
            · rw [skip (by unfold hit; simp [h5])]
              refine Ev.step (fun k => ?_) (ih' s (by omega) (by omega))
              simp only [fact_At.l0]
              rw [if_pos (by omega), if_pos (by omega), if_pos (by omega), if_pos h1, if_pos h2, if_neg h3, if_neg h4, if_pos h5, hw]
            · have hh : hit who attr d known (rd_T77 F (i : Int)) = true := by unfold hit ofw; simp only [h1, h2]; simp; omega
              by_cases h6 : s.2.1 = true
              · by_cases h7 : (rd_T77 F (i : Int)).f5 < s.1
                · have e : ste (hit who attr d known) s (rd_T77 F (i : Int)) = s := by unfold ste; rw [if_pos hh, if_pos ⟨h6, h7⟩]
                  rw [e]
                  refine Ev.step (fun k => ?_) (ih' s (by omega) (by omega))
                  simp only [fact_At.l0]
                  rw [if_pos (by omega), if_pos (by omega), if_pos (by omega), if_pos h1, if_pos h2, if_neg h3, if_neg h4, if_neg h5, if_pos h6, if_pos h7, hw]
                · have e : ste (hit who attr d known) s (rd_T77 F (i : Int)) = ((rd_T77 F (i : Int)).f5, true, (rd_T77 F (i : Int)).f2.f0, (rd_T77 F (i : Int)).f2.f1) := by unfold ste; rw [if_pos hh, if_neg (fun h => h7 h.2)]
                  rw [e]
                  refine Ev.step (fun k => ?_) (ih' _ (by omega) (by omega))
                  simp only [fact_At.l0]
                  rw [if_pos (by omega), if_pos (by omega), if_pos (by omega), if_pos h1, if_pos h2, if_neg h3, if_neg h4, if_neg h5, if_pos h6, if_neg h7, hw]
              · have e : ste (hit who attr d known) s (rd_T77 F (i : Int)) = ((rd_T77 F (i : Int)).f5, true, (rd_T77 F (i : Int)).f2.f0, (rd_T77 F (i : Int)).f2.f1) := by unfold ste; rw [if_pos hh, if_neg (fun h => h6 h.1)]
                rw [e]
                refine Ev.step (fun k => ?_) (ih' _ (by omega) (by omega))
                simp only [fact_At.l0]
                rw [if_pos (by omega), if_pos (by omega), if_pos (by omega), if_pos h1, if_pos h2, if_neg h3, if_neg h4, if_neg h5, if_neg h6, hw]
      · rw [skip (by unfold hit ofw; simp [h2])]
        refine Ev.step (fun k => ?_) (ih' s (by omega) (by omega))
        simp only [fact_At.l0]
        rw [if_pos (by omega), if_pos (by omega), if_pos (by omega), if_pos h1, if_neg h2, hw]
    · rw [skip (by unfold hit ofw; simp [h1])]
      refine Ev.step (fun k => ?_) (ih' s (by omega) (by omega))
      simp only [fact_At.l0]
      rw [if_pos (by omega), if_pos (by omega), if_pos (by omega), if_neg h1, hw]
theorem factAt_of (F : List S77) (who : Int) (attr : ByteArray) (d known : Int) (hl : F.length ≤ 4398046511104) : Ev (fun k => fact_At.f k F who attr d known) (atF F who attr d known) := by
  simp only [fact_At.f]
  exact factAt_l0 who attr d known F hl _ 0 (0, false, 0, 0) (by omega) rfl
/-- the value depends on the facts that have the day alone -/
theorem atF_congr (F : List S77) (who : Int) (attr : ByteArray) (d d' known known' : Int) (h : ∀ f ∈ F, hit who attr d known f = hit who attr d' known' f) : atF F who attr d known = atF F who attr d' known' := by
  unfold atF
  congr 1
  generalize ((0, false, 0, 0) : Int × Bool × Int × Int) = s
  induction F generalizing s with
  | nil => rfl
  | cons f F ih =>
    simp only [List.foldl_cons]
    have e : ste (hit who attr d known) s f = ste (hit who attr d' known') s f := by unfold ste; rw [h f (by simp)]
    rw [e]
    exact ih (fun g hg => h g (by simp [hg])) _
theorem atF_none (F : List S77) (who : Int) (attr : ByteArray) (d known : Int) (h : ∀ f ∈ F, hit who attr d known f = false) : atF F who attr d known = (0, 0) := by
  have e : F.foldl (ste (hit who attr d known)) (0, false, 0, 0) = (0, false, 0, 0) := by
    induction F with
    | nil => rfl
    | cons f F ih =>
      rw [List.foldl_cons, show ste (hit who attr d known) (0, false, 0, 0) f = (0, false, 0, 0) from by unfold ste; rw [if_neg (by rw [h f (by simp)]; decide)]]
      exact ih fun g hg => h g (by simp [hg])
  unfold atF
  rw [e]
  rfl
/-- a value of the two kinds -/
def okval (v : Int × Int) : Prop := v = (0, 0) ∨ (v.1 = 5 ∧ 0 ≤ v.2 ∧ v.2 < 4)
theorem atF_val (F : List S77) (hF : ∀ f ∈ F, Good f) (who : Int) (attr : ByteArray) (d known : Int) : okval (atF F who attr d known) := by
  have key : ∀ (F : List S77) (s : Int × Bool × Int × Int), (∀ f ∈ F, Good f) → okval (s.2.2.1, s.2.2.2) → okval ((F.foldl (ste (hit who attr d known)) s).2.2.1, (F.foldl (ste (hit who attr d known)) s).2.2.2) := by
    intro F
    induction F with
    | nil => intro s _ hs; exact hs
    | cons f F ih =>
      intro s hF hs
      rw [List.foldl_cons]
      refine ih _ (fun g hg => hF g (by simp [hg])) ?_
      unfold ste
      split
      · split
        · exact hs
        · rcases (hF f (by simp)).val with ⟨h1, h2⟩ | h
          · exact .inl (by simp [h1, h2])
          · exact .inr h
      · exact hs
  have := key F (0, false, 0, 0) hF (.inl rfl)
  unfold atF fin
  split
  · exact .inl rfl
  · exact this
theorem mem_compact (l : List Int) (x : Int) : x ∈ Lib.compact l ↔ x ∈ l := by
  unfold Lib.compact Lib.compactUpTo
  rw [List.mem_map]
  constructor
  · rintro ⟨j, hj, rfl⟩
    have := List.mem_range.1 (List.mem_filter.1 hj).1
    simp [this]
  · intro h
    obtain ⟨j, hj, e⟩ := List.getElem_of_mem h
    induction j generalizing x with
    | zero => exact ⟨0, List.mem_filter.2 ⟨List.mem_range.2 hj, by simp [Lib.keeps]⟩, by simp [hj, e]⟩
    | succ j ih =>
      by_cases hk : Lib.keeps l.toArray (j + 1) = true
      · exact ⟨j + 1, List.mem_filter.2 ⟨List.mem_range.2 hj, hk⟩, by simp [hj, e]⟩
      · have hj' : j < l.length := by omega
        have e2 : l[j] = l[j + 1] := by
          unfold Lib.keeps at hk
          simp [hj, hj'] at hk
          exact hk.symm
        exact ih x (by rw [← e, ← e2]; exact List.getElem_mem hj') hj' (by rw [e2, e])
theorem sorted_rd {l : List Int} (h : l.Pairwise (· ≤ ·)) (i j : Nat) (hij : i ≤ j) (hj : j < l.length) : rd l (i : Int) ≤ rd l (j : Int) := by
  have e : ∀ k : Nat, k < l.length → rd l (k : Int) = l[k]! := fun k hk => by unfold rd; simp [List.getD, hk]
  rw [e i (by omega), e j hj]
  rcases Nat.lt_or_eq_of_le hij with hlt | rfl
  · simpa [hj, show i < l.length by omega] using List.pairwise_iff_getElem.1 h i j (by omega) hj hlt
  · exact Int.le_refl _
theorem compact_rises {l : List Int} (h : l.Pairwise (· ≤ ·)) : (Lib.compact l).Pairwise (· < ·) := by
  unfold Lib.compact Lib.compactUpTo
  rw [List.pairwise_map]
  have hr : ((List.range l.length).filter (Lib.keeps l.toArray)).Pairwise (· < ·) := (List.pairwise_lt_range).filter _
  refine List.Pairwise.imp_of_mem (fun {a b} ha hb hab => ?_) hr
  have h1 := List.mem_range.1 (List.mem_filter.1 ha).1
  have h2 := List.mem_range.1 (List.mem_filter.1 hb).1
  have h3 := (List.mem_filter.1 hb).2
  have e : ∀ k : Nat, k < l.length → rd l (k : Int) = l.toArray[k]! := fun k hk => by unfold rd; simp [List.getD, hk]
  obtain ⟨b', rfl⟩ : ∃ b', b = b' + 1 := ⟨b - 1, by omega⟩
  have s1 := sorted_rd h a b' (by omega) (by omega)
  have s2 := sorted_rd h b' (b' + 1) (by omega) h2
  rw [e a h1, e b' (by omega)] at s1
  rw [e b' (by omega), e (b' + 1) h2] at s2
  unfold Lib.keeps at h3
  have h4 : l.toArray[b' + 1]! ≠ l.toArray[b']! := by simpa using h3
  omega
/-- days in order, each once -/
def days (l : List Int) : List Int := Lib.compact (l.mergeSort fun x y => decide (x ≤ y))
theorem mem_days (l : List Int) (x : Int) : x ∈ days l ↔ x ∈ l := by
  unfold days
  rw [mem_compact]
  exact (List.mergeSort_perm l _).mem_iff
theorem days_rise (l : List Int) : (days l).Pairwise (· < ·) := by
  unfold days
  refine compact_rises ?_
  have := List.pairwise_mergeSort (le := fun x y : Int => decide (x ≤ y)) (fun a b c h1 h2 => by simp at *; omega) (fun a b => by simp; omega) l
  exact this.imp (fun h => by simpa using h)
theorem days_len (l : List Int) : (days l).length ≤ l.length := by
  unfold days Lib.compact Lib.compactUpTo
  rw [List.length_map]
  refine Nat.le_trans (List.length_filter_le ..) ?_
  rw [List.length_range, List.length_mergeSort]
  exact Nat.le_refl _
theorem days_of (l : List Int) (h : l.length ≤ 1000000) : (slices_Sort_int_int.f l).bind (fun t => slices_Compact_int_int.f t) = some (days l) := by
  unfold slices_Sort_int_int.f slices_Compact_int_int.f
  rw [if_pos h, Option.bind_some, if_pos (by rw [List.length_mergeSort]; exact h)]
  rfl
theorem rise_rd {l : List Int} (h : l.Pairwise (· < ·)) (i j : Nat) (hij : i < j) (hj : j < l.length) : rd l (i : Int) < rd l (j : Int) := by
  have e : ∀ k : Nat, k < l.length → rd l (k : Int) = l[k]! := fun k hk => by unfold rd; simp [List.getD, hk]
  rw [e i (by omega), e j hj]
  simpa [hj, show i < l.length by omega] using List.pairwise_iff_getElem.1 h i j (by omega) hj hij
theorem rd_mem {l : List Int} (i : Nat) (h : i < l.length) : rd l (i : Int) ∈ l := by
  unfold rd
  simp [List.getD, h]
theorem mem_rd {l : List Int} {x : Int} (h : x ∈ l) : ∃ i : Nat, i < l.length ∧ rd l (i : Int) = x := by
  obtain ⟨i, hi, e⟩ := List.getElem_of_mem h
  exact ⟨i, hi, by unfold rd; simp [List.getD, hi, e]⟩
/-- between two days that follow one another there is none -/
theorem days_gap {l : List Int} (h : l.Pairwise (· < ·)) (i : Nat) (hi : i + 1 < l.length) (x : Int) (hx : x ∈ l) : x ≤ rd l (i : Int) ∨ rd l ((i + 1 : Nat) : Int) ≤ x := by
  obtain ⟨j, hj, rfl⟩ := mem_rd hx
  by_cases hij : j ≤ i
  · left
    rcases Nat.lt_or_eq_of_le hij with hlt | rfl
    · exact Int.le_of_lt (rise_rd h j i hlt (by omega))
    · exact Int.le_refl _
  · right
    rcases Nat.lt_or_eq_of_le (show i + 1 ≤ j by omega) with hlt | he
    · exact Int.le_of_lt (rise_rd h (i + 1) j hlt hj)
    · rw [he]; exact Int.le_refl _
def clamp (x : Int) : Int := mx 0 (mn x 1048576)
theorem clamp_id {x : Int} (h0 : 0 ≤ x) (h1 : x ≤ 1048576) : clamp x = x := by unfold clamp; rw [mx_max, mn_min]; omega
def endsOf (who : Int) (attr : ByteArray) : List S77 → List Int
  | [] => []
  | f :: F => if ofw who attr f = true then clamp f.f3 :: clamp f.f4 :: endsOf who attr F else endsOf who attr F
theorem endsOf_len (who : Int) (attr : ByteArray) (F : List S77) : (endsOf who attr F).length ≤ 2 * F.length := by
  induction F with
  | nil => simp [endsOf]
  | cons f F ih => unfold endsOf; split <;> simp <;> omega
theorem endsOf_mem (who : Int) (attr : ByteArray) (F : List S77) (f : S77) (hf : f ∈ F) (hm : ofw who attr f = true) : clamp f.f3 ∈ endsOf who attr F ∧ clamp f.f4 ∈ endsOf who attr F := by
  induction F with
  | nil => simp at hf
  | cons g F ih =>
    rcases List.mem_cons.1 hf with rfl | hf
    · unfold endsOf; rw [if_pos hm]; simp
    · have := ih hf
      unfold endsOf
      split <;> simp [this.1, this.2]
theorem endsOf_bound (who : Int) (attr : ByteArray) (F : List S77) (x : Int) (h : x ∈ endsOf who attr F) : 0 ≤ x ∧ x ≤ 1048576 := by
  have hc : ∀ y, 0 ≤ clamp y ∧ clamp y ≤ 1048576 := fun y => by unfold clamp; rw [mx_max, mn_min]; omega
  induction F with
  | nil => simp [endsOf] at h
  | cons g F ih =>
    unfold endsOf at h
    split at h
    · rcases List.mem_cons.1 h with rfl | h
      · exact hc _
      rcases List.mem_cons.1 h with rfl | h
      · exact hc _
      · exact ih h
    · exact ih h
theorem endsOf_nil (who : Int) (attr : ByteArray) (F : List S77) (h : endsOf who attr F = []) : ∀ f ∈ F, ofw who attr f = false := by
  intro f hf
  rcases hb : ofw who attr f with _ | _
  · rfl
  · have := (endsOf_mem who attr F f hf hb).1
    rw [h] at this
    simp at this
theorem ends_l0 (who : Int) (attr : ByteArray) (known : Int) (F : List S77) (hl : F.length ≤ 1000) (r : List S58) (n : Nat) : ∀ (i : Nat) (acc : List Int), i ≤ F.length → F.length - i = n → acc.length ≤ 2 * i →
    Ev (fun k => fact_Line.l1 k F who attr known (days (acc ++ endsOf who attr (F.drop i))) [] 0) r → Ev (fun k => fact_Line.l0 k F who attr known acc F (F.length : Int) (i : Int)) r := by
  induction n with
  | zero =>
    intro i acc hi hn ha h
    obtain rfl : i = F.length := by omega
    rw [List.drop_length, endsOf, List.append_nil] at h
    refine Ev.step (fun k => ?_) h
    simp only [fact_Line.l0]
    rw [if_neg (by omega), ← Option.bind_assoc, days_of _ (by omega)]
    rfl
  | succ n ih =>
    intro i acc hi hn ha h
    have hlt : i < F.length := by omega
    rw [drop_fact F i hlt, endsOf] at h
    have hw := w64_succ hlt (by omega)
    by_cases h1 : (rd_T77 F (i : Int)).f0 = who
    · by_cases h2 : (rd_T77 F (i : Int)).f1.toList = attr.toList
      · rw [if_pos (by unfold ofw; simp [h1, h2])] at h
        refine Ev.step (fun k => ?_) (ih (i + 1) (acc ++ [clamp (rd_T77 F (i : Int)).f3, clamp (rd_T77 F (i : Int)).f4]) (by omega) (by omega) (by simp; omega) (by simpa using h))
        simp only [fact_Line.l0]
        rw [if_pos (by omega), if_pos (by omega), if_pos (by omega), if_pos h1, if_pos h2, Option.bind_some, if_pos (by simp; omega), hw]
        rfl
      · rw [if_neg (by unfold ofw; simp [h2])] at h
        refine Ev.step (fun k => ?_) (ih (i + 1) acc (by omega) (by omega) (by omega) h)
        simp only [fact_Line.l0]
        rw [if_pos (by omega), if_pos (by omega), if_pos (by omega), if_pos h1, if_neg h2, hw]
    · rw [if_neg (by unfold ofw; simp [h1])] at h
      refine Ev.step (fun k => ?_) (ih (i + 1) acc (by omega) (by omega) (by omega) h)
      simp only [fact_Line.l0]
      rw [if_pos (by omega), if_pos (by omega), if_pos (by omega), if_neg h1, hw]
theorem hit_ofw {who : Int} {attr : ByteArray} {d known : Int} {f : S77} (h : ofw who attr f = false) : hit who attr d known f = false := by unfold hit; rw [h]; rfl
/-- one day after another: what the last span says, and one more -/
theorem gro_step (who : Int) (attr : ByteArray) (known : Int) (F : List S77) (E : List Int) (out : List S58) (i : Nat) (hi : i + 1 < E.length) (hE : E.length ≤ 2000) (hl : out.length ≤ 2000) (v : Int × Int) (hv : v.1 ≠ 0) (r : List S58)
    (hat : Ev (fun k => fact_At.f k F who attr (rd E (i : Int)) known) v) (h : Ev (fun k => fact_Line.l1 k F who attr known E (gro out (rd E (i : Int)) (rd E ((i + 1 : Nat) : Int)) v.1 v.2) ((i + 1 : Nat) : Int)) r) :
    Ev (fun k => fact_Line.l1 k F who attr known E out (i : Int)) r := by
  obtain ⟨a, b⟩ := v
  have hw := w64_succ (i := i) (n := E.length) (by omega) (by omega)
  have hlw : wrap64 ((out.length : Int) - 1) = (out.length : Int) - 1 := w64 (by omega) (by omega)
  refine Ev.step (f := fun k => (fact_At.f k F who attr (rd E (i : Int)) known).bind fun bt171 => (if bt171.1 = 0 then (fact_Line.l1 k F who attr known E out ((i + 1 : Nat) : Int)) else (if (out.length : Int) - 1 ≥ 0 then (if 0 ≤ (out.length : Int) - 1 then (if (out.length : Int) - 1 < (out.length : Int) then (if ((rd_T58 out ((out.length : Int) - 1)).f1) = (rd E (i : Int)) then (fact_Line.j2 k F who attr known E out (i : Int) ((out.length : Int) - 1) (((rd_T58 out ((out.length : Int) - 1)).f2.f0) == bt171.1 && (((rd_T58 out ((out.length : Int) - 1)).f2.f1) == bt171.2)) (rd E (i : Int)) (rd E ((i + 1 : Nat) : Int)) bt171.1 bt171.2) else (fact_Line.j2 k F who attr known E out (i : Int) ((out.length : Int) - 1) false (rd E (i : Int)) (rd E ((i + 1 : Nat) : Int)) bt171.1 bt171.2)) else (none)) else (none)) else (fact_Line.j2 k F who attr known E out (i : Int) ((out.length : Int) - 1) false (rd E (i : Int)) (rd E ((i + 1 : Nat) : Int)) bt171.1 bt171.2)))) (fun k => ?_) ?_
  · simp only [fact_Line.l1, hw, hlw]
    rw [if_pos (by omega), if_pos (by omega), if_pos (by omega), if_pos (by omega)]
  refine Ev.bind hat (Ev.ifn hv ?_)
  have happ : gro out (rd E (i : Int)) (rd E ((i + 1 : Nat) : Int)) a b = out ++ [(⟨rd E (i : Int), rd E ((i + 1 : Nat) : Int), (⟨a, b⟩ : S56)⟩ : S58)] → ∀ q : Int, Ev (fun k => fact_Line.j2 k F who attr known E out (i : Int) q false (rd E (i : Int)) (rd E ((i + 1 : Nat) : Int)) a b) r := by
    intro e q
    rw [e] at h
    refine Ev.step (fun k => ?_) h
    simp only [fact_Line.j2]
    rw [if_neg (by decide), if_pos (by omega), hw]
  rcases List.eq_nil_or_concat out with rfl | ⟨l', p, rfl⟩
  · exact Ev.ifn (by decide) (happ rfl _)
  · simp only [List.concat_eq_append] at *
    have hrd : rd_T58 (l' ++ [p]) (((l' ++ [p]).length : Int) - 1) = p := by
      have e : ((l' ++ [p]).length : Int) - 1 = ((l'.length : Nat) : Int) := by simp
      rw [e]
      show (l' ++ [p]).getD l'.length z58 = p
      rw [getD_app, if_neg (by omega), if_pos rfl]
    have hlen : (0 : Int) ≤ ((l' ++ [p]).length : Int) - 1 := by simp
    refine Ev.ifp (by omega) (Ev.ifp hlen (Ev.ifp (by omega) ?_))
    rw [hrd]
    by_cases h1 : p.f1 = rd E (i : Int)
    · refine Ev.ifp h1 ?_
      by_cases h2 : p.f2.f0 = a ∧ p.f2.f1 = b
      · rw [show (p.f2.f0 == a && p.f2.f1 == b) = true from by simp [h2]]
        have e : gro (l' ++ [p]) (rd E (i : Int)) (rd E ((i + 1 : Nat) : Int)) a b = l' ++ [(⟨p.f0, rd E ((i + 1 : Nat) : Int), (⟨p.f2.f0, p.f2.f1⟩ : S56)⟩ : S58)] := by unfold gro; simp [h1, h2.1, h2.2]
        rw [e] at h
        refine Ev.step (fun k => ?_) h
        simp only [fact_Line.j2]
        rw [if_pos trivial, if_pos hlen, if_pos (by omega), hrd, hw]
        congr 1
        have e : (((l' ++ [p]).length : Int) - 1).toNat = l'.length := by simp
        rw [e]; simp
      · rw [show (p.f2.f0 == a && p.f2.f1 == b) = false from by simp only [Bool.and_eq_false_iff, beq_eq_false_iff_ne]; exact (Classical.not_and_iff_not_or_not.1 h2)]
        refine happ ?_ _
        unfold gro
        simp only [List.getLast?_append, List.getLast?_singleton, Option.some_or]
        rw [if_neg (fun hh => h2 hh.2)]
    · refine Ev.ifn h1 (happ ?_ _)
      unfold gro
      simp only [List.getLast?_append, List.getLast?_singleton, Option.some_or]
      rw [if_neg (fun hh => h1 hh.1)]
theorem gro_skip (who : Int) (attr : ByteArray) (known : Int) (F : List S77) (E : List Int) (out : List S58) (i : Nat) (hi : i + 1 < E.length) (hE : E.length ≤ 2000) (hl : out.length ≤ 2000) (b : Int) (r : List S58)
    (hat : Ev (fun k => fact_At.f k F who attr (rd E (i : Int)) known) (0, b)) (h : Ev (fun k => fact_Line.l1 k F who attr known E out ((i + 1 : Nat) : Int)) r) :
    Ev (fun k => fact_Line.l1 k F who attr known E out (i : Int)) r := by
  have hw := w64_succ (i := i) (n := E.length) (by omega) (by omega)
  have hlw : wrap64 ((out.length : Int) - 1) = (out.length : Int) - 1 := w64 (by omega) (by omega)
  refine Ev.step (f := fun k => (fact_At.f k F who attr (rd E (i : Int)) known).bind fun bt171 => (if bt171.1 = 0 then (fact_Line.l1 k F who attr known E out ((i + 1 : Nat) : Int)) else (if (out.length : Int) - 1 ≥ 0 then (if 0 ≤ (out.length : Int) - 1 then (if (out.length : Int) - 1 < (out.length : Int) then (if ((rd_T58 out ((out.length : Int) - 1)).f1) = (rd E (i : Int)) then (fact_Line.j2 k F who attr known E out (i : Int) ((out.length : Int) - 1) (((rd_T58 out ((out.length : Int) - 1)).f2.f0) == bt171.1 && (((rd_T58 out ((out.length : Int) - 1)).f2.f1) == bt171.2)) (rd E (i : Int)) (rd E ((i + 1 : Nat) : Int)) bt171.1 bt171.2) else (fact_Line.j2 k F who attr known E out (i : Int) ((out.length : Int) - 1) false (rd E (i : Int)) (rd E ((i + 1 : Nat) : Int)) bt171.1 bt171.2)) else (none)) else (none)) else (fact_Line.j2 k F who attr known E out (i : Int) ((out.length : Int) - 1) false (rd E (i : Int)) (rd E ((i + 1 : Nat) : Int)) bt171.1 bt171.2)))) (fun k => ?_) ?_
  · simp only [fact_Line.l1, hw, hlw]
    rw [if_pos (by omega), if_pos (by omega), if_pos (by omega), if_pos (by omega)]
  exact Ev.bind hat (Ev.ifp rfl h)
theorem line_l1 (who : Int) (attr : ByteArray) (known : Int) (F : List S77) (hF : ∀ f ∈ F, Good f) (hl : F.length ≤ 500) (n : Nat) : ∀ (i : Nat) (out : List S58), i < (days (endsOf who attr F)).length → (days (endsOf who attr F)).length - 1 - i = n → Valid out → out.length ≤ i → Upto out (rd (days (endsOf who attr F)) (i : Int)) → (∀ d, atv out d = if d < rd (days (endsOf who attr F)) (i : Int) then atF F who attr d known else (0, 0)) →
    ∃ r, Ev (fun k => fact_Line.l1 k F who attr known (days (endsOf who attr F)) out (i : Int)) r ∧ Valid r ∧ r.length ≤ (days (endsOf who attr F)).length ∧ ∀ d, atv r d = atF F who attr d known := by
  obtain ⟨E, hE⟩ : ∃ E, E = days (endsOf who attr F) := ⟨_, rfl⟩
  rw [← hE]
  have hEl : E.length ≤ 1000 := by have := days_len (endsOf who attr F); have := endsOf_len who attr F; rw [hE]; omega
  have hri : E.Pairwise (· < ·) := by rw [hE]; exact days_rise _
  have hin : ∀ f ∈ F, ofw who attr f = true → f.f3 ∈ E ∧ f.f4 ∈ E := by
    intro f hf hm
    have hm2 := endsOf_mem who attr F f hf hm
    have g := hF f hf
    have := g.from0; have := g.from1; have := g.to0; have := g.to1
    rw [clamp_id (by omega) (by omega), clamp_id (by omega) (by omega)] at hm2
    rw [hE, mem_days, mem_days]
    exact hm2
  have hb : ∀ x ∈ E, 0 ≤ x ∧ x ≤ 1048576 := fun x hx => by rw [hE, mem_days] at hx; exact endsOf_bound who attr F x hx
  induction n with
  | zero =>
    intro i out hi hn hv hlen hup hat
    have he : i + 1 = E.length := by omega
    refine ⟨out, Ev.step (f := fun _ => some out) (fun k => ?_) (Ev.now _), hv, by omega, fun d => ?_⟩
    · simp only [fact_Line.l1]
      rw [w64_succ hi (by omega), if_neg (by omega)]
    · rw [hat d]
      by_cases hd : d < rd E (i : Int)
      · rw [if_pos hd]
      · rw [if_neg hd, atF_none]
        intro f hf
        rcases hm : ofw who attr f with _ | _
        · exact hit_ofw hm
        · have h4 := (hin f hf hm).2
          obtain ⟨j, hj, e⟩ := mem_rd h4
          have hji : rd E (j : Int) ≤ rd E (i : Int) := by
            rcases Nat.lt_or_eq_of_le (show j ≤ i by omega) with hlt | rfl
            · exact Int.le_of_lt (rise_rd hri j i hlt hi)
            · exact Int.le_refl _
          unfold hit
          rw [show decide (d ≥ f.f4) = true from decide_eq_true (by omega)]
          simp
  | succ n ih =>
    intro i out hi hn hv hlen hup hat
    have hi1 : i + 1 < E.length := by omega
    have hlt := rise_rd hri i (i + 1) (by omega) hi1
    have hb1 := hb _ (rd_mem i hi); have hb2 := hb _ (rd_mem (i + 1) hi1)
    have hsame : ∀ d, rd E (i : Int) ≤ d → d < rd E ((i + 1 : Nat) : Int) → atF F who attr d known = atF F who attr (rd E (i : Int)) known := by
      intro d h1 h2
      refine atF_congr F who attr _ _ _ _ (fun f hf => ?_)
      rcases hm : ofw who attr f with _ | _
      · rw [hit_ofw hm, hit_ofw hm]
      · obtain ⟨m3, m4⟩ := hin f hf hm
        have g3 := days_gap hri i hi1 _ m3
        have g4 := days_gap hri i hi1 _ m4
        unfold hit
        rw [hm, show decide (d < f.f3) = decide (rd E (i : Int) < f.f3) from by apply decide_eq_decide.2; omega, show decide (d ≥ f.f4) = decide (rd E (i : Int) ≥ f.f4) from by apply decide_eq_decide.2; omega]
    have hA := factAt_of F who attr (rd E (i : Int)) known (by omega)
    rcases hv0 : atF F who attr (rd E (i : Int)) known with ⟨a, b⟩
    rw [hv0] at hA hsame
    have hok := atF_val F hF who attr (rd E (i : Int)) known
    rw [hv0] at hok
    by_cases ha : a = 0
    · have hz : a = 0 ∧ b = 0 := by
        rcases hok with h | h
        · simpa using h
        · have := h.1; simp at this; omega
      obtain ⟨rfl, rfl⟩ := hz
      obtain ⟨r, hr, h⟩ := ih (i + 1) out hi1 (by omega) hv (by omega) (hup.mono (by omega)) (fun d => by
        rw [hat d]
        by_cases h1 : d < rd E (i : Int)
        · rw [if_pos h1, if_pos (by omega)]
        · rw [if_neg h1]
          by_cases h2 : d < rd E ((i + 1 : Nat) : Int)
          · rw [if_pos h2, hsame d (by omega) h2]
          · rw [if_neg h2])
      exact ⟨r, gro_skip who attr known F E out i hi1 (by omega) (by omega) _ r hA hr, h⟩
    · have hab : a = 5 ∧ 0 ≤ b ∧ b < 4 := by
        rcases hok with h | h
        · simp at h; omega
        · exact h
      obtain ⟨g1, g2, g3, g4⟩ := gro_of out (rd E (i : Int)) (rd E ((i + 1 : Nat) : Int)) a b hv ⟨hb1.1, hlt, hb2.2, hab.1, by show -1048576 ≤ b; omega, by show b ≤ 1048576; omega⟩ hup
      obtain ⟨r, hr, h⟩ := ih (i + 1) _ hi1 (by omega) g1 (by omega) (g4 _ (hup.mono (by omega)) (by omega)) (fun d => by
        rw [g3 d, hat d]
        by_cases h1 : d < rd E (i : Int)
        · rw [if_neg (c := _ ∧ _) (by omega), if_pos h1, if_pos (by omega)]
        · by_cases h2 : d < rd E ((i + 1 : Nat) : Int)
          · rw [if_pos (c := _ ∧ _) (by omega), if_pos h2, hsame d (by omega) h2]
          · rw [if_neg (c := _ ∧ _) (by omega), if_neg h1, if_neg h2])
      exact ⟨r, gro_step who attr known F E out i hi1 (by omega) (by omega) (a, b) ha r hA hr, h⟩
theorem name_of {s : ByteArray} (h : s = tA ∨ s = tB) : fact_Name.f s = some true := by
  rcases h with rfl | rfl <;> decide
theorem one_of (a : Int) (s : ByteArray) (v w d e x : Int) (ha : ¬ a < 0) (hs : s = tA ∨ s = tB) (hv : (v = 0 ∧ w = 0) ∨ (v = 5 ∧ 0 ≤ w ∧ w ≤ 1000)) (hd : 0 ≤ d) (hde : d < e) (he : e ≤ 1000) (hx : 0 ≤ x) (hx1 : x ≤ 1000) : Ev (fun k => fact_One.f k a s v w d e x) 0 := by
  have hu : unit_Check.f v w = some 0 := by
    rcases hv with ⟨rfl, rfl⟩ | ⟨rfl, h2, h3⟩
    · decide
    · exact ucheck_of w (by omega) (by omega)
  simp only [fact_One.f]
  rw [name_of hs, hu]
  simp only [Option.bind_some]
  refine Ev.ifn ha (Ev.ifp trivial (Ev.ifp trivial (Ev.ifn (by omega) (Ev.ifn (by omega) ?_))))
  refine Ev.step (f := fun _ => some 0) (fun k => ?_) (Ev.now _)
  simp only [fact_One.j0]
  rw [if_neg (by simp; omega), if_neg (by omega), if_neg (by omega)]
theorem Good.one {f : S77} (h : Good f) : Ev (fun k => fact_One.f k f.f0 f.f1 f.f2.f0 f.f2.f1 f.f3 f.f4 f.f5) 0 := by
  have := h.from0; have := h.from1; have := h.to0; have := h.to1; have := h.known0; have := h.known1
  refine one_of _ _ _ _ _ _ _ (by have := h.who; omega) h.attr ?_ (by omega) (by omega) (by omega) (by omega) (by omega)
  rcases h.val with h1 | ⟨h1, h2, h3⟩
  · exact .inl h1
  · exact .inr ⟨h1, h2, by omega⟩
theorem told_of : Ev (fun k => mootkeep1_told.f k) true := by
  simp only [mootkeep1_told.f]
  refine Ev.bind (one_of 1 tA 5 4 5 6 0 (by omega) (.inl rfl) (.inr ⟨rfl, by omega, by omega⟩) (by omega) (by omega) (by omega) (by omega) (by omega)) (Ev.ifp rfl ?_)
  refine Ev.bind (factAt_of _ 1 tA 5 0 (by simp)) ?_
  exact Ev.to (by simp [atF, hit, ofw, ste, fin, tA])
theorem line_of_facts (who : Int) (attr : ByteArray) (known : Int) (F : List S77) (hF : ∀ f ∈ F, Good f) (hl : F.length ≤ 500) : ∃ r, Ev (fun k => fact_Line.f k F who attr known) r ∧ Valid r ∧ r.length ≤ 2 * F.length ∧ ∀ d, atv r d = atF F who attr d known := by
  have hlen := days_len (endsOf who attr F)
  have hlen2 := endsOf_len who attr F
  obtain ⟨r, hr, hv, hrl, hat⟩ : ∃ r, Ev (fun k => fact_Line.l1 k F who attr known (days (endsOf who attr F)) [] ((0 : Nat) : Int)) r ∧ Valid r ∧ r.length ≤ (days (endsOf who attr F)).length ∧ ∀ d, atv r d = atF F who attr d known := by
    by_cases h0 : (days (endsOf who attr F)).length = 0
    · refine ⟨[], Ev.step (f := fun _ => some []) (fun k => ?_) (Ev.now _), Valid.nil, by simp, fun d => ?_⟩
      · simp only [fact_Line.l1]
        rw [show wrap64 (((0 : Nat) : Int) + 1) = 1 from by rw [show ((0 : Nat) : Int) + 1 = 1 from rfl, w64 (by omega) (by omega)], if_neg (by omega)]
      · have hn : endsOf who attr F = [] := by
          rcases he : endsOf who attr F with _ | ⟨x, xs⟩
          · rfl
          · have hx : x ∈ days (endsOf who attr F) := by rw [mem_days, he]; simp
            rw [List.eq_nil_of_length_eq_zero h0] at hx
            simp at hx
        rw [atF_none F who attr d known (fun f hf => hit_ofw (endsOf_nil who attr F hn f hf))]
        rfl
    · refine line_l1 who attr known F hF hl _ 0 [] (by omega) rfl Valid.nil (by simp) (fun t ht => by simp at ht) (fun d => ?_)
      show ((0 : Int), (0 : Int)) = _
      by_cases hd : d < rd (days (endsOf who attr F)) ((0 : Nat) : Int)
      · rw [if_pos hd, atF_none]
        intro f hf
        rcases hm : ofw who attr f with _ | _
        · exact hit_ofw hm
        · have g := hF f hf
          have := g.from0; have := g.from1
          have h3 := (endsOf_mem who attr F f hf hm).1
          rw [clamp_id (by omega) (by omega), ← mem_days] at h3
          obtain ⟨j, hj, e⟩ := mem_rd h3
          have hji : rd (days (endsOf who attr F)) ((0 : Nat) : Int) ≤ rd (days (endsOf who attr F)) (j : Int) := by
            rcases Nat.eq_zero_or_pos j with rfl | hp
            · exact Int.le_refl _
            · exact Int.le_of_lt (rise_rd (days_rise _) 0 j hp hj)
          unfold hit
          rw [show decide (d < f.f3) = true from decide_eq_true (by omega)]
          simp
      · rw [if_neg hd]
  refine ⟨r, ?_, hv, by omega, hat⟩
  simp only [fact_Line.f]
  exact ends_l0 who attr known F (by omega) r _ 0 [] (by omega) rfl (by simp) hr
/-! #### sets of days -/
def spM : Int := 1048576
def spHas (l : List S90) (d : Int) : Prop := ∃ s ∈ l, s.f0 ≤ d ∧ d < s.f1
/-- normal form: within [lo, M], in order, with a day between two -/
def NF (M : Int) : Int → List S90 → Prop
  | _, [] => True
  | lo, s :: t => lo ≤ s.f0 ∧ s.f0 < s.f1 ∧ s.f1 ≤ M ∧ NF M (s.f1 + 1) t
theorem spHas_nil (d : Int) : ¬ spHas [] d := by rintro ⟨s, h, _⟩; simp at h
theorem spHas_cons (s : S90) (t : List S90) (d : Int) : spHas (s :: t) d ↔ (s.f0 ≤ d ∧ d < s.f1) ∨ spHas t d := by
  unfold spHas
  constructor
  · rintro ⟨x, h, h1, h2⟩
    rcases List.mem_cons.1 h with rfl | h
    · exact .inl ⟨h1, h2⟩
    · exact .inr ⟨x, h, h1, h2⟩
  · rintro (⟨h1, h2⟩ | ⟨x, h, h1, h2⟩)
    · exact ⟨s, List.mem_cons_self .., h1, h2⟩
    · exact ⟨x, List.mem_cons_of_mem _ h, h1, h2⟩
theorem spHas_append (a b : List S90) (d : Int) : spHas (a ++ b) d ↔ spHas a d ∨ spHas b d := by
  induction a with
  | nil => simp [spHas_nil]
  | cons s t ih => rw [List.cons_append, spHas_cons, spHas_cons, ih, or_assoc]
theorem NF.low {M : Int} : ∀ {l : List S90} {lo d : Int}, NF M lo l → spHas l d → lo ≤ d ∧ d < M
  | [], _, _, _, h => absurd h (spHas_nil _)
  | s :: t, lo, d, ⟨h1, h2, h3, h4⟩, h => by
    rcases (spHas_cons s t d).1 h with h | h
    · omega
    · have := NF.low h4 h; omega
theorem NF.weaken {M lo lo' : Int} {l : List S90} (h : NF M lo l) (hl : lo' ≤ lo) : NF M lo' l := by
  cases l with
  | nil => trivial
  | cons s t => exact ⟨by have := h.1; omega, h.2⟩
theorem NF.tighten {M M' : Int} : ∀ {l : List S90} {lo : Int}, NF M lo l → (∀ d, spHas l d → d < M') → NF M' lo l
  | [], _, _, _ => trivial
  | s :: t, lo, ⟨h1, h2, h3, h4⟩, h => ⟨h1, h2, by have := h (s.f1 - 1) ((spHas_cons ..).2 (.inl (by omega))); omega, NF.tighten h4 (fun d hd => h d ((spHas_cons ..).2 (.inr hd)))⟩
theorem NF.unique {M : Int} : ∀ {a b : List S90} {lo : Int}, NF M lo a → NF M lo b → (∀ d, spHas a d ↔ spHas b d) → a = b
  | [], [], _, _, _, _ => rfl
  | [], u :: v, _, _, hb, h => absurd ((h u.f0).2 ((spHas_cons ..).2 (.inl (by have := hb.2.1; omega)))) (spHas_nil _)
  | s :: t, [], _, ha, _, h => absurd ((h s.f0).1 ((spHas_cons ..).2 (.inl (by have := ha.2.1; omega)))) (spHas_nil _)
  | s :: t, u :: v, lo, ha, hb, h => by
    obtain ⟨a1, a2, a3, a4⟩ := ha
    obtain ⟨b1, b2, b3, b4⟩ := hb
    have lowA : ∀ d, spHas t d → s.f1 + 1 ≤ d := fun d hd => (NF.low a4 hd).1
    have lowB : ∀ d, spHas v d → u.f1 + 1 ≤ d := fun d hd => (NF.low b4 hd).1
    have toB : ∀ d, spHas (s :: t) d → (u.f0 ≤ d ∧ d < u.f1) ∨ u.f1 + 1 ≤ d := fun d hd => ((spHas_cons u v d).1 ((h d).1 hd)).imp id (lowB d)
    have toA : ∀ d, spHas (u :: v) d → (s.f0 ≤ d ∧ d < s.f1) ∨ s.f1 + 1 ≤ d := fun d hd => ((spHas_cons s t d).1 ((h d).2 hd)).imp id (lowA d)
    have inA : ∀ d, s.f0 ≤ d → d < s.f1 → spHas (s :: t) d := fun d p q => (spHas_cons ..).2 (.inl ⟨p, q⟩)
    have inB : ∀ d, u.f0 ≤ d → d < u.f1 → spHas (u :: v) d := fun d p q => (spHas_cons ..).2 (.inl ⟨p, q⟩)
    have e0 : s.f0 = u.f0 := by
      have x := toB s.f0 (inA _ (by omega) (by omega))
      have y := toA u.f0 (inB _ (by omega) (by omega))
      omega
    have e1 : s.f1 = u.f1 := by
      rcases Int.lt_trichotomy s.f1 u.f1 with g | g | g
      · have y := toA s.f1 (inB _ (by omega) (by omega)); omega
      · exact g
      · have y := toB u.f1 (inA _ (by omega) (by omega)); omega
    have e : s = u := by cases s; cases u; simp_all
    subst e
    congr 1
    refine NF.unique (lo := s.f1 + 1) a4 b4 fun d => ⟨fun hd => ?_, fun hd => ?_⟩
    · have l1 := lowA d hd
      rcases (spHas_cons s v d).1 ((h d).1 ((spHas_cons ..).2 (.inr hd))) with g | g
      · omega
      · exact g
    · have l1 := lowB d hd
      rcases (spHas_cons s t d).1 ((h d).2 ((spHas_cons ..).2 (.inr hd))) with g | g
      · omega
      · exact g
/-- the days of a raw list: each spell within all dates -/
def spFit (s : S90) : S90 := ⟨spell_fit.lm s.f0, spell_fit.lm s.f1⟩
theorem lm_range (n : Int) : 0 ≤ spell_fit.lm n ∧ spell_fit.lm n ≤ 1048576 := by unfold spell_fit.lm mx mn; repeat' split <;> omega
theorem lm_id {n : Int} (h0 : 0 ≤ n) (h1 : n ≤ 1048576) : spell_fit.lm n = n := by unfold spell_fit.lm mx mn; repeat' split <;> omega
theorem lm_lt {n d : Int} (h0 : 0 ≤ d) : d < spell_fit.lm n ↔ d < n ∧ d < 1048576 := by unfold spell_fit.lm mx mn; repeat' split <;> omega
theorem lm_le {n d : Int} (h1 : d < 1048576) : spell_fit.lm n ≤ d ↔ n ≤ d ∧ 0 ≤ d := by unfold spell_fit.lm mx mn; repeat' split <;> omega
def spGood (s : S90) : Bool := decide (s.f0 < s.f1)
def spAll (l : List S90) : List S90 := (l.map spFit).filter spGood
/-- the days that a list has within all dates -/
theorem spAll_has (l : List S90) (d : Int) : spHas (spAll l) d ↔ spHas l d ∧ 0 ≤ d ∧ d < 1048576 := by
  unfold spHas spAll
  constructor
  · rintro ⟨s, h, h1, h2⟩
    obtain ⟨h3, _⟩ := List.mem_filter.1 h
    obtain ⟨x, hx, rfl⟩ := List.mem_map.1 h3
    simp only [spFit] at h1 h2
    have r0 := lm_range x.f0
    have r1 := lm_range x.f1
    have := (lm_lt (n := x.f1) (d := d) (by omega)).1 h2
    have := (lm_le (n := x.f0) (d := d) (by omega)).1 h1
    exact ⟨⟨x, hx, by omega, by omega⟩, by omega, by omega⟩
  · rintro ⟨⟨x, hx, h1, h2⟩, h3, h4⟩
    have a := (lm_lt (n := x.f1) (d := d) h3).2 ⟨h2, h4⟩
    have b := (lm_le (n := x.f0) (d := d) h4).2 ⟨h1, h3⟩
    exact ⟨spFit x, List.mem_filter.2 ⟨List.mem_map.2 ⟨x, hx, rfl⟩, by simp only [spGood, spFit]; exact decide_eq_true (by omega)⟩, b, a⟩
theorem spAll_range {l : List S90} {s : S90} (h : s ∈ spAll l) : 0 ≤ s.f0 ∧ s.f0 < s.f1 ∧ s.f1 ≤ 1048576 := by
  obtain ⟨h3, h4⟩ := List.mem_filter.1 h
  obtain ⟨x, hx, rfl⟩ := List.mem_map.1 h3
  have r0 := lm_range x.f0
  have r1 := lm_range x.f1
  have := of_decide_eq_true h4
  simp only [spFit] at *
  omega
theorem spAll_length (l : List S90) : (spAll l).length ≤ l.length := by
  unfold spAll
  exact Nat.le_trans (List.length_filter_le _ _) (by simp)
/-- the sort -/
theorem spSort_of (l : List S90) (hl : l.length ≤ 1000000) (hr : ∀ s ∈ l, 0 ≤ s.f0 ∧ s.f0 ≤ 1048576) : ∃ r, spell_Sort.f l = some r ∧ r.length = l.length ∧ (∀ s, s ∈ r ↔ s ∈ l) ∧ r.Pairwise (fun a b => a.f0 ≤ b.f0) := by
  have hlm : ∀ s ∈ l, spell_Sort.lm s.f0 = s.f0 := fun s hs => lm_id (hr s hs).1 (hr s hs).2
  unfold spell_Sort.f
  by_cases h0 : l.length = 0
  · rw [if_pos h0]
    have : l = [] := List.length_eq_zero_iff.1 h0
    subst this
    exact ⟨[], rfl, rfl, fun _ => Iff.rfl, List.Pairwise.nil⟩
  · rw [if_neg h0, if_pos ⟨hl, List.all_eq_true.2 fun s hs => decide_eq_true (hlm s hs)⟩]
    have swo : Sort.SWO (ltOf spell_Sort.cf) := ⟨fun x => by unfold ltOf spell_Sort.cf; simp, fun x y z h1 h2 => by unfold ltOf spell_Sort.cf at *; simp at *; omega, fun x y z h1 h2 => by unfold ltOf spell_Sort.cf at *; simp at *; omega⟩
    have hp := Sort.pdq_sorts (ltOf spell_Sort.cf) swo l.toArray 0 l.toArray.size (Lib.bitLen l.toArray.size) true true (Nat.zero_le _) (Nat.le_refl _) (Or.inl rfl)
    refine ⟨_, rfl, ?_⟩
    unfold spell_Sort.srt
    rw [show l.length = l.toArray.size from rfl]
    obtain ⟨d, hd⟩ : ∃ d, d = Sort.pdq (ltOf spell_Sort.cf) l.toArray 0 l.toArray.size (Lib.bitLen l.toArray.size) true true := ⟨_, rfl⟩
    rw [← hd] at hp ⊢
    obtain ⟨⟨hsz, _, hperm⟩, hs⟩ := hp
    have e1 : (d.extract 0 l.toArray.size) = d := by rw [← hsz]; simp
    have e2 : (l.toArray.extract 0 l.toArray.size) = l.toArray := by simp
    rw [e1, e2] at hperm
    have hpl : d.toList.Perm l := hperm
    have hm : d.toList.map spell_Sort.nz = d.toList := by
      rw [List.map_congr_left (g := id) (fun s hs => ?_), List.map_id]
      show spell_Sort.nz s = s
      unfold spell_Sort.nz
      rw [hlm s (hpl.mem_iff.1 hs)]
    rw [hm]
    refine ⟨hpl.length_eq, fun s => hpl.mem_iff, ?_⟩
    rw [List.pairwise_iff_getElem]
    intro i j hi hj hij
    have hj' : j < d.size := by simpa using hj
    have q := hs i j (Nat.zero_le _) hij (by rw [← hsz]; exact hj')
    unfold ltOf spell_Sort.cf at q
    rw [getElem!_pos d j hj', getElem!_pos d i (by omega)] at q
    have q := of_decide_eq_false q
    have m1 := hlm d[i] (hpl.mem_iff.1 (Array.getElem_mem_toList ..))
    have m2 := hlm d[j] (hpl.mem_iff.1 (Array.getElem_mem_toList ..))
    rw [m1, m2] at q
    simp only [Array.getElem_toList]
    omega
/-- spells in order are merged where they meet -/
def spMerge (c : S90) : List S90 → List S90
  | [] => [c]
  | s :: t => if s.f0 ≤ c.f1 then spMerge ⟨c.f0, mx c.f1 s.f1⟩ t else c :: spMerge s t
theorem spMerge_nf : ∀ (t : List S90) (c : S90) (lo : Int), lo ≤ c.f0 → c.f0 < c.f1 → c.f1 ≤ 1048576 → (∀ s ∈ t, c.f0 ≤ s.f0 ∧ s.f0 < s.f1 ∧ s.f1 ≤ 1048576) → t.Pairwise (fun a b => a.f0 ≤ b.f0) → NF 1048576 lo (spMerge c t) ∧ (∀ d, spHas (spMerge c t) d ↔ spHas (c :: t) d) ∧ (spMerge c t).length ≤ t.length + 1
  | [], c, lo, h1, h2, h3, _, _ => ⟨⟨h1, h2, h3, trivial⟩, fun _ => Iff.rfl, by simp [spMerge]⟩
  | s :: t, c, lo, h1, h2, h3, h4, h5 => by
    obtain ⟨p1, p2⟩ := List.pairwise_cons.1 h5
    have hs := h4 s (List.mem_cons_self ..)
    have hm : mx c.f1 s.f1 = c.f1 ∨ mx c.f1 s.f1 = s.f1 := by unfold mx; split <;> simp
    have hm1 : c.f1 ≤ mx c.f1 s.f1 ∧ s.f1 ≤ mx c.f1 s.f1 := by unfold mx; split <;> omega
    rw [spMerge]
    by_cases hc : s.f0 ≤ c.f1
    · rw [if_pos hc]
      obtain ⟨a, b, e⟩ := spMerge_nf t ⟨c.f0, mx c.f1 s.f1⟩ lo h1 (by show c.f0 < mx c.f1 s.f1; omega) (by show mx c.f1 s.f1 ≤ _; omega) (fun x hx => h4 x (List.mem_cons_of_mem _ hx)) p2
      refine ⟨a, fun d => ?_, by simp; omega⟩
      rw [b, spHas_cons, spHas_cons, spHas_cons]
      show (c.f0 ≤ d ∧ d < mx c.f1 s.f1) ∨ _ ↔ _
      rw [← or_assoc]
      refine or_congr ?_ Iff.rfl
      omega
    · rw [if_neg hc]
      obtain ⟨a, b, e⟩ := spMerge_nf t s (c.f1 + 1) (by omega) hs.2.1 hs.2.2 (fun x hx => ⟨p1 x hx, (h4 x (List.mem_cons_of_mem _ hx)).2⟩) p2
      exact ⟨⟨h1, h2, h3, a⟩, fun d => by rw [spHas_cons, b, ← spHas_cons], by simp; omega⟩
theorem rdS (l : List S90) (i : Nat) (h : i < l.length) : rd_T90 l (i : Int) = l[i] := by
  unfold rd_T90
  simp [List.getD, h]
theorem rdS_last (p : List S90) (c : S90) : rd_T90 (p ++ [c]) (p.length : Int) = c := by
  rw [rdS _ _ (by simp)]; simp
/-- the second loop -/
theorem spL1 (x : List S90) (hx : x.length ≤ 1000000) : ∀ (n i : Nat) (p : List S90) (c : S90), i + n = x.length → p.length + 1 ≤ i → Ev (fun k => spell_Norm.l1 k (p ++ [c]) x (x.length : Int) (i : Int)) (p ++ spMerge c (x.drop i))
  | 0, i, p, c, h, hp => by
    refine Ev.step (fun k => by rw [spell_Norm.l1]) ?_
    refine Ev.ifn (by omega) (Ev.to ?_)
    rw [List.drop_eq_nil_of_le (by omega)]; rfl
  | n + 1, i, p, c, h, hp => by
    refine Ev.step (fun k => by rw [spell_Norm.l1]) ?_
    have hi : i < x.length := by omega
    have hl : wrap64 (((p ++ [c]).length : Int) - 1) = (p.length : Int) := by
      rw [List.length_append, List.length_singleton]; rw [w64 (by omega) (by omega)]; omega
    have hp1 : (p ++ [c]).length = p.length + 1 := by simp
    rw [hl, rdS_last, rdS _ _ hi, w64_succ hi (by omega)]
    refine Ev.ifp (by omega) (Ev.ifp (by omega) (Ev.ifp (by omega) (Ev.ifp (by omega) (Ev.ifp (by omega) (Ev.ifp (by omega) ?_)))))
    rw [List.drop_eq_getElem_cons hi, spMerge]
    by_cases hc : (x[i]).f0 ≤ c.f1
    · refine Ev.ifp hc ?_
      rw [if_pos hc]
      have hset : ∀ v : S90, (p ++ [c]).set ((p.length : Int)).toNat v = p ++ [v] := by
        intro v; simp
      rw [hset]
      exact spL1 x hx n (i + 1) p _ (by omega) (by omega)
    · refine Ev.ifn hc (Ev.ifp (by omega) ?_)
      rw [if_neg hc]
      have := spL1 x hx n (i + 1) (p ++ [c]) (x[i]) (by omega) (by omega)
      rw [List.append_assoc p [c] (spMerge x[i] _)] at this
      exact this
theorem spL1_of (x : List S90) (hx : x.length ≤ 1000000) (h4 : ∀ s ∈ x, 0 ≤ s.f0 ∧ s.f0 < s.f1 ∧ s.f1 ≤ 1048576) (h5 : x.Pairwise (fun a b => a.f0 ≤ b.f0)) : ∃ r, Ev (fun k => spell_Norm.l1 k [] x (x.length : Int) 0) r ∧ NF 1048576 0 r ∧ (∀ d, spHas r d ↔ spHas x d) ∧ r.length ≤ x.length := by
  cases hx0 : x with
  | nil => exact ⟨[], Ev.step (fun k => by rw [spell_Norm.l1]) (Ev.ifn (by simp) (Ev.to rfl)), trivial, fun _ => Iff.rfl, by simp⟩
  | cons s t =>
    rw [← hx0]
    have hs := h4 s (by rw [hx0]; exact List.mem_cons_self ..)
    have hlen : x.length = t.length + 1 := by rw [hx0]; simp
    obtain ⟨p1, p2⟩ := List.pairwise_cons.1 (hx0 ▸ h5)
    obtain ⟨a, b, e⟩ := spMerge_nf t s 0 hs.1 hs.2.1 hs.2.2 (fun u hu => ⟨p1 u hu, (h4 u (by rw [hx0]; exact List.mem_cons_of_mem _ hu)).2⟩) p2
    refine ⟨spMerge s t, ?_, a, fun d => by rw [b, hx0], by omega⟩
    refine Ev.step (fun k => by rw [spell_Norm.l1]) ?_
    have h0 : rd_T90 x 0 = s := by have := rdS x 0 (by omega); rw [show ((0 : Nat) : Int) = 0 from rfl] at this; rw [this]; simp [hx0]
    rw [h0, show wrap64 ((([] : List S90).length : Int) - 1) = -1 from by simp [wrap64], show wrap64 (0 + 1) = ((1 : Nat) : Int) from by simp [wrap64]]
    refine Ev.ifp (by omega) (Ev.ifp (by omega) (Ev.ifp (by omega) (Ev.ifn (by omega) (Ev.ifp (by simp) ?_))))
    have := spL1 x hx t.length 1 [] s (by omega) (by simp)
    rw [hx0, List.drop_one, List.tail_cons, ← hx0] at this
    exact this
/-- the first loop -/
theorem spL0 (x : List S90) (hx : x.length ≤ 1000000) : ∀ (n i : Nat) (p : List S90) (r : List S90), i + n = x.length → p.length ≤ i → (Ev (fun k => (spell_Sort.f (p ++ spAll (x.drop i))).bind fun t => spell_Norm.l1 k [] t ((p ++ spAll (x.drop i)).length : Int) 0) r) → Ev (fun k => spell_Norm.l0 k p x (x.length : Int) (i : Int)) r
  | 0, i, p, r, h, hp, hr => by
    refine Ev.step (fun k => by rw [spell_Norm.l0]) ?_
    refine Ev.ifn (by omega) ?_
    rw [List.drop_eq_nil_of_le (by omega), show spAll [] = [] from rfl, List.append_nil] at hr
    exact hr
  | n + 1, i, p, r, h, hp, hr => by
    refine Ev.step (fun k => by rw [spell_Norm.l0]) ?_
    have hi : i < x.length := by omega
    rw [rdS _ _ hi, w64_succ hi (by omega)]
    refine Ev.ifp (by omega) (Ev.ifp (by omega) (Ev.ifp (by omega) ?_))
    simp only [spell_fit.f, Option.bind_some]
    have hd : spAll (x.drop i) = (if spGood (spFit x[i]) = true then spFit x[i] :: spAll (x.drop (i + 1)) else spAll (x.drop (i + 1))) := by
      rw [List.drop_eq_getElem_cons hi]
      unfold spAll
      rw [List.map_cons, List.filter_cons]
    by_cases hg : spell_fit.lm (x[i]).f0 < spell_fit.lm (x[i]).f1
    · refine Ev.ifp hg (Ev.ifp (by omega) ?_)
      rw [hd, if_pos (by unfold spGood spFit; exact decide_eq_true hg)] at hr
      refine spL0 x hx n (i + 1) _ r (by omega) (by simp; omega) ?_
      rw [List.append_assoc]
      exact hr
    · refine Ev.ifn hg ?_
      rw [hd, if_neg (by unfold spGood spFit; simpa using hg)] at hr
      exact spL0 x hx n (i + 1) p r (by omega) (by omega) hr
theorem norm_of (l : List S90) (hl : l.length ≤ 1000000) : ∃ r, Ev (fun k => spell_Norm.f k l) r ∧ NF 1048576 0 r ∧ (∀ d, spHas r d ↔ spHas l d ∧ 0 ≤ d ∧ d < 1048576) ∧ r.length ≤ l.length := by
  have hlen := spAll_length l
  obtain ⟨q, hq, hq2, hq3, hq4⟩ := spSort_of (spAll l) (by omega) (fun s hs => by have := spAll_range hs; omega)
  obtain ⟨r, h1, h2, h3, h4⟩ := spL1_of q (by omega) (fun s hs => spAll_range ((hq3 s).1 hs)) hq4
  refine ⟨r, ?_, h2, fun d => ?_, by omega⟩
  · unfold spell_Norm.f
    have := spL0 l hl l.length 0 [] r (by omega) (by simp) (by
      simp only [List.drop_zero, List.nil_append, hq, Option.bind_some]
      rw [← hq2]; exact h1)
    exact this
  · rw [h3, ← spAll_has]
    unfold spHas
    exact ⟨fun ⟨s, a, b⟩ => ⟨s, (hq3 s).1 a, b⟩, fun ⟨s, a, b⟩ => ⟨s, (hq3 s).2 a, b⟩⟩
/-! #### sets from sets -/
def spIn (l : List S90) (d : Int) : Prop := spHas l d ∧ 0 ≤ d ∧ d < 1048576
theorem NF.spIn {l : List S90} (h : NF 1048576 0 l) (d : Int) : spHas l d ↔ spIn l d := ⟨fun hd => ⟨hd, by have := NF.low h hd; omega, by have := NF.low h hd; omega⟩, fun hd => hd.1⟩
theorem NF.eq_of {a b : List S90} (ha : NF 1048576 0 a) (hb : NF 1048576 0 b) (h : ∀ d, _root_.Go.Proofs.Ytkcmjdbeiclbkaa.Pure.spIn a d ↔ _root_.Go.Proofs.Ytkcmjdbeiclbkaa.Pure.spIn b d) : a = b := NF.unique ha hb fun d => by rw [ha.spIn, hb.spIn, h]
theorem normIn (l : List S90) (hl : l.length ≤ 1000000) : ∃ r, Ev (fun k => spell_Norm.f k l) r ∧ NF 1048576 0 r ∧ (∀ d, spIn r d ↔ spIn l d) ∧ r.length ≤ l.length := by
  obtain ⟨r, h1, h2, h3, h4⟩ := norm_of l hl
  exact ⟨r, h1, h2, fun d => by rw [← h2.spIn, h3]; rfl, h4⟩
/-- the days between -/
def spGaps (f : Int) : List S90 → List S90
  | [] => [⟨f, 1048576⟩]
  | s :: t => ⟨f, s.f0⟩ :: spGaps s.f1 t
theorem spGaps_len : ∀ (l : List S90) (f : Int), (spGaps f l).length = l.length + 1
  | [], _ => rfl
  | s :: t, f => by rw [spGaps, List.length_cons, spGaps_len t]; rfl
theorem spGaps_has : ∀ {l : List S90} {f lo : Int}, NF 1048576 lo l → f ≤ lo → ∀ d, spHas (spGaps f l) d ↔ f ≤ d ∧ d < 1048576 ∧ ¬ spHas l d
  | [], f, lo, _, _, d => by
    rw [spGaps, spHas_cons]
    have := spHas_nil d
    simp only [this, or_false, not_false_iff, and_true]
  | s :: t, f, lo, ⟨h1, h2, h3, h4⟩, h, d => by
    rw [spGaps, spHas_cons, spHas_cons, spGaps_has (f := s.f1) h4 (by omega)]
    have hl : spHas t d → s.f1 + 1 ≤ d ∧ d < 1048576 := fun hd => NF.low h4 hd
    by_cases ht : spHas t d
    · have := hl ht
      simp only [ht, not_true_eq_false, and_false, or_false, or_true, iff_false]
      omega
    · simp only [ht, not_false_iff, and_true, or_false]
      omega
theorem spNot_loop (x : List S90) (hx : x.length ≤ 100000) : ∀ (n i : Nat) (p : List S90) (f : Int) (r : List S90), i + n = x.length → p.length ≤ i → Ev (fun k => spell_Norm.f k (p ++ spGaps f (x.drop i))) r → Ev (fun k => spell_not.l0 k p f x (x.length : Int) (i : Int)) r
  | 0, i, p, f, r, h, hp, hr => by
    refine Ev.step (fun k => by rw [spell_not.l0]) (Ev.ifn (by omega) (Ev.ifp (by omega) ?_))
    rw [List.drop_eq_nil_of_le (by omega)] at hr
    exact Ev.bind hr (Ev.to rfl)
  | n + 1, i, p, f, r, h, hp, hr => by
    have hi : i < x.length := by omega
    refine Ev.step (fun k => by rw [spell_not.l0]) ?_
    rw [rdS _ _ hi, w64_succ hi (by omega)]
    refine Ev.ifp (by omega) (Ev.ifp (by omega) (Ev.ifp (by omega) (Ev.ifp (by omega) ?_)))
    refine spNot_loop x hx n (i + 1) _ _ r (by omega) (by simp; omega) ?_
    rw [List.drop_eq_getElem_cons hi, spGaps] at hr
    rw [List.append_assoc]
    exact hr
theorem not_of (a : List S90) (ha : a.length ≤ 100000) : ∃ r, Ev (fun k => spell_not.f k a) r ∧ NF 1048576 0 r ∧ (∀ d, spIn r d ↔ (0 ≤ d ∧ d < 1048576) ∧ ¬ spIn a d) ∧ r.length ≤ a.length + 1 := by
  obtain ⟨q, q1, q2, q3, q4⟩ := normIn a (by omega)
  have hlen := spGaps_len q 0
  obtain ⟨r, h1, h2, h3, h4⟩ := normIn (spGaps 0 q) (by omega)
  refine ⟨r, ?_, h2, fun d => ?_, by omega⟩
  · unfold spell_not.f
    refine Ev.bind q1 ?_
    exact spNot_loop q (by omega) q.length 0 [] 0 r (by omega) (by simp) (by simpa using h1)
  · rw [h3, ← q3, ← q2.spIn]
    unfold spIn
    rw [spGaps_has q2 (Int.le_refl 0)]
    constructor
    · rintro ⟨⟨p1, p2, p3⟩, _⟩; exact ⟨⟨p1, p2⟩, p3⟩
    · rintro ⟨⟨p1, p2⟩, p3⟩; exact ⟨⟨p1, p2, p3⟩, p1, p2⟩
/-- the days of both -/
def spPair (s t : S90) : S90 := ⟨mx s.f0 t.f0, mn s.f1 t.f1⟩
theorem spPair_has (s t : S90) (d : Int) : ((spPair s t).f0 ≤ d ∧ d < (spPair s t).f1) ↔ (s.f0 ≤ d ∧ d < s.f1) ∧ (t.f0 ≤ d ∧ d < t.f1) := by
  unfold spPair mx mn
  simp only
  split <;> split <;> omega
def spProd (b : List S90) : List S90 → List S90
  | [] => []
  | s :: t => b.map (spPair s) ++ spProd b t
theorem spMap_has (s : S90) (d : Int) : ∀ b : List S90, spHas (b.map (spPair s)) d ↔ (s.f0 ≤ d ∧ d < s.f1) ∧ spHas b d
  | [] => by have := spHas_nil d; simp only [List.map_nil, this, and_false]
  | t :: b => by
    rw [List.map_cons, spHas_cons, spHas_cons, spPair_has, spMap_has s d b, ← and_or_left]
theorem spProd_has (b : List S90) (d : Int) : ∀ a : List S90, spHas (spProd b a) d ↔ spHas a d ∧ spHas b d
  | [] => by have := spHas_nil d; simp only [spProd, this, false_and]
  | s :: t => by rw [spProd, spHas_append, spMap_has, spProd_has b d t, spHas_cons, ← or_and_right]
theorem spProd_len (b : List S90) : ∀ a : List S90, (spProd b a).length = a.length * b.length
  | [] => by simp [spProd]
  | s :: t => by rw [spProd, List.length_append, List.length_map, spProd_len b t, List.length_cons, Nat.succ_mul]; omega
theorem spMeet_in (y x : List S90) (hy : y.length ≤ 1000) (i : Nat) (s : S90) : ∀ (n j : Nat) (p r : List S90), j + n = y.length → p.length + n ≤ 1000000 → Ev (fun k => spell_Meet.l0 k y (p ++ (y.drop j).map (spPair s)) x (x.length : Int) (wrap64 ((i : Int) + 1))) r → Ev (fun k => spell_Meet.l1 k y p x (x.length : Int) (i : Int) y (y.length : Int) (j : Int) s.f0 s.f1) r
  | 0, j, p, r, h, hp, hr => by
    refine Ev.step (fun k => by rw [spell_Meet.l1]) (Ev.ifn (by omega) ?_)
    rw [List.drop_eq_nil_of_le (by omega), List.map_nil, List.append_nil] at hr
    exact hr
  | n + 1, j, p, r, h, hp, hr => by
    have hj : j < y.length := by omega
    refine Ev.step (fun k => by rw [spell_Meet.l1]) ?_
    rw [rdS _ _ hj, w64_succ hj (by omega)]
    refine Ev.ifp (by omega) (Ev.ifp (by omega) (Ev.ifp (by omega) (Ev.ifp (by omega) ?_)))
    refine spMeet_in y x hy i s n (j + 1) _ r (by omega) (by simp; omega) ?_
    rw [List.drop_eq_getElem_cons hj, List.map_cons] at hr
    rw [List.append_assoc]
    exact hr
theorem spMeet_out (y x : List S90) (hy : y.length ≤ 1000) (hx : x.length ≤ 1000) : ∀ (n i : Nat) (p r : List S90), i + n = x.length → p.length + n * y.length ≤ 1000000 → Ev (fun k => spell_Norm.f k (p ++ spProd y (x.drop i))) r → Ev (fun k => spell_Meet.l0 k y p x (x.length : Int) (i : Int)) r
  | 0, i, p, r, h, hp, hr => by
    refine Ev.step (fun k => by rw [spell_Meet.l0]) (Ev.ifn (by omega) ?_)
    rw [List.drop_eq_nil_of_le (by omega), spProd, List.append_nil] at hr
    exact Ev.bind hr (Ev.to rfl)
  | n + 1, i, p, r, h, hp, hr => by
    have hi : i < x.length := by omega
    have hmul : (n + 1) * y.length = n * y.length + y.length := Nat.succ_mul ..
    refine Ev.step (fun k => by rw [spell_Meet.l0]) ?_
    rw [rdS _ _ hi]
    refine Ev.ifp (by omega) (Ev.ifp (by omega) (Ev.ifp (by omega) ?_))
    refine spMeet_in y x hy i x[i] y.length 0 p r (by omega) (by omega) ?_
    rw [w64_succ hi (by omega), List.drop_zero]
    refine spMeet_out y x hy hx n (i + 1) _ r (by omega) (by simp; omega) ?_
    rw [List.drop_eq_getElem_cons hi, spProd] at hr
    rw [List.append_assoc]
    exact hr
theorem meet_of (a b : List S90) (ha : a.length ≤ 1000) (hb : b.length ≤ 1000) : ∃ r, Ev (fun k => spell_Meet.f k a b) r ∧ NF 1048576 0 r ∧ (∀ d, spIn r d ↔ spIn a d ∧ spIn b d) ∧ r.length ≤ a.length * b.length := by
  obtain ⟨x, x1, x2, x3, x4⟩ := normIn a (by omega)
  obtain ⟨y, y1, y2, y3, y4⟩ := normIn b (by omega)
  have hm : x.length * y.length ≤ a.length * b.length := Nat.mul_le_mul x4 y4
  have hm2 : a.length * b.length ≤ 1000 * 1000 := Nat.mul_le_mul ha hb
  obtain ⟨r, h1, h2, h3, h4⟩ := normIn (spProd y x) (by rw [spProd_len]; omega)
  refine ⟨r, ?_, h2, fun d => ?_, by rw [spProd_len] at h4; omega⟩
  · unfold spell_Meet.f
    refine Ev.bind y1 (Ev.bind x1 ?_)
    exact spMeet_out y x (by omega) (by omega) x.length 0 [] r (by omega) (by simp; omega) (by simpa using h1)
  · rw [h3, ← x3, ← y3]
    unfold spIn
    rw [spProd_has]
    constructor
    · rintro ⟨⟨p1, p2⟩, p3⟩; exact ⟨⟨p1, p3⟩, p2, p3⟩
    · rintro ⟨⟨p1, p3⟩, p2, _⟩; exact ⟨⟨p1, p2⟩, p3⟩
theorem less_of (a b : List S90) (ha : a.length ≤ 1000) (hb : b.length ≤ 999) : ∃ r, Ev (fun k => spell_Less.f k a b) r ∧ NF 1048576 0 r ∧ (∀ d, spIn r d ↔ spIn a d ∧ ¬ spIn b d) ∧ r.length ≤ a.length * (b.length + 1) := by
  obtain ⟨y, y1, y2, y3, y4⟩ := not_of b (by omega)
  obtain ⟨r, h1, h2, h3, h4⟩ := meet_of a y ha (by omega)
  refine ⟨r, ?_, h2, fun d => ?_, Nat.le_trans h4 (Nat.mul_le_mul_left _ y4)⟩
  · unfold spell_Less.f
    exact Ev.bind y1 (Ev.bind h1 (Ev.to rfl))
  · rw [h3, y3]
    unfold spIn
    constructor
    · rintro ⟨p1, _, p2⟩; exact ⟨p1, p2⟩
    · rintro ⟨p1, p2⟩; exact ⟨p1, p1.2, p2⟩
theorem atF_skip (F : List S77) (f : S77) (who : Int) (attr : ByteArray) (d known : Int) (h : hit who attr d known f = false) : atF (F ++ [f]) who attr d known = atF F who attr d known := by
  unfold atF
  rw [List.foldl_append, List.foldl_cons, List.foldl_nil]
  congr 1
  unfold ste
  rw [if_neg (by rw [h]; decide)]
theorem best_lt (who : Int) (attr : ByteArray) (d known : Int) : ∀ (F : List S77) (s : Int × Bool × Int × Int), (∀ f ∈ F, f.f5 < 20) → s.1 < 20 → (F.foldl (ste (hit who attr d known)) s).1 < 20 := by
  intro F
  induction F with
  | nil => intro s _ h; exact h
  | cons f F ih =>
    intro s hF hs
    rw [List.foldl_cons]
    refine ih _ (fun g hg => hF g (by simp [hg])) ?_
    unfold ste
    split
    · split
      · exact hs
      · exact hF f (by simp)
    · exact hs
theorem atF_last (F : List S77) (f : S77) (who : Int) (attr : ByteArray) (d known : Int) (hF : ∀ g ∈ F, g.f5 < 20) (hf : 20 ≤ f.f5) (hv : f.f2.f0 ≠ 0) (h : hit who attr d known f = true) : atF (F ++ [f]) who attr d known = (f.f2.f0, f.f2.f1) := by
  have hb := best_lt who attr d known F (0, false, 0, 0) hF (by decide)
  unfold atF
  rw [List.foldl_append, List.foldl_cons, List.foldl_nil]
  generalize F.foldl (ste (hit who attr d known)) (0, false, 0, 0) = s at hb
  have e : ste (hit who attr d known) s f = (f.f5, true, f.f2.f0, f.f2.f1) := by
    unfold ste
    rw [if_pos h, if_neg (fun hh => by have := hh.2; omega)]
  rw [e]
  unfold fin
  rw [if_neg hv]
/-- the value on a day, as the code of Changed asks for it -/
theorem chAt_l0 (c : List S58) (d : Int) (hl : c.length ≤ 4398046511104) (n : Nat) : ∀ i : Nat, i ≤ c.length → c.length - i = n → Ev (fun k => fact_Changed_1.l0 k d c (c.length : Int) (i : Int)) (atv (c.drop i) d) := by
  induction n with
  | zero =>
    intro i hi hn
    obtain rfl : i = c.length := by omega
    rw [List.drop_length]
    refine Ev.step (f := fun _ => some (0, 0)) (fun k => ?_) (Ev.now _)
    simp only [fact_Changed_1.l0]
    rw [if_neg (by omega)]
  | succ n ih =>
    intro i hi hn
    have hlt : i < c.length := by omega
    rw [drop_span c i hlt]
    simp only [atv]
    by_cases h1 : (rd_T58 c (i : Int)).f0 ≤ d
    · by_cases h2 : d < (rd_T58 c (i : Int)).f1
      · rw [if_pos ⟨h1, h2⟩]
        refine Ev.step (f := fun _ => some _) (fun k => ?_) (Ev.now _)
        simp only [fact_Changed_1.l0]
        rw [if_pos (by omega), if_pos (by omega), if_pos (by omega), if_pos h1, if_pos h2]
      · rw [if_neg (fun h => h2 h.2)]
        refine Ev.step (fun k => ?_) (ih (i + 1) (by omega) (by omega))
        simp only [fact_Changed_1.l0]
        rw [if_pos (by omega), if_pos (by omega), if_pos (by omega), if_pos h1, if_neg h2, w64_succ hlt (by omega)]
    · rw [if_neg (fun h => h1 h.1)]
      refine Ev.step (fun k => ?_) (ih (i + 1) (by omega) (by omega))
      simp only [fact_Changed_1.l0]
      rw [if_pos (by omega), if_pos (by omega), if_pos (by omega), if_neg h1, w64_succ hlt (by omega)]
theorem chAt_of (c : List S58) (d : Int) (hl : c.length ≤ 4398046511104) : Ev (fun k => fact_Changed_1.f k c d) (atv c d) := by
  simp only [fact_Changed_1.f]
  exact chAt_l0 c d hl _ 0 (by omega) rfl
theorem fconcat_of (a b : List S58) (ha : a.length ≤ 1000000) (hb : b.length ≤ 1000000) : Ev (fun k => fact_Span_80.f k [a, b]) (a ++ b) := by
  unfold fact_Span_80.f
  have r0 : rd_L8 [a, b] 0 = a := rfl
  have r1 : rd_L8 [a, b] 1 = b := rfl
  have e0 : wrap64 ((0 : Int) + 1) = 1 := by simp [wrap64]
  have e1 : wrap64 ((1 : Int) + 1) = 2 := by simp [wrap64]
  refine Ev.step (fun k => by rw [fact_Span_80.l0]) (Ev.ifp (by simp) (Ev.ifp (by omega) (Ev.ifp (by simp) ?_)))
  rw [r0, e0, w64 (x := 0 + (a.length : Int)) (by omega) (by omega)]
  refine Ev.ifn (by omega) ?_
  refine Ev.step (fun k => by rw [fact_Span_80.l0]) (Ev.ifp (by simp) (Ev.ifp (by omega) (Ev.ifp (by simp) ?_)))
  rw [r1, e1, w64 (x := 0 + (a.length : Int) + (b.length : Int)) (by omega) (by omega)]
  refine Ev.ifn (by omega) ?_
  refine Ev.step (fun k => by rw [fact_Span_80.l0]) (Ev.ifn (by simp) ?_)
  have hg : span_Grow.f (0 + (a.length : Int) + (b.length : Int)) = some [] := by
    unfold span_Grow.f
    rw [if_pos (by omega), if_pos (by omega)]
  simp only [hg, Option.bind_some]
  refine Ev.step (fun k => by rw [fact_Span_80.l1]) (Ev.ifp (by simp) (Ev.ifp (by omega) (Ev.ifp (by simp) ?_)))
  rw [r0, e0]
  refine Ev.ifp (by simp; omega) ?_
  refine Ev.step (fun k => by rw [fact_Span_80.l1]) (Ev.ifp (by simp) (Ev.ifp (by omega) (Ev.ifp (by simp) ?_)))
  rw [r1, e1]
  refine Ev.ifp (by simp; omega) ?_
  exact Ev.step (fun k => by rw [fact_Span_80.l1]) (Ev.ifn (by simp) (Ev.to (by simp)))
def sEnds : List S58 → List Int
  | [] => []
  | s :: l => s.f0 :: s.f1 :: sEnds l
theorem sEnds_len (l : List S58) : (sEnds l).length = 2 * l.length := by
  induction l with
  | nil => rfl
  | cons s l ih => simp [sEnds, ih]; omega
theorem sEnds_mem (l : List S58) (s : S58) (h : s ∈ l) : s.f0 ∈ sEnds l ∧ s.f1 ∈ sEnds l := by
  induction l with
  | nil => simp at h
  | cons t l ih =>
    rcases List.mem_cons.1 h with rfl | h
    · simp [sEnds]
    · have := ih h; simp [sEnds, this.1, this.2]
def srt (l : List Int) : List Int := l.mergeSort fun x y => decide (x ≤ y)
theorem srt_sorted (l : List Int) : (srt l).Pairwise (· ≤ ·) := by
  have := List.pairwise_mergeSort (le := fun x y : Int => decide (x ≤ y)) (fun a b c h1 h2 => by simp at *; omega) (fun a b => by simp; omega) l
  exact this.imp (fun h => by simpa using h)
theorem srt_mem (l : List Int) (x : Int) : x ∈ srt l ↔ x ∈ l := (List.mergeSort_perm l _).mem_iff
theorem srt_len (l : List Int) : (srt l).length = l.length := List.length_mergeSort l
theorem srt_gap {l : List Int} (h : l.Pairwise (· ≤ ·)) (i : Nat) (hi : i + 1 < l.length) (x : Int) (hx : x ∈ l) : x ≤ rd l (i : Int) ∨ rd l ((i + 1 : Nat) : Int) ≤ x := by
  obtain ⟨j, hj, rfl⟩ := mem_rd hx
  by_cases hij : j ≤ i
  · exact .inl (sorted_rd h j i hij (by omega))
  · exact .inr (sorted_rd h (i + 1) j (by omega) hj)
theorem atv_const (a b : Int) : ∀ (l : List S58), (∀ s ∈ l, (s.f0 ≤ a ∨ b ≤ s.f0) ∧ (s.f1 ≤ a ∨ b ≤ s.f1)) → ∀ d, a ≤ d → d < b → atv l d = atv l a
  | [], _, _, _, _ => rfl
  | s :: l, h, d, h1, h2 => by
    have hs := h s (by simp)
    simp only [atv]
    rw [atv_const a b l (fun t ht => h t (by simp [ht])) d h1 h2]
    by_cases hc : s.f0 ≤ d ∧ d < s.f1
    · rw [if_pos hc, if_pos (by omega)]
    · rw [if_neg hc, if_neg (by omega)]
theorem changed_l0 (x y c : List S58) (r : List S90) (hl : c.length ≤ 100000) (n : Nat) : ∀ (i : Nat) (acc : List Int), i ≤ c.length → c.length - i = n → acc.length ≤ 2 * i →
    Ev (fun k => fact_Changed.l1 k (srt (acc ++ sEnds (c.drop i))) x y [] 0) r → Ev (fun k => fact_Changed.l0 k acc x y c (c.length : Int) (i : Int)) r := by
  induction n with
  | zero =>
    intro i acc hi hn ha h
    obtain rfl : i = c.length := by omega
    rw [List.drop_length, sEnds, List.append_nil] at h
    refine Ev.step (fun k => ?_) h
    simp only [fact_Changed.l0]
    rw [if_neg (by omega)]
    unfold slices_Sort_int_int.f
    rw [if_pos (by omega)]
    rfl
  | succ n ih =>
    intro i acc hi hn ha h
    have hlt : i < c.length := by omega
    rw [drop_span c i hlt, sEnds] at h
    refine Ev.step (fun k => ?_) (ih (i + 1) (acc ++ [(rd_T58 c (i : Int)).f0, (rd_T58 c (i : Int)).f1]) (by omega) (by omega) (by simp; omega) (by simpa using h))
    simp only [fact_Changed.l0]
    rw [if_pos (by omega), if_pos (by omega), if_pos (by omega), Option.bind_some, if_pos (by simp; omega), w64_succ hlt (by omega)]
theorem changed_l1 (x y : List S58) (E : List Int) (fr te : Int) (hE : E.Pairwise (· ≤ ·)) (hEl : E.length ≤ 900) (hx : ∀ s ∈ x, s.f0 ∈ E ∧ s.f1 ∈ E) (hy : ∀ s ∈ y, s.f0 ∈ E ∧ s.f1 ∈ E) (hxl : x.length ≤ 1000) (hyl : y.length ≤ 1000) (hne : ∀ d, atv x d ≠ atv y d → fr ≤ d ∧ d < te) (n : Nat) :
    ∀ (i : Nat) (out : List S90), i ≤ E.length → E.length - i = n → out.length ≤ i → (∀ d, spHas out d → fr ≤ d ∧ d < te) → ∃ r, Ev (fun k => fact_Changed.l1 k E x y out (i : Int)) r ∧ (∀ d, spIn r d → fr ≤ d ∧ d < te) ∧ r.length ≤ 900 := by
  induction n with
  | zero =>
    intro i out hi hn ho hh
    obtain ⟨r, h1, h2, h3, h4⟩ := normIn out (by omega)
    refine ⟨r, ?_, fun d hd => hh d ((h3 d).1 hd).1, by omega⟩
    refine Ev.step (f := fun k => (spell_Norm.f k out).bind fun t => some t) (fun k => ?_) (Ev.bind h1 (Ev.now _))
    simp only [fact_Changed.l1]
    rw [w64 (x := (i : Int) + 1) (by omega) (by omega), if_neg (by omega)]
  | succ n ih =>
    intro i out hi hn ho hh
    have hlt : i < E.length := by omega
    have hw := w64_succ hlt (by omega)
    by_cases hi1 : i + 1 < E.length
    · have ev : ∀ r : List S90, Ev (fun k => (fact_Changed_1.f k x (rd E (i : Int))).bind fun bt => (fact_Changed_1.f k y (rd E (i : Int))).bind fun bu => (if (!(bt.1 == bu.1) || (!(bt.2 == bu.2))) = true then (if 0 ≤ ((i + 1 : Nat) : Int) then (if out.length < 8796093022208 then (fact_Changed.l1 k E x y (out ++ [(⟨rd E (i : Int), rd E ((i + 1 : Nat) : Int)⟩ : S90)]) ((i + 1 : Nat) : Int)) else none) else none) else (fact_Changed.l1 k E x y out ((i + 1 : Nat) : Int)))) r → Ev (fun k => fact_Changed.l1 k E x y out (i : Int)) r := by
        intro r h
        refine Ev.step (fun k => ?_) h
        simp only [fact_Changed.l1, hw]
        rw [if_pos (by omega), if_pos (by omega), if_pos (by omega)]
      by_cases he : atv x (rd E (i : Int)) = atv y (rd E (i : Int))
      · obtain ⟨r, hr, h⟩ := ih (i + 1) out (by omega) (by omega) (by omega) hh
        refine ⟨r, ev r (Ev.bind (chAt_of x _ (by omega)) (Ev.bind (chAt_of y _ (by omega)) (Ev.ifn ?_ hr))), h⟩
        rw [he]; simp
      · obtain ⟨r, hr, h⟩ := ih (i + 1) (out ++ [(⟨rd E (i : Int), rd E ((i + 1 : Nat) : Int)⟩ : S90)]) (by omega) (by omega) (by simp; omega) (fun d hd => by
          rcases (spHas_append _ _ d).1 hd with hd | hd
          · exact hh d hd
          · rw [spHas_cons] at hd
            rcases hd with ⟨d1, d2⟩ | hd
            · refine hne d ?_
              rw [atv_const _ _ x (fun s hs => ⟨srt_gap hE i hi1 _ (hx s hs).1, srt_gap hE i hi1 _ (hx s hs).2⟩) d d1 d2, atv_const _ _ y (fun s hs => ⟨srt_gap hE i hi1 _ (hy s hs).1, srt_gap hE i hi1 _ (hy s hs).2⟩) d d1 d2]
              exact he
            · exact absurd hd (spHas_nil d))
        refine ⟨r, ev r (Ev.bind (chAt_of x _ (by omega)) (Ev.bind (chAt_of y _ (by omega)) (Ev.ifp ?_ (Ev.ifp (by omega) (Ev.ifp (by omega) hr))))), h⟩
        rcases hxv : atv x (rd E (i : Int)) with ⟨a, b⟩
        rcases hyv : atv y (rd E (i : Int)) with ⟨a', b'⟩
        rw [hxv, hyv] at he
        simp only [Bool.or_eq_true, Bool.not_eq_true', beq_eq_false_iff_ne]
        by_cases h1 : a = a'
        · exact .inr (fun h2 => he (by rw [h1, h2]))
        · exact .inl h1
    · obtain ⟨r, h1, h2, h3, h4⟩ := normIn out (by omega)
      refine ⟨r, ?_, fun d hd => hh d ((h3 d).1 hd).1, by omega⟩
      refine Ev.step (f := fun k => (spell_Norm.f k out).bind fun t => some t) (fun k => ?_) (Ev.bind h1 (Ev.now _))
      simp only [fact_Changed.l1]
      rw [hw, if_neg (by omega)]
theorem changed_of (G : List S77) (hG : ∀ f ∈ G, Good f) (hl : G.length ≤ 20) (who : Int) (attr : ByteArray) (k1 k2 fr te : Int) (hne : ∀ d, atF G who attr d k1 ≠ atF G who attr d k2 → fr ≤ d ∧ d < te) :
    ∃ r, Ev (fun k => fact_Changed.f k G who attr k1 k2) r ∧ (∀ d, spIn r d → fr ≤ d ∧ d < te) ∧ r.length ≤ 900 := by
  obtain ⟨x, hx, _, hxl, hxa⟩ := line_of_facts who attr k1 G hG (by omega)
  obtain ⟨y, hy, _, hyl, hya⟩ := line_of_facts who attr k2 G hG (by omega)
  have hs := srt_len (sEnds (x ++ y)); have hs2 := sEnds_len (x ++ y); rw [List.length_append] at hs2
  have hm : ∀ s ∈ x ++ y, s.f0 ∈ srt (sEnds (x ++ y)) ∧ s.f1 ∈ srt (sEnds (x ++ y)) := fun s h => by rw [srt_mem, srt_mem]; exact sEnds_mem _ s h
  obtain ⟨r, hr, h⟩ := changed_l1 x y (srt (sEnds (x ++ y))) fr te (srt_sorted _) (by omega) (fun s h => hm s (by simp [h])) (fun s h => hm s (by simp [h])) (by omega) (by omega) (fun d hd => hne d (by rw [← hxa, ← hya]; exact hd)) _ 0 [] (by omega) rfl (by simp) (fun d hd => absurd hd (spHas_nil d))
  refine ⟨r, ?_, h⟩
  simp only [fact_Changed.f]
  refine Ev.bind hx (Ev.bind hy (Ev.bind (fconcat_of x y (by omega) (by omega)) ?_))
  exact changed_l0 x y (x ++ y) r (by simp; omega) _ 0 [] (by omega) rfl (by simp) hr
theorem within_of (a : List S90) (ha : a.length ≤ 1000) (fr te : Int) (h0 : 0 ≤ fr) (h1 : te ≤ 1048576) (h : ∀ d, spIn a d → fr ≤ d ∧ d < te) : Ev (fun k => spell_Within.f k a [(⟨fr, te⟩ : S90)]) true := by
  obtain ⟨r, hr, hn, hm, _⟩ := less_of a [(⟨fr, te⟩ : S90)] ha (by simp)
  have hr0 : r = [] := by
    rcases r with _ | ⟨s, t⟩
    · rfl
    · exfalso
      have hs : spHas (s :: t) s.f0 := (spHas_cons ..).2 (.inl (by have := hn.2.1; omega))
      have := (hm s.f0).1 ((hn.spIn _).1 hs)
      have g := h _ this.1
      exact this.2 ⟨(spHas_cons ..).2 (.inl g), by omega, by omega⟩
  subst hr0
  unfold spell_Within.f
  exact Ev.bind hr (Ev.to rfl)
theorem FactLater : mootkeep1_FactLater.Pure := by
  intro l a1 a2 a3 a4
  intros
  obtain ⟨F, hF, hl, hg⟩ := facts_of l
  have r1 := below_range a1 60 (by omega)
  have r2 := below_range a4 100 (by omega)
  have r3 := below_range a3 4 (by omega)
  have r4 := below_range a2 30 (by omega)
  obtain ⟨fr, hfr⟩ : ∃ x, x = a1 % 60 := ⟨_, rfl⟩
  obtain ⟨d, hd⟩ : ∃ x, x = a4 % 100 := ⟨_, rfl⟩
  obtain ⟨n, hn⟩ : ∃ x, x = a3 % 4 := ⟨_, rfl⟩
  obtain ⟨z, hz⟩ : ∃ x, x = a2 % 30 := ⟨_, rfl⟩
  rw [← hfr] at r1
  rw [← hd] at r2
  rw [← hn] at r3
  rw [← hz] at r4
  obtain ⟨m, hm⟩ : ∃ m : S77, m = ⟨1, tA, ⟨5, n⟩, fr, fr + 1 + z, 30⟩ := ⟨_, rfl⟩
  have gm : Good m := by subst hm; exact ⟨.inr rfl, .inl rfl, .inr ⟨rfl, r3.1, r3.2⟩, r1.1, r1.2, by show fr < fr + 1 + z; omega, by show fr + 1 + z ≤ fr + 30; omega, by show (0 : Int) ≤ 30; omega, by show (30 : Int) ≤ 30; omega⟩
  have hG : ∀ f ∈ F ++ [m], Good f := fun f hf => by
    rcases List.mem_append.1 hf with hf | hf
    · exact (hg f hf).1
    · rw [List.mem_singleton.1 hf]; exact gm
  have h29 : ∀ e, atF (F ++ [m]) 1 tA e 29 = atF F 1 tA e 29 := fun e => atF_skip F m 1 tA e 29 (by subst hm; unfold hit; simp)
  have h0 : atF (F ++ [m]) 0 tA d 30 = atF F 0 tA d 30 := atF_skip F m 0 tA d 30 (by subst hm; unfold hit ofw; simp)
  have hk : ∀ e, atF F 1 tA e 29 = atF F 1 tA e 30 := fun e => atF_congr F 1 tA e e 29 30 (fun f hf => by
    have := (hg f hf).2
    unfold hit
    rw [show decide (f.f5 > 29) = false from decide_eq_false (by omega), show decide (f.f5 > 30) = false from decide_eq_false (by omega)])
  have hout : ∀ e, ¬ (fr ≤ e ∧ e < fr + 1 + z) → atF (F ++ [m]) 1 tA e 30 = atF F 1 tA e 30 := fun e he => atF_skip F m 1 tA e 30 (by
    subst hm
    unfold hit
    rcases (show e < fr ∨ e ≥ fr + 1 + z by omega) with h | h
    · simp [h]
    · simp [h])
  have hin : ∀ e, fr ≤ e → e < fr + 1 + z → atF (F ++ [m]) 1 tA e 30 = (5, n) := fun e e1 e2 => by
    have := atF_last F m 1 tA e 30 (fun g hg' => (hg g hg').2) (by subst hm; show (20 : Int) ≤ 30; omega) (by subst hm; show (5 : Int) ≠ 0; omega) (by subst hm; unfold hit ofw; simp; omega)
    rw [this, hm]
  obtain ⟨c, hc, hcd, hcl⟩ := changed_of (F ++ [m]) hG (by simp; omega) 1 tA 29 30 fr (fr + 1 + z) (fun e he => by
    by_cases h : fr ≤ e ∧ e < fr + 1 + z
    · exact h
    · exact absurd (by rw [h29, hk, hout e h]) he)
  have hwi := within_of c (by omega) fr (fr + 1 + z) r1.1 (by omega) hcd
  have hw : wrap64 (wrap64 (fr + 1) + z) = fr + 1 + z := by rw [w64 (x := fr + 1) (by omega) (by omega), w64 (by omega) (by omega)]
  refine Ev.rounds (g := fun k => mootkeep1_FactLater.f k l a1 a2 a3 a4) ?_
  simp only [mootkeep1_FactLater.f]
  refine Ev.bind hF ?_
  rw [below_of _ _ (by omega) (by omega), below_of _ _ (by omega) (by omega), below_of _ _ (by omega) (by omega), below_of _ _ (by omega) (by omega)]
  simp only [Option.bind_some]
  rw [← hfr, ← hd, ← hn, ← hz, hw]
  have hcl : fact_Clone.f F = some F := by
    unfold fact_Clone.f
    rw [Option.bind_some, if_pos (by simp; omega)]
    rfl
  rw [hcl]
  simp only [Option.bind_some]
  refine Ev.ifp (by simp; omega) ?_
  have hm' : (F ++ [(⟨1, (⟨#[97]⟩ : ByteArray), (⟨5, n⟩ : S56), fr, fr + 1 + z, 30⟩ : S77)]) = F ++ [m] := by rw [hm]; rfl
  rw [hm']
  have hend : Ev (fun k => mootkeep1_FactLater.j1 k d F (F ++ [m]) (decide (d < fr) || decide (d ≥ fr + 1 + z)) 1 (⟨#[97]⟩ : ByteArray) 5 n fr (fr + 1 + z) 30) true := by
    by_cases h : d < fr ∨ d ≥ fr + 1 + z
    · refine Ev.step (f := fun k => (fact_At.f k (F ++ [m]) 1 (⟨#[97]⟩ : ByteArray) d 30).bind fun b => (fact_At.f k F 1 (⟨#[97]⟩ : ByteArray) d 30).bind fun b' => some (b.1 == b'.1 && (b.2 == b'.2))) (fun k => ?_) (Ev.bind (factAt_of _ _ _ _ _ (by simp; omega)) (Ev.bind (factAt_of _ _ _ _ _ (by omega)) (Ev.to ?_)))
      · simp only [mootkeep1_FactLater.j1]
        rw [if_pos (by simpa using h)]
      · rw [show (⟨#[97]⟩ : ByteArray) = tA from rfl, hout d (by omega)]
        simp
    · refine Ev.step (f := fun k => (fact_At.f k (F ++ [m]) 1 (⟨#[97]⟩ : ByteArray) d 30).bind fun b => some (b.1 == 5 && (b.2 == n))) (fun k => ?_) (Ev.bind (factAt_of _ _ _ _ _ (by simp; omega)) (Ev.to ?_))
      · simp only [mootkeep1_FactLater.j1]
        rw [if_neg (by simpa using h)]
      · rw [show (⟨#[97]⟩ : ByteArray) = tA from rfl, hin d (by omega) (by omega)]
        simp
  have hmid : Ev (fun k => mootkeep1_FactLater.j0 k d F (F ++ [m]) false 1 (⟨#[97]⟩ : ByteArray) 5 n fr (fr + 1 + z) 30) true := by
    refine Ev.step (f := fun k => (fact_Changed.f k (F ++ [m]) 1 (⟨#[97]⟩ : ByteArray) 29 30).bind fun t => (spell_Within.f k t [(⟨fr, fr + 1 + z⟩ : S90)]).bind fun t' => if t' = true then (if d < fr then (mootkeep1_FactLater.j1 k d F (F ++ [m]) true 1 (⟨#[97]⟩ : ByteArray) 5 n fr (fr + 1 + z) 30) else (mootkeep1_FactLater.j1 k d F (F ++ [m]) (decide (d ≥ fr + 1 + z)) 1 (⟨#[97]⟩ : ByteArray) 5 n fr (fr + 1 + z) 30)) else none) (fun k => ?_) (Ev.bind hc (Ev.bind hwi (Ev.ifp rfl ?_)))
    · simp only [mootkeep1_FactLater.j0]
      rw [if_neg (by decide)]
    · by_cases h : d < fr
      · refine Ev.ifp h ?_
        rw [decide_eq_true h, Bool.true_or] at hend
        exact hend
      · refine Ev.ifn h ?_
        rw [decide_eq_false h, Bool.false_or] at hend
        exact hend
  refine Ev.bind told_of (Ev.ifp rfl (Ev.bind (factAt_of _ _ _ _ _ (by simp; omega)) (Ev.bind (factAt_of _ _ _ _ _ (by omega)) (Ev.ifn ?_ (Ev.bind (factAt_of _ _ _ _ _ (by simp; omega)) (Ev.bind (factAt_of _ _ _ _ _ (by omega)) ?_))))))
  · rw [show (⟨#[97]⟩ : ByteArray) = tA from rfl, h29]
    simp
  · rw [show (⟨#[97]⟩ : ByteArray) = tA from rfl, h0]
    simp only [beq_self_eq_true, Bool.not_true, Bool.or_self]
    exact hmid
end Go.Proofs.Ytkcmjdbeiclbkaa.Pure
