/-
The order of facts that became known on different days does not matter, for every list and all numbers.
-/
import Derived.Test.YthedaldmhjocdaaPFactTurnedx8
set_option linter.unusedVariables false
set_option linter.unusedSimpArgs false
namespace Go.Proofs.Ythedaldmhjocdaa.Pure
open Go.RowKit Go.Proofs.Ythedaldmhjocdaa.PFactTurned Go.Proofs.YthedaldmhjocdaaW.PrintWords Go.Proofs.YthedaldmhjocdaaW.PrintLast
/-- numbers that need no wrap -/
theorem w64 {x : Int} (h1 : -9223372036854775808 ≤ x) (h2 : x ≤ 9223372036854775807) : wrap64 x = x := by unfold wrap64; omega
theorem tdivnn {a b : Int} (h : 0 ≤ a) : Int.tdiv a b = a / b := Int.tdiv_eq_ediv_of_nonneg h
theorem tmodnn {a b : Int} (h : 0 ≤ a) : Int.tmod a b = a % b := Int.tmod_eq_emod_of_nonneg h
theorem Ev.ifp {α : Type} {c : Prop} [Decidable c] {a b : Nat → Option α} {r : α} (h : c) (k : Ev a r) : Ev (fun n => if c then a n else b n) r := Ev.congr (fun n => by rw [if_pos h]) k
theorem Ev.ifn {α : Type} {c : Prop} [Decidable c] {a b : Nat → Option α} {r : α} (h : ¬ c) (k : Ev b r) : Ev (fun n => if c then a n else b n) r := Ev.congr (fun n => by rw [if_neg h]) k
theorem Ev.to {α : Type} {a b : α} (h : a = b) : Ev (fun _ => some a) b := h ▸ Ev.now a
theorem below_of (x n : Int) (h0 : 0 < n) (h1 : n ≤ 4611686018427387904) : mootmake_Below.f x n = some (x % n) := by
  have hr := Int.emod_nonneg x (show n ≠ 0 by omega)
  have hl := Int.emod_lt_of_pos x h0
  unfold mootmake_Below.f
  rw [if_neg (by omega), Int.tmod_eq_emod]
  by_cases h : 0 ≤ x ∨ n ∣ x
  · rw [if_pos h, show x % n - ((0 : Nat) : Int) = x % n from by omega, if_neg (by omega)]
  · have h3 : x % n ≠ 0 := fun e => h (.inr (Int.dvd_of_emod_eq_zero e))
    rw [if_neg h, if_pos (by omega), w64 (by omega) (by omega)]
    congr 1; omega
theorem below_range (x n : Int) (h0 : 0 < n) : 0 ≤ x % n ∧ x % n < n := ⟨Int.emod_nonneg x (by omega), Int.emod_lt_of_pos x h0⟩
theorem drop_rd (l : List Int) (i : Nat) (h : i < l.length) : l.drop i = rd l (i : Int) :: l.drop (i + 1) := by
  rw [List.drop_eq_getElem_cons h]
  unfold rd
  simp [List.getD, h]
theorem w64_succ {i n : Nat} (h : i < n) (hn : n ≤ 9223372036854775807) : wrap64 ((i : Int) + 1) = ((i + 1 : Nat) : Int) := by
  rw [w64 (by omega) (by omega)]; omega
theorem next_of (l : List Int) (n : Int) (h0 : 0 < n) (h1 : n ≤ 4611686018427387904) : ∃ v l', mootmake_Stream_Next.f l n = some (v, l') ∧ 0 ≤ v ∧ v < n := by
  unfold mootmake_Stream_Next.f
  rw [if_neg (by omega)]
  by_cases h : l = []
  · rw [if_pos h]; exact ⟨0, l, rfl, by omega, h0⟩
  · rw [if_neg h, below_of _ _ h0 h1]
    have := below_range (rd l 0) n h0
    exact ⟨_, _, rfl, this.1, this.2⟩
/-- a span of a number of things, within all dates -/
def okspan (s : S52) : Prop := 0 ≤ s.f0 ∧ s.f0 < s.f1 ∧ s.f1 ≤ 1048576 ∧ s.f2.f0 = 5 ∧ -1048576 ≤ s.f2.f1 ∧ s.f2.f1 ≤ 1048576
def follows (p s : S52) : Prop := p.f1 ≤ s.f0 ∧ ¬ (s.f0 = p.f1 ∧ s.f2.f0 = p.f2.f0 ∧ s.f2.f1 = p.f2.f1)
inductive Valid : List S52 → Prop
  | nil : Valid []
  | one (s : S52) : okspan s → Valid [s]
  | snoc (l : List S52) (p s : S52) : Valid (l ++ [p]) → okspan s → follows p s → Valid (l ++ [p] ++ [s])
theorem getD_app (l : List S52) (s : S52) (i : Nat) (z : S52) : (l ++ [s]).getD i z = if i < l.length then l.getD i z else if i = l.length then s else z := by
  simp only [List.getD_eq_getElem?_getD, List.getElem?_append]
  split
  · rfl
  · split
    · rename_i h; subst h; simp
    · rename_i h h'
      rw [List.getElem?_eq_none (by simp; omega)]; rfl
theorem Valid.index {l : List S52} (h : Valid l) : ∀ i, i < l.length → okspan (l.getD i z52) ∧ (0 < i → follows (l.getD (i - 1) z52) (l.getD i z52)) := by
  induction h with
  | nil => intro i hi; simp at hi
  | one s hs => intro i hi; obtain rfl : i = 0 := by simp at hi; omega
                exact ⟨hs, fun h => by omega⟩
  | snoc l p s _ hs hf ih =>
    intro i hi
    by_cases hlt : i < (l ++ [p]).length
    · rw [getD_app (l ++ [p]) s i, getD_app (l ++ [p]) s (i - 1), if_pos hlt, if_pos (by omega)]
      exact ih i hlt
    · have e : i = (l ++ [p]).length := by rw [List.length_append] at hi; simp at hi hlt ⊢; omega
      rw [getD_app (l ++ [p]) s i, getD_app (l ++ [p]) s (i - 1), if_neg hlt, if_pos e]
      refine ⟨hs, fun hp => ?_⟩
      rw [if_pos (by omega), getD_app l p, if_neg (by simp at e; omega), if_pos (by simp at e; omega)]
      exact hf
theorem Valid.indexR {l : List S52} (h : Valid l) (i : Nat) (hi : i < l.length) : okspan (rd_T52 l (i : Int)) ∧ (0 < i → follows (rd_T52 l ((i - 1 : Nat) : Int)) (rd_T52 l (i : Int))) := h.index i hi
theorem ucheck_of (n : Int) (h1 : -1048576 ≤ n) (h2 : n ≤ 1048576) : unit_Check.f 5 n = some 0 := by
  unfold unit_Check.f unit_Range.f unit_known.f
  rw [if_neg (by decide), if_neg (by decide), if_neg (by decide), if_neg (by decide), if_pos rfl, if_pos (by decide)]
  simp only [Option.bind_some]
  rw [if_pos (by decide), if_neg (by omega), if_neg (by omega)]
/-- what a course has on a day -/
def atv : List S52 → Int → Int × Int
  | [], _ => (0, 0)
  | s :: l, d => if s.f0 ≤ d ∧ d < s.f1 then (s.f2.f0, s.f2.f1) else atv l d
theorem drop_span (l : List S52) (i : Nat) (h : i < l.length) : l.drop i = rd_T52 l (i : Int) :: l.drop (i + 1) := by
  rw [List.drop_eq_getElem_cons h]
  unfold rd_T52
  simp [List.getD, h]
def has (s : S52) (d : Int) : Prop := s.f0 ≤ d ∧ d < s.f1
instance (s : S52) (d : Int) : Decidable (has s d) := by unfold has; infer_instance
theorem atv_none (l : List S52) (d : Int) (h : ∀ t ∈ l, ¬ has t d) : atv l d = (0, 0) := by
  induction l with
  | nil => rfl
  | cons s l ih =>
    simp only [atv]
    rw [if_neg (show ¬ (s.f0 ≤ d ∧ d < s.f1) from h s (by simp))]
    exact ih fun t ht => h t (by simp [ht])
theorem atv_snoc (l : List S52) (s : S52) (d : Int) : atv (l ++ [s]) d = if ∃ t ∈ l, has t d then atv l d else if has s d then (s.f2.f0, s.f2.f1) else (0, 0) := by
  induction l with
  | nil => simp [atv, has]
  | cons a l ih =>
    simp only [List.cons_append, atv]
    by_cases h : a.f0 ≤ d ∧ d < a.f1
    · rw [if_pos h, if_pos ⟨a, by simp, h⟩, if_pos h]
    · rw [if_neg h, ih, if_neg h]
      by_cases h2 : ∃ t ∈ l, has t d
      · obtain ⟨t, ht, hd⟩ := h2
        rw [if_pos ⟨t, ht, hd⟩, if_pos ⟨t, by simp [ht], hd⟩]
      · have h3 : ¬ ∃ t ∈ a :: l, has t d := by
          rintro ⟨t, ht, hd⟩
          rcases List.mem_cons.1 ht with rfl | ht
          · exact h hd
          · exact h2 ⟨t, ht, hd⟩
        rw [if_neg h2, if_neg h3]
theorem Valid.ok {l : List S52} (h : Valid l) : ∀ t ∈ l, okspan t := by
  induction h with
  | nil => intro t ht; simp at ht
  | one s hs => intro t ht; rw [List.mem_singleton.1 ht]; exact hs
  | snoc l p s _ hs _ ih =>
    intro t ht
    rcases List.mem_append.1 ht with ht | ht
    · exact ih t ht
    · rw [List.mem_singleton.1 ht]; exact hs
/-- no span of a course ends behind its last one -/
theorem Valid.hi {l : List S52} (h : Valid l) : ∀ p, l.getLast? = some p → ∀ t ∈ l, t.f1 ≤ p.f1 := by
  induction h with
  | nil => intro p hp; simp at hp
  | one s hs => intro p hp t ht; simp at hp; rw [List.mem_singleton.1 ht, hp]; omega
  | snoc l q s _ hs hf ih =>
    intro p hp t ht
    rw [List.getLast?_append] at hp
    simp at hp
    subst hp
    rcases List.mem_append.1 ht with ht | ht
    · have := ih q (by simp) t ht
      have := hf.1; have := hs.2.1
      omega
    · rw [List.mem_singleton.1 ht]; omega
theorem mn_min (a b : Int) : mn a b = min a b := by unfold mn; split <;> omega
theorem mx_max (a b : Int) : mx a b = max a b := by unfold mx; split <;> omega
theorem Valid.mk {l : List S52} {s : S52} (h : Valid l) (hs : okspan s) (hf : ∀ q, l.getLast? = some q → follows q s) : Valid (l ++ [s]) := by
  rcases List.eq_nil_or_concat l with rfl | ⟨l', p, rfl⟩
  · exact Valid.one s hs
  · simp only [List.concat_eq_append] at h hf ⊢
    exact Valid.snoc l' p s h hs (hf p (by simp))
theorem Valid.inv {l : List S52} {p : S52} (h : Valid (l ++ [p])) : Valid l ∧ okspan p ∧ ∀ q, l.getLast? = some q → follows q p := by
  generalize e : l ++ [p] = m at h
  cases h with
  | nil => simp at e
  | one s hs =>
    obtain ⟨rfl, rfl⟩ : l = [] ∧ p = s := by
      cases l with
      | nil => exact ⟨rfl, by simpa using e⟩
      | cons a l => simp at e
    exact ⟨Valid.nil, hs, fun q hq => by simp at hq⟩
  | snoc l2 p2 s2 hv hs hf =>
    obtain ⟨e1, e2⟩ := List.append_inj' e rfl
    obtain rfl : p = s2 := by simpa using e2
    subst e1
    refine ⟨hv, hs, fun q hq => ?_⟩
    obtain rfl : p2 = q := by simpa using hq
    exact hf
def Upto (l : List S52) (m : Int) : Prop := ∀ t ∈ l, t.f1 ≤ m
theorem Upto.mono {l : List S52} {m m' : Int} (h : Upto l m) (hm : m ≤ m') : Upto l m' := fun t ht => Int.le_trans (h t ht) hm
/-- a course with one span more behind it -/
def gro (l : List S52) (f t kd n : Int) : List S52 :=
  match l.getLast? with
  | none => l ++ [(⟨f, t, (⟨kd, n⟩ : S50)⟩ : S52)]
  | some p => if p.f1 = f ∧ p.f2.f0 = kd ∧ p.f2.f1 = n then l.dropLast ++ [(⟨p.f0, t, (⟨p.f2.f0, p.f2.f1⟩ : S50)⟩ : S52)] else l ++ [(⟨f, t, (⟨kd, n⟩ : S50)⟩ : S52)]
theorem gro_of (l : List S52) (f t kd n : Int) (hv : Valid l) (hok : okspan ⟨f, t, ⟨kd, n⟩⟩) (hup : Upto l f) :
    Valid (gro l f t kd n) ∧ (gro l f t kd n).length ≤ l.length + 1 ∧ (∀ d, atv (gro l f t kd n) d = if f ≤ d ∧ d < t then (kd, n) else atv l d) ∧ ∀ m, Upto l m → t ≤ m → Upto (gro l f t kd n) m := by
  have o2 : f < t := hok.2.1
  have happ : ∀ (d : Int), atv (l ++ [(⟨f, t, (⟨kd, n⟩ : S50)⟩ : S52)]) d = if f ≤ d ∧ d < t then (kd, n) else atv l d := by
    intro d
    rw [atv_snoc]
    by_cases h : ∃ t ∈ l, has t d
    · obtain ⟨u, hu, hd⟩ := h
      have := hup u hu; have := hd.2
      rw [if_pos ⟨u, hu, hd⟩, if_neg (by omega)]
    · rw [if_neg h, atv_none l d (fun u hu hd => h ⟨u, hu, hd⟩)]
      by_cases hd : f ≤ d ∧ d < t
      · rw [if_pos (show has (⟨f, t, (⟨kd, n⟩ : S50)⟩ : S52) d from hd), if_pos hd]
      · rw [if_neg (show ¬ has (⟨f, t, (⟨kd, n⟩ : S50)⟩ : S52) d from hd), if_neg hd]
  have happu : ∀ m, Upto l m → t ≤ m → Upto (l ++ [(⟨f, t, (⟨kd, n⟩ : S50)⟩ : S52)]) m := by
    intro m hm ht u hu
    rcases List.mem_append.1 hu with hu | hu
    · exact hm u hu
    · rw [List.mem_singleton.1 hu]; exact ht
  rcases List.eq_nil_or_concat l with rfl | ⟨l', p, rfl⟩
  · have e : gro [] f t kd n = [] ++ [(⟨f, t, (⟨kd, n⟩ : S50)⟩ : S52)] := rfl
    rw [e]
    exact ⟨Valid.one _ hok, by simp, happ, happu⟩
  · simp only [List.concat_eq_append] at *
    have hinv := hv.inv
    by_cases he : p.f1 = f ∧ p.f2.f0 = kd ∧ p.f2.f1 = n
    · have e : gro (l' ++ [p]) f t kd n = l' ++ [(⟨p.f0, t, (⟨p.f2.f0, p.f2.f1⟩ : S50)⟩ : S52)] := by
        unfold gro
        simp [he]
      rw [e]
      obtain ⟨e1, e2, e3⟩ := he
      have hpo := hinv.2.1
      have hok' : okspan (⟨p.f0, t, (⟨p.f2.f0, p.f2.f1⟩ : S50)⟩ : S52) := ⟨hpo.1, by have := hpo.2.1; show p.f0 < t; omega, hok.2.2.1, by show p.f2.f0 = 5; exact hpo.2.2.2.1, hpo.2.2.2.2.1, hpo.2.2.2.2.2⟩
      have hlow : ∀ u ∈ l', u.f1 ≤ p.f0 := by
        intro u hu
        rcases List.eq_nil_or_concat l' with rfl | ⟨l2, q, rfl⟩
        · simp at hu
        · simp only [List.concat_eq_append] at *
          have := hinv.1.hi q (by simp) u hu
          have := (hinv.2.2 q (by simp)).1
          omega
      refine ⟨hinv.1.mk hok' (fun q hq => hinv.2.2 q hq), by simp, fun d => ?_, fun m hm ht u hu => ?_⟩
      · rw [atv_snoc, atv_snoc]
        by_cases h : ∃ t ∈ l', has t d
        · obtain ⟨u, hu, hd⟩ := h
          have := hlow u hu; have := hd.2; have := hpo.2.1
          rw [if_neg (c := f ≤ d ∧ d < t) (by omega), if_pos (c := ∃ t ∈ l', has t d) ⟨u, hu, hd⟩, if_pos (c := ∃ t ∈ l', has t d) ⟨u, hu, hd⟩]
        · rw [if_neg h, if_neg h]
          have hp1 := hpo.2.1
          by_cases hd : f ≤ d ∧ d < t
          · rw [if_pos (show has (⟨p.f0, t, (⟨p.f2.f0, p.f2.f1⟩ : S50)⟩ : S52) d from ⟨by show p.f0 ≤ d; omega, hd.2⟩), if_pos hd]
            show (p.f2.f0, p.f2.f1) = (kd, n)
            rw [e2, e3]
          · rw [if_neg (c := f ≤ d ∧ d < t) hd]
            by_cases hd2 : has p d
            · have := hd2.1; have := hd2.2
              rw [if_pos hd2, if_pos (show has (⟨p.f0, t, (⟨p.f2.f0, p.f2.f1⟩ : S50)⟩ : S52) d from ⟨hd2.1, by show d < t; omega⟩)]
            · rw [if_neg hd2, if_neg]
              rintro ⟨ha, hb⟩
              have ha' : p.f0 ≤ d := ha; have hb' : d < t := hb
              exact hd2 ⟨ha', by omega⟩
      · rcases List.mem_append.1 hu with hu | hu
        · exact hm u (List.mem_append.2 (.inl hu))
        · rw [List.mem_singleton.1 hu]; exact ht
    · have hfo : follows p ⟨f, t, ⟨kd, n⟩⟩ := ⟨hup p (by simp), fun h => he ⟨h.1.symm, h.2.1.symm, h.2.2.symm⟩⟩
      have e : gro (l' ++ [p]) f t kd n = l' ++ [p] ++ [(⟨f, t, (⟨kd, n⟩ : S50)⟩ : S52)] := by
        unfold gro
        simp [he]
      rw [e]
      exact ⟨Valid.snoc l' p _ hv hok hfo, by simp, happ, happu⟩
def tA : ByteArray := ⟨#[97]⟩
def tB : ByteArray := ⟨#[98]⟩
/-- a fact of the two parties, as `facts` makes them -/
structure Good (f : S77) : Prop where
  who : f.f0 = 0 ∨ f.f0 = 1
  attr : f.f1 = tA ∨ f.f1 = tB
  val : (f.f2.f0 = 0 ∧ f.f2.f1 = 0) ∨ (f.f2.f0 = 5 ∧ 0 ≤ f.f2.f1 ∧ f.f2.f1 < 4)
  from0 : 0 ≤ f.f3
  from1 : f.f3 < 60
  to0 : f.f3 < f.f4
  to1 : f.f4 ≤ f.f3 + 30
  known0 : 0 ≤ f.f5
  known1 : f.f5 ≤ 30
theorem facts_l0 (m : Int) (hm : m < 12) (n : Nat) : ∀ (i : Nat) (l : List S77) (st : List Int), (i : Int) ≤ max m 0 → (max m 0 - i).toNat = n → l.length = i → (∀ f ∈ l, Good f ∧ f.f5 < 20) →
    ∃ F, Ev (fun k => mootkeep1_facts.l0 k l m (i : Int) st) F ∧ F.length ≤ 11 ∧ ∀ f ∈ F, Good f ∧ f.f5 < 20 := by
  induction n with
  | zero =>
    intro i l st hi hn hl hg
    refine ⟨l, Ev.step (f := fun _ => some l) (fun k => ?_) (Ev.now _), by omega, hg⟩
    simp only [mootkeep1_facts.l0]
    rw [if_neg (by omega)]
  | succ n ih =>
    intro i l st hi hn hl hg
    have hi11 : i < 11 := by omega
    obtain ⟨a, s1, e1, a0, a1⟩ := next_of st 2 (by omega) (by omega)
    obtain ⟨b, s2, e2, b0, b1⟩ := next_of s1 2 (by omega) (by omega)
    obtain ⟨c, s3, e3, c0, c1⟩ := next_of s2 4 (by omega) (by omega)
    obtain ⟨d, s4, e4, d0, d1⟩ := next_of s3 60 (by omega) (by omega)
    obtain ⟨x, s5, e5, x0, x1⟩ := next_of s4 20 (by omega) (by omega)
    obtain ⟨y, s6, e6, y0, y1⟩ := next_of s5 30 (by omega) (by omega)
    obtain ⟨z, s7, e7, z0, z1⟩ := next_of s6 5 (by omega) (by omega)
    have hw : wrap64 (wrap64 (d + 1) + y) = d + 1 + y := by rw [w64 (x := d + 1) (by omega) (by omega), w64 (by omega) (by omega)]
    have hat : rdOf ByteArray.empty [tA, tB] b = tA ∨ rdOf ByteArray.empty [tA, tB] b = tB := by
      rcases (show b = 0 ∨ b = 1 by omega) with rfl | rfl
      · exact .inl rfl
      · exact .inr rfl
    have main : ∀ v w : Int, (v = 0 ∧ w = 0) ∨ (v = 5 ∧ 0 ≤ w ∧ w < 4) → ∃ F, Ev (fun k => mootkeep1_facts.j1 k l m (i : Int) s7 a (rdOf ByteArray.empty [tA, tB] b) v w d (d + 1 + y) x) F ∧ F.length ≤ 11 ∧ ∀ f ∈ F, Good f ∧ f.f5 < 20 := by
      intro v w hvw
      obtain ⟨F, hF, h⟩ := ih (i + 1) (l ++ [(⟨a, rdOf ByteArray.empty [tA, tB] b, (⟨v, w⟩ : S50), d, d + 1 + y, x⟩ : S77)]) s7 (by omega) (by omega) (by simp [hl]) (fun f hf => by
        rcases List.mem_append.1 hf with hf | hf
        · exact hg f hf
        · rw [List.mem_singleton.1 hf]
          exact ⟨⟨by show a = 0 ∨ a = 1; omega, hat, hvw, d0, d1, by show d < d + 1 + y; omega, by show d + 1 + y ≤ d + 30; omega, x0, by show x ≤ 30; omega⟩, x1⟩)
      refine ⟨F, Ev.step (fun k => ?_) hF, h⟩
      simp only [mootkeep1_facts.j1]
      rw [if_pos (by omega), w64 (x := (i : Int) + 1) (by omega) (by omega), show (i : Int) + 1 = ((i + 1 : Nat) : Int) from by omega]
    by_cases hz : z = 1
    · obtain ⟨F, hF, h⟩ := main 0 0 (.inl ⟨rfl, rfl⟩)
      refine ⟨F, Ev.step (fun k => ?_) hF, h⟩
      simp only [mootkeep1_facts.l0]
      rw [if_pos (by omega), e1]
      simp only [Option.bind_some]
      rw [e2]
      simp only [Option.bind_some]
      rw [if_pos (by omega), if_pos (by simp; omega), e3]
      simp only [Option.bind_some]
      rw [e4]
      simp only [Option.bind_some]
      rw [e5]
      simp only [Option.bind_some]
      rw [e6]
      simp only [Option.bind_some]
      rw [e7]
      simp only [Option.bind_some]
      rw [if_pos hz, hw]
      rfl
    · obtain ⟨F, hF, h⟩ := main 5 c (.inr ⟨rfl, c0, c1⟩)
      refine ⟨F, Ev.step (fun k => ?_) hF, h⟩
      simp only [mootkeep1_facts.l0]
      rw [if_pos (by omega), e1]
      simp only [Option.bind_some]
      rw [e2]
      simp only [Option.bind_some]
      rw [if_pos (by omega), if_pos (by simp; omega), e3]
      simp only [Option.bind_some]
      rw [e4]
      simp only [Option.bind_some]
      rw [e5]
      simp only [Option.bind_some]
      rw [e6]
      simp only [Option.bind_some]
      rw [e7]
      simp only [Option.bind_some]
      rw [if_neg hz, hw]
      rfl
theorem facts_of (l : List Int) : ∃ F, Ev (fun k => mootkeep1_facts.f k l) F ∧ F.length ≤ 11 ∧ ∀ f ∈ F, Good f ∧ f.f5 < 20 := by
  obtain ⟨m, s1, e1, m0, m1⟩ := next_of l 12 (by omega) (by omega)
  obtain ⟨F, hF, h⟩ := facts_l0 m m1 _ 0 [] s1 (by omega) rfl rfl (fun f hf => by simp at hf)
  refine ⟨F, ?_, h⟩
  simp only [mootkeep1_facts.f]
  rw [e1]
  exact hF
/-- whether a fact speaks of a party's attribute -/
def ofw (who : Int) (attr : ByteArray) (f : S77) : Bool := decide (f.f0 = who) && decide (f.f1.toList = attr.toList)
/-- whether a fact is known and has a day -/
def hit (who : Int) (attr : ByteArray) (d known : Int) (f : S77) : Bool := ofw who attr f && !decide (f.f5 > known) && !decide (d < f.f3) && !decide (d ≥ f.f4)
def ste (h : S77 → Bool) (s : Int × Bool × Int × Int) (f : S77) : Int × Bool × Int × Int :=
  if h f = true then (if s.2.1 = true ∧ f.f5 < s.1 then s else (f.f5, true, f.f2.f0, f.f2.f1)) else s
def fin (s : Int × Bool × Int × Int) : Int × Int := if s.2.2.1 = 0 then (0, 0) else (s.2.2.1, s.2.2.2)
/-- the value of an attribute as of a day and a day of knowledge -/
def atF (F : List S77) (who : Int) (attr : ByteArray) (d known : Int) : Int × Int := fin (F.foldl (ste (hit who attr d known)) (0, false, 0, 0))
theorem drop_fact (l : List S77) (i : Nat) (h : i < l.length) : l.drop i = rd_T77 l (i : Int) :: l.drop (i + 1) := by
  rw [List.drop_eq_getElem_cons h]
  unfold rd_T77
  simp [List.getD, h]
theorem factAt_l0 (who : Int) (attr : ByteArray) (d known : Int) (F : List S77) (hl : F.length ≤ 4398046511104) (n : Nat) : ∀ (i : Nat) (s : Int × Bool × Int × Int), i ≤ F.length → F.length - i = n →
    Ev (fun k => fact_At.l0 k who attr d known s.1 s.2.1 F (F.length : Int) (i : Int) s.2.2.1 s.2.2.2) (fin ((F.drop i).foldl (ste (hit who attr d known)) s)) := by
  induction n with
  | zero =>
    intro i s hi hn
    obtain rfl : i = F.length := by omega
    rw [List.drop_length]
    refine Ev.step (f := fun _ => some (fin s)) (fun k => ?_) (Ev.now _)
    simp only [fact_At.l0]
    rw [if_neg (by omega)]
    unfold fin
    split <;> rfl
  | succ n ih =>
    intro i s hi hn
    have hlt : i < F.length := by omega
    rw [drop_fact F i hlt, List.foldl_cons]
    have skip : hit who attr d known (rd_T77 F (i : Int)) = false → ste (hit who attr d known) s (rd_T77 F (i : Int)) = s := fun h => by unfold ste; rw [if_neg (by rw [h]; decide)]
    have ih' := ih (i + 1)
    have hw := w64_succ hlt (by omega)
    by_cases h1 : (rd_T77 F (i : Int)).f0 = who
    · by_cases h2 : (rd_T77 F (i : Int)).f1.toList = attr.toList
      · by_cases h3 : (rd_T77 F (i : Int)).f5 > known
        · rw [skip (by unfold hit; simp [h3])]
          refine Ev.step (fun k => ?_) (ih' s (by omega) (by omega))
          simp only [fact_At.l0]
          rw [if_pos (by omega), if_pos (by omega), if_pos (by omega), if_pos h1, if_pos h2, if_pos h3, hw]
        · by_cases h4 : d < (rd_T77 F (i : Int)).f3
          · rw [skip (by unfold hit; simp [h4])]
            refine Ev.step (fun k => ?_) (ih' s (by omega) (by omega))
            simp only [fact_At.l0]
            rw [if_pos (by omega), if_pos (by omega), if_pos (by omega), if_pos h1, if_pos h2, if_neg h3, if_pos h4, hw]
          · by_cases h5 : d ≥ (rd_T77 F (i : Int)).f4
            · rw [skip (by unfold hit; simp [h5])]
              refine Ev.step (fun k => ?_) (ih' s (by omega) (by omega))
              simp only [fact_At.l0]
              rw [if_pos (by omega), if_pos (by omega), if_pos (by omega), if_pos h1, if_pos h2, if_neg h3, if_neg h4, if_pos h5, hw]
            · have hh : hit who attr d known (rd_T77 F (i : Int)) = true := by unfold hit ofw; simp only [h1, h2]; simp; omega
              by_cases h6 : s.2.1 = true
              · by_cases h7 : (rd_T77 F (i : Int)).f5 < s.1
                · have e : ste (hit who attr d known) s (rd_T77 F (i : Int)) = s := by unfold ste; rw [if_pos hh, if_pos ⟨h6, h7⟩]
                  rw [e]
                  refine Ev.step (fun k => ?_) (ih' s (by omega) (by omega))
                  simp only [fact_At.l0]
                  rw [if_pos (by omega), if_pos (by omega), if_pos (by omega), if_pos h1, if_pos h2, if_neg h3, if_neg h4, if_neg h5, if_pos h6, if_pos h7, hw]
                · have e : ste (hit who attr d known) s (rd_T77 F (i : Int)) = ((rd_T77 F (i : Int)).f5, true, (rd_T77 F (i : Int)).f2.f0, (rd_T77 F (i : Int)).f2.f1) := by unfold ste; rw [if_pos hh, if_neg (fun h => h7 h.2)]
                  rw [e]
                  refine Ev.step (fun k => ?_) (ih' _ (by omega) (by omega))
                  simp only [fact_At.l0]
                  rw [if_pos (by omega), if_pos (by omega), if_pos (by omega), if_pos h1, if_pos h2, if_neg h3, if_neg h4, if_neg h5, if_pos h6, if_neg h7, hw]
              · have e : ste (hit who attr d known) s (rd_T77 F (i : Int)) = ((rd_T77 F (i : Int)).f5, true, (rd_T77 F (i : Int)).f2.f0, (rd_T77 F (i : Int)).f2.f1) := by unfold ste; rw [if_pos hh, if_neg (fun h => h6 h.1)]
                rw [e]
                refine Ev.step (fun k => ?_) (ih' _ (by omega) (by omega))
                simp only [fact_At.l0]
                rw [if_pos (by omega), if_pos (by omega), if_pos (by omega), if_pos h1, if_pos h2, if_neg h3, if_neg h4, if_neg h5, if_neg h6, hw]
      · rw [skip (by unfold hit ofw; simp [h2])]
        refine Ev.step (fun k => ?_) (ih' s (by omega) (by omega))
        simp only [fact_At.l0]
        rw [if_pos (by omega), if_pos (by omega), if_pos (by omega), if_pos h1, if_neg h2, hw]
    · rw [skip (by unfold hit ofw; simp [h1])]
      refine Ev.step (fun k => ?_) (ih' s (by omega) (by omega))
      simp only [fact_At.l0]
      rw [if_pos (by omega), if_pos (by omega), if_pos (by omega), if_neg h1, hw]
theorem factAt_of (F : List S77) (who : Int) (attr : ByteArray) (d known : Int) (hl : F.length ≤ 4398046511104) : Ev (fun k => fact_At.f k F who attr d known) (atF F who attr d known) := by
  simp only [fact_At.f]
  exact factAt_l0 who attr d known F hl _ 0 (0, false, 0, 0) (by omega) rfl
/-- the value depends on the facts that have the day alone -/
theorem atF_congr (F : List S77) (who : Int) (attr : ByteArray) (d d' known known' : Int) (h : ∀ f ∈ F, hit who attr d known f = hit who attr d' known' f) : atF F who attr d known = atF F who attr d' known' := by
  unfold atF
  congr 1
  generalize ((0, false, 0, 0) : Int × Bool × Int × Int) = s
  induction F generalizing s with
  | nil => rfl
  | cons f F ih =>
    simp only [List.foldl_cons]
    have e : ste (hit who attr d known) s f = ste (hit who attr d' known') s f := by unfold ste; rw [h f (by simp)]
    rw [e]
    exact ih (fun g hg => h g (by simp [hg])) _
theorem atF_none (F : List S77) (who : Int) (attr : ByteArray) (d known : Int) (h : ∀ f ∈ F, hit who attr d known f = false) : atF F who attr d known = (0, 0) := by
  have e : F.foldl (ste (hit who attr d known)) (0, false, 0, 0) = (0, false, 0, 0) := by
    induction F with
    | nil => rfl
    | cons f F ih =>
      rw [List.foldl_cons, show ste (hit who attr d known) (0, false, 0, 0) f = (0, false, 0, 0) from by unfold ste; rw [if_neg (by rw [h f (by simp)]; decide)]]
      exact ih fun g hg => h g (by simp [hg])
  unfold atF
  rw [e]
  rfl
/-- a value of the two kinds -/
def okval (v : Int × Int) : Prop := v = (0, 0) ∨ (v.1 = 5 ∧ 0 ≤ v.2 ∧ v.2 < 4)
theorem atF_val (F : List S77) (hF : ∀ f ∈ F, Good f) (who : Int) (attr : ByteArray) (d known : Int) : okval (atF F who attr d known) := by
  have key : ∀ (F : List S77) (s : Int × Bool × Int × Int), (∀ f ∈ F, Good f) → okval (s.2.2.1, s.2.2.2) → okval ((F.foldl (ste (hit who attr d known)) s).2.2.1, (F.foldl (ste (hit who attr d known)) s).2.2.2) := by
    intro F
    induction F with
    | nil => intro s _ hs; exact hs
    | cons f F ih =>
      intro s hF hs
      rw [List.foldl_cons]
      refine ih _ (fun g hg => hF g (by simp [hg])) ?_
      unfold ste
      split
      · split
        · exact hs
        · rcases (hF f (by simp)).val with ⟨h1, h2⟩ | h
          · exact .inl (by simp [h1, h2])
          · exact .inr h
      · exact hs
  have := key F (0, false, 0, 0) hF (.inl rfl)
  unfold atF fin
  split
  · exact .inl rfl
  · exact this
theorem mem_compact (l : List Int) (x : Int) : x ∈ Lib.compact l ↔ x ∈ l := by
  unfold Lib.compact Lib.compactUpTo
  rw [List.mem_map]
  constructor
  · rintro ⟨j, hj, rfl⟩
    have := List.mem_range.1 (List.mem_filter.1 hj).1
    simp [this]
  · intro h
    obtain ⟨j, hj, e⟩ := List.getElem_of_mem h
    induction j generalizing x with
    | zero => exact ⟨0, List.mem_filter.2 ⟨List.mem_range.2 hj, by simp [Lib.keeps]⟩, by simp [hj, e]⟩
    | succ j ih =>
      by_cases hk : Lib.keeps l.toArray (j + 1) = true
      · exact ⟨j + 1, List.mem_filter.2 ⟨List.mem_range.2 hj, hk⟩, by simp [hj, e]⟩
      · have hj' : j < l.length := by omega
        have e2 : l[j] = l[j + 1] := by
          unfold Lib.keeps at hk
          simp [hj, hj'] at hk
          exact hk.symm
        exact ih x (by rw [← e, ← e2]; exact List.getElem_mem hj') hj' (by rw [e2, e])
theorem sorted_rd {l : List Int} (h : l.Pairwise (· ≤ ·)) (i j : Nat) (hij : i ≤ j) (hj : j < l.length) : rd l (i : Int) ≤ rd l (j : Int) := by
  have e : ∀ k : Nat, k < l.length → rd l (k : Int) = l[k]! := fun k hk => by unfold rd; simp [List.getD, hk]
  rw [e i (by omega), e j hj]
  rcases Nat.lt_or_eq_of_le hij with hlt | rfl
  · simpa [hj, show i < l.length by omega] using List.pairwise_iff_getElem.1 h i j (by omega) hj hlt
  · exact Int.le_refl _
theorem compact_rises {l : List Int} (h : l.Pairwise (· ≤ ·)) : (Lib.compact l).Pairwise (· < ·) := by
  unfold Lib.compact Lib.compactUpTo
  rw [List.pairwise_map]
  have hr : ((List.range l.length).filter (Lib.keeps l.toArray)).Pairwise (· < ·) := (List.pairwise_lt_range).filter _
  refine List.Pairwise.imp_of_mem (fun {a b} ha hb hab => ?_) hr
  have h1 := List.mem_range.1 (List.mem_filter.1 ha).1
  have h2 := List.mem_range.1 (List.mem_filter.1 hb).1
  have h3 := (List.mem_filter.1 hb).2
  have e : ∀ k : Nat, k < l.length → rd l (k : Int) = l.toArray[k]! := fun k hk => by unfold rd; simp [List.getD, hk]
  obtain ⟨b', rfl⟩ : ∃ b', b = b' + 1 := ⟨b - 1, by omega⟩
  have s1 := sorted_rd h a b' (by omega) (by omega)
  have s2 := sorted_rd h b' (b' + 1) (by omega) h2
  rw [e a h1, e b' (by omega)] at s1
  rw [e b' (by omega), e (b' + 1) h2] at s2
  unfold Lib.keeps at h3
  have h4 : l.toArray[b' + 1]! ≠ l.toArray[b']! := by simpa using h3
  omega
/-- days in order, each once -/
def days (l : List Int) : List Int := Lib.compact (l.mergeSort fun x y => decide (x ≤ y))
theorem mem_days (l : List Int) (x : Int) : x ∈ days l ↔ x ∈ l := by
  unfold days
  rw [mem_compact]
  exact (List.mergeSort_perm l _).mem_iff
theorem days_rise (l : List Int) : (days l).Pairwise (· < ·) := by
  unfold days
  refine compact_rises ?_
  have := List.pairwise_mergeSort (le := fun x y : Int => decide (x ≤ y)) (fun a b c h1 h2 => by simp at *; omega) (fun a b => by simp; omega) l
  exact this.imp (fun h => by simpa using h)
theorem days_len (l : List Int) : (days l).length ≤ l.length := by
  unfold days Lib.compact Lib.compactUpTo
  rw [List.length_map]
  refine Nat.le_trans (List.length_filter_le ..) ?_
  rw [List.length_range, List.length_mergeSort]
  exact Nat.le_refl _
theorem days_of (l : List Int) (h : l.length ≤ 1000000) : (slices_Sort_int_int.f l).bind (fun t => slices_Compact_int_int.f t) = some (days l) := by
  unfold slices_Sort_int_int.f slices_Compact_int_int.f
  rw [if_pos h, Option.bind_some, if_pos (by rw [List.length_mergeSort]; exact h)]
  rfl
theorem rise_rd {l : List Int} (h : l.Pairwise (· < ·)) (i j : Nat) (hij : i < j) (hj : j < l.length) : rd l (i : Int) < rd l (j : Int) := by
  have e : ∀ k : Nat, k < l.length → rd l (k : Int) = l[k]! := fun k hk => by unfold rd; simp [List.getD, hk]
  rw [e i (by omega), e j hj]
  simpa [hj, show i < l.length by omega] using List.pairwise_iff_getElem.1 h i j (by omega) hj hij
theorem rd_mem {l : List Int} (i : Nat) (h : i < l.length) : rd l (i : Int) ∈ l := by
  unfold rd
  simp [List.getD, h]
theorem mem_rd {l : List Int} {x : Int} (h : x ∈ l) : ∃ i : Nat, i < l.length ∧ rd l (i : Int) = x := by
  obtain ⟨i, hi, e⟩ := List.getElem_of_mem h
  exact ⟨i, hi, by unfold rd; simp [List.getD, hi, e]⟩
/-- between two days that follow one another there is none -/
theorem days_gap {l : List Int} (h : l.Pairwise (· < ·)) (i : Nat) (hi : i + 1 < l.length) (x : Int) (hx : x ∈ l) : x ≤ rd l (i : Int) ∨ rd l ((i + 1 : Nat) : Int) ≤ x := by
  obtain ⟨j, hj, rfl⟩ := mem_rd hx
  by_cases hij : j ≤ i
  · left
    rcases Nat.lt_or_eq_of_le hij with hlt | rfl
    · exact Int.le_of_lt (rise_rd h j i hlt (by omega))
    · exact Int.le_refl _
  · right
    rcases Nat.lt_or_eq_of_le (show i + 1 ≤ j by omega) with hlt | he
    · exact Int.le_of_lt (rise_rd h (i + 1) j hlt hj)
    · rw [he]; exact Int.le_refl _
def clamp (x : Int) : Int := mx 0 (mn x 1048576)
theorem clamp_id {x : Int} (h0 : 0 ≤ x) (h1 : x ≤ 1048576) : clamp x = x := by unfold clamp; rw [mx_max, mn_min]; omega
def endsOf (who : Int) (attr : ByteArray) : List S77 → List Int
  | [] => []
  | f :: F => if ofw who attr f = true then clamp f.f3 :: clamp f.f4 :: endsOf who attr F else endsOf who attr F
theorem endsOf_len (who : Int) (attr : ByteArray) (F : List S77) : (endsOf who attr F).length ≤ 2 * F.length := by
  induction F with
  | nil => simp [endsOf]
  | cons f F ih => unfold endsOf; split <;> simp <;> omega
theorem endsOf_mem (who : Int) (attr : ByteArray) (F : List S77) (f : S77) (hf : f ∈ F) (hm : ofw who attr f = true) : clamp f.f3 ∈ endsOf who attr F ∧ clamp f.f4 ∈ endsOf who attr F := by
  induction F with
  | nil => simp at hf
  | cons g F ih =>
    rcases List.mem_cons.1 hf with rfl | hf
    · unfold endsOf; rw [if_pos hm]; simp
    · have := ih hf
      unfold endsOf
      split <;> simp [this.1, this.2]
theorem endsOf_bound (who : Int) (attr : ByteArray) (F : List S77) (x : Int) (h : x ∈ endsOf who attr F) : 0 ≤ x ∧ x ≤ 1048576 := by
  have hc : ∀ y, 0 ≤ clamp y ∧ clamp y ≤ 1048576 := fun y => by unfold clamp; rw [mx_max, mn_min]; omega
  induction F with
  | nil => simp [endsOf] at h
  | cons g F ih =>
    unfold endsOf at h
    split at h
    · rcases List.mem_cons.1 h with rfl | h
      · exact hc _
      rcases List.mem_cons.1 h with rfl | h
      · exact hc _
      · exact ih h
    · exact ih h
theorem endsOf_nil (who : Int) (attr : ByteArray) (F : List S77) (h : endsOf who attr F = []) : ∀ f ∈ F, ofw who attr f = false := by
  intro f hf
  rcases hb : ofw who attr f with _ | _
  · rfl
  · have := (endsOf_mem who attr F f hf hb).1
    rw [h] at this
    simp at this
theorem ends_l0 (who : Int) (attr : ByteArray) (known : Int) (F : List S77) (hl : F.length ≤ 1000) (r : List S52) (n : Nat) : ∀ (i : Nat) (acc : List Int), i ≤ F.length → F.length - i = n → acc.length ≤ 2 * i →
    Ev (fun k => fact_Line.l1 k F who attr known (days (acc ++ endsOf who attr (F.drop i))) [] 0) r → Ev (fun k => fact_Line.l0 k F who attr known acc F (F.length : Int) (i : Int)) r := by
  induction n with
  | zero =>
    intro i acc hi hn ha h
    obtain rfl : i = F.length := by omega
    rw [List.drop_length, endsOf, List.append_nil] at h
    refine Ev.step (fun k => ?_) h
    simp only [fact_Line.l0]
    rw [if_neg (by omega), ← Option.bind_assoc, days_of _ (by omega)]
    rfl
  | succ n ih =>
    intro i acc hi hn ha h
    have hlt : i < F.length := by omega
    rw [drop_fact F i hlt, endsOf] at h
    have hw := w64_succ hlt (by omega)
    by_cases h1 : (rd_T77 F (i : Int)).f0 = who
    · by_cases h2 : (rd_T77 F (i : Int)).f1.toList = attr.toList
      · rw [if_pos (by unfold ofw; simp [h1, h2])] at h
        refine Ev.step (fun k => ?_) (ih (i + 1) (acc ++ [clamp (rd_T77 F (i : Int)).f3, clamp (rd_T77 F (i : Int)).f4]) (by omega) (by omega) (by simp; omega) (by simpa using h))
        simp only [fact_Line.l0]
        rw [if_pos (by omega), if_pos (by omega), if_pos (by omega), if_pos h1, if_pos h2, Option.bind_some, if_pos (by simp; omega), hw]
        rfl
      · rw [if_neg (by unfold ofw; simp [h2])] at h
        refine Ev.step (fun k => ?_) (ih (i + 1) acc (by omega) (by omega) (by omega) h)
        simp only [fact_Line.l0]
        rw [if_pos (by omega), if_pos (by omega), if_pos (by omega), if_pos h1, if_neg h2, hw]
    · rw [if_neg (by unfold ofw; simp [h1])] at h
      refine Ev.step (fun k => ?_) (ih (i + 1) acc (by omega) (by omega) (by omega) h)
      simp only [fact_Line.l0]
      rw [if_pos (by omega), if_pos (by omega), if_pos (by omega), if_neg h1, hw]
theorem hit_ofw {who : Int} {attr : ByteArray} {d known : Int} {f : S77} (h : ofw who attr f = false) : hit who attr d known f = false := by unfold hit; rw [h]; rfl
/-- one day after another: what the last span says, and one more -/
theorem gro_step (who : Int) (attr : ByteArray) (known : Int) (F : List S77) (E : List Int) (out : List S52) (i : Nat) (hi : i + 1 < E.length) (hE : E.length ≤ 2000) (hl : out.length ≤ 2000) (v : Int × Int) (hv : v.1 ≠ 0) (r : List S52)
    (hat : Ev (fun k => fact_At.f k F who attr (rd E (i : Int)) known) v) (h : Ev (fun k => fact_Line.l1 k F who attr known E (gro out (rd E (i : Int)) (rd E ((i + 1 : Nat) : Int)) v.1 v.2) ((i + 1 : Nat) : Int)) r) :
    Ev (fun k => fact_Line.l1 k F who attr known E out (i : Int)) r := by
  obtain ⟨a, b⟩ := v
  have hw := w64_succ (i := i) (n := E.length) (by omega) (by omega)
  have hlw : wrap64 ((out.length : Int) - 1) = (out.length : Int) - 1 := w64 (by omega) (by omega)
  refine Ev.step (f := fun k => (fact_At.f k F who attr (rd E (i : Int)) known).bind fun bt171 => (if bt171.1 = 0 then (fact_Line.l1 k F who attr known E out ((i + 1 : Nat) : Int)) else (if (out.length : Int) - 1 ≥ 0 then (if 0 ≤ (out.length : Int) - 1 then (if (out.length : Int) - 1 < (out.length : Int) then (if ((rd_T52 out ((out.length : Int) - 1)).f1) = (rd E (i : Int)) then (fact_Line.j2 k F who attr known E out (i : Int) ((out.length : Int) - 1) (((rd_T52 out ((out.length : Int) - 1)).f2.f0) == bt171.1 && (((rd_T52 out ((out.length : Int) - 1)).f2.f1) == bt171.2)) (rd E (i : Int)) (rd E ((i + 1 : Nat) : Int)) bt171.1 bt171.2) else (fact_Line.j2 k F who attr known E out (i : Int) ((out.length : Int) - 1) false (rd E (i : Int)) (rd E ((i + 1 : Nat) : Int)) bt171.1 bt171.2)) else (none)) else (none)) else (fact_Line.j2 k F who attr known E out (i : Int) ((out.length : Int) - 1) false (rd E (i : Int)) (rd E ((i + 1 : Nat) : Int)) bt171.1 bt171.2)))) (fun k => ?_) ?_
  · simp only [fact_Line.l1, hw, hlw]
    rw [if_pos (by omega), if_pos (by omega), if_pos (by omega), if_pos (by omega)]
  refine Ev.bind hat (Ev.ifn hv ?_)
  have happ : gro out (rd E (i : Int)) (rd E ((i + 1 : Nat) : Int)) a b = out ++ [(⟨rd E (i : Int), rd E ((i + 1 : Nat) : Int), (⟨a, b⟩ : S50)⟩ : S52)] → ∀ q : Int, Ev (fun k => fact_Line.j2 k F who attr known E out (i : Int) q false (rd E (i : Int)) (rd E ((i + 1 : Nat) : Int)) a b) r := by
    intro e q
    rw [e] at h
    refine Ev.step (fun k => ?_) h
    simp only [fact_Line.j2]
    rw [if_neg (by decide), if_pos (by omega), hw]
  rcases List.eq_nil_or_concat out with rfl | ⟨l', p, rfl⟩
  · exact Ev.ifn (by decide) (happ rfl _)
  · simp only [List.concat_eq_append] at *
    have hrd : rd_T52 (l' ++ [p]) (((l' ++ [p]).length : Int) - 1) = p := by
      have e : ((l' ++ [p]).length : Int) - 1 = ((l'.length : Nat) : Int) := by simp
      rw [e]
      show (l' ++ [p]).getD l'.length z52 = p
      rw [getD_app, if_neg (by omega), if_pos rfl]
    have hlen : (0 : Int) ≤ ((l' ++ [p]).length : Int) - 1 := by simp
    refine Ev.ifp (by omega) (Ev.ifp hlen (Ev.ifp (by omega) ?_))
    rw [hrd]
    by_cases h1 : p.f1 = rd E (i : Int)
    · refine Ev.ifp h1 ?_
      by_cases h2 : p.f2.f0 = a ∧ p.f2.f1 = b
      · rw [show (p.f2.f0 == a && p.f2.f1 == b) = true from by simp [h2]]
        have e : gro (l' ++ [p]) (rd E (i : Int)) (rd E ((i + 1 : Nat) : Int)) a b = l' ++ [(⟨p.f0, rd E ((i + 1 : Nat) : Int), (⟨p.f2.f0, p.f2.f1⟩ : S50)⟩ : S52)] := by unfold gro; simp [h1, h2.1, h2.2]
        rw [e] at h
        refine Ev.step (fun k => ?_) h
        simp only [fact_Line.j2]
        rw [if_pos trivial, if_pos hlen, if_pos (by omega), hrd, hw]
        congr 1
        have e : (((l' ++ [p]).length : Int) - 1).toNat = l'.length := by simp
        rw [e]; simp
      · rw [show (p.f2.f0 == a && p.f2.f1 == b) = false from by simp only [Bool.and_eq_false_iff, beq_eq_false_iff_ne]; exact (Classical.not_and_iff_not_or_not.1 h2)]
        refine happ ?_ _
        unfold gro
        simp only [List.getLast?_append, List.getLast?_singleton, Option.some_or]
        rw [if_neg (fun hh => h2 hh.2)]
    · refine Ev.ifn h1 (happ ?_ _)
      unfold gro
      simp only [List.getLast?_append, List.getLast?_singleton, Option.some_or]
      rw [if_neg (fun hh => h1 hh.1)]
theorem gro_skip (who : Int) (attr : ByteArray) (known : Int) (F : List S77) (E : List Int) (out : List S52) (i : Nat) (hi : i + 1 < E.length) (hE : E.length ≤ 2000) (hl : out.length ≤ 2000) (b : Int) (r : List S52)
    (hat : Ev (fun k => fact_At.f k F who attr (rd E (i : Int)) known) (0, b)) (h : Ev (fun k => fact_Line.l1 k F who attr known E out ((i + 1 : Nat) : Int)) r) :
    Ev (fun k => fact_Line.l1 k F who attr known E out (i : Int)) r := by
  have hw := w64_succ (i := i) (n := E.length) (by omega) (by omega)
  have hlw : wrap64 ((out.length : Int) - 1) = (out.length : Int) - 1 := w64 (by omega) (by omega)
  refine Ev.step (f := fun k => (fact_At.f k F who attr (rd E (i : Int)) known).bind fun bt171 => (if bt171.1 = 0 then (fact_Line.l1 k F who attr known E out ((i + 1 : Nat) : Int)) else (if (out.length : Int) - 1 ≥ 0 then (if 0 ≤ (out.length : Int) - 1 then (if (out.length : Int) - 1 < (out.length : Int) then (if ((rd_T52 out ((out.length : Int) - 1)).f1) = (rd E (i : Int)) then (fact_Line.j2 k F who attr known E out (i : Int) ((out.length : Int) - 1) (((rd_T52 out ((out.length : Int) - 1)).f2.f0) == bt171.1 && (((rd_T52 out ((out.length : Int) - 1)).f2.f1) == bt171.2)) (rd E (i : Int)) (rd E ((i + 1 : Nat) : Int)) bt171.1 bt171.2) else (fact_Line.j2 k F who attr known E out (i : Int) ((out.length : Int) - 1) false (rd E (i : Int)) (rd E ((i + 1 : Nat) : Int)) bt171.1 bt171.2)) else (none)) else (none)) else (fact_Line.j2 k F who attr known E out (i : Int) ((out.length : Int) - 1) false (rd E (i : Int)) (rd E ((i + 1 : Nat) : Int)) bt171.1 bt171.2)))) (fun k => ?_) ?_
  · simp only [fact_Line.l1, hw, hlw]
    rw [if_pos (by omega), if_pos (by omega), if_pos (by omega), if_pos (by omega)]
  exact Ev.bind hat (Ev.ifp rfl h)
theorem line_l1 (who : Int) (attr : ByteArray) (known : Int) (F : List S77) (hF : ∀ f ∈ F, Good f) (hl : F.length ≤ 500) (n : Nat) : ∀ (i : Nat) (out : List S52), i < (days (endsOf who attr F)).length → (days (endsOf who attr F)).length - 1 - i = n → Valid out → out.length ≤ i → Upto out (rd (days (endsOf who attr F)) (i : Int)) → (∀ d, atv out d = if d < rd (days (endsOf who attr F)) (i : Int) then atF F who attr d known else (0, 0)) →
    ∃ r, Ev (fun k => fact_Line.l1 k F who attr known (days (endsOf who attr F)) out (i : Int)) r ∧ Valid r ∧ r.length ≤ (days (endsOf who attr F)).length ∧ ∀ d, atv r d = atF F who attr d known := by
  obtain ⟨E, hE⟩ : ∃ E, E = days (endsOf who attr F) := ⟨_, rfl⟩
  rw [← hE]
  have hEl : E.length ≤ 1000 := by have := days_len (endsOf who attr F); have := endsOf_len who attr F; rw [hE]; omega
  have hri : E.Pairwise (· < ·) := by rw [hE]; exact days_rise _
  have hin : ∀ f ∈ F, ofw who attr f = true → f.f3 ∈ E ∧ f.f4 ∈ E := by
    intro f hf hm
    have hm2 := endsOf_mem who attr F f hf hm
    have g := hF f hf
    have := g.from0; have := g.from1; have := g.to0; have := g.to1
    rw [clamp_id (by omega) (by omega), clamp_id (by omega) (by omega)] at hm2
    rw [hE, mem_days, mem_days]
    exact hm2
  have hb : ∀ x ∈ E, 0 ≤ x ∧ x ≤ 1048576 := fun x hx => by rw [hE, mem_days] at hx; exact endsOf_bound who attr F x hx
  induction n with
  | zero =>
    intro i out hi hn hv hlen hup hat
    have he : i + 1 = E.length := by omega
    refine ⟨out, Ev.step (f := fun _ => some out) (fun k => ?_) (Ev.now _), hv, by omega, fun d => ?_⟩
    · simp only [fact_Line.l1]
      rw [w64_succ hi (by omega), if_neg (by omega)]
    · rw [hat d]
      by_cases hd : d < rd E (i : Int)
      · rw [if_pos hd]
      · rw [if_neg hd, atF_none]
        intro f hf
        rcases hm : ofw who attr f with _ | _
        · exact hit_ofw hm
        · have h4 := (hin f hf hm).2
          obtain ⟨j, hj, e⟩ := mem_rd h4
          have hji : rd E (j : Int) ≤ rd E (i : Int) := by
            rcases Nat.lt_or_eq_of_le (show j ≤ i by omega) with hlt | rfl
            · exact Int.le_of_lt (rise_rd hri j i hlt hi)
            · exact Int.le_refl _
          unfold hit
          rw [show decide (d ≥ f.f4) = true from decide_eq_true (by omega)]
          simp
  | succ n ih =>
    intro i out hi hn hv hlen hup hat
    have hi1 : i + 1 < E.length := by omega
    have hlt := rise_rd hri i (i + 1) (by omega) hi1
    have hb1 := hb _ (rd_mem i hi); have hb2 := hb _ (rd_mem (i + 1) hi1)
    have hsame : ∀ d, rd E (i : Int) ≤ d → d < rd E ((i + 1 : Nat) : Int) → atF F who attr d known = atF F who attr (rd E (i : Int)) known := by
      intro d h1 h2
      refine atF_congr F who attr _ _ _ _ (fun f hf => ?_)
      rcases hm : ofw who attr f with _ | _
      · rw [hit_ofw hm, hit_ofw hm]
      · obtain ⟨m3, m4⟩ := hin f hf hm
        have g3 := days_gap hri i hi1 _ m3
        have g4 := days_gap hri i hi1 _ m4
        unfold hit
        rw [hm, show decide (d < f.f3) = decide (rd E (i : Int) < f.f3) from by apply decide_eq_decide.2; omega, show decide (d ≥ f.f4) = decide (rd E (i : Int) ≥ f.f4) from by apply decide_eq_decide.2; omega]
    have hA := factAt_of F who attr (rd E (i : Int)) known (by omega)
    rcases hv0 : atF F who attr (rd E (i : Int)) known with ⟨a, b⟩
    rw [hv0] at hA hsame
    have hok := atF_val F hF who attr (rd E (i : Int)) known
    rw [hv0] at hok
    by_cases ha : a = 0
    · have hz : a = 0 ∧ b = 0 := by
        rcases hok with h | h
        · simpa using h
        · have := h.1; simp at this; omega
      obtain ⟨rfl, rfl⟩ := hz
      obtain ⟨r, hr, h⟩ := ih (i + 1) out hi1 (by omega) hv (by omega) (hup.mono (by omega)) (fun d => by
        rw [hat d]
        by_cases h1 : d < rd E (i : Int)
        · rw [if_pos h1, if_pos (by omega)]
        · rw [if_neg h1]
          by_cases h2 : d < rd E ((i + 1 : Nat) : Int)
          · rw [if_pos h2, hsame d (by omega) h2]
          · rw [if_neg h2])
      exact ⟨r, gro_skip who attr known F E out i hi1 (by omega) (by omega) _ r hA hr, h⟩
    · have hab : a = 5 ∧ 0 ≤ b ∧ b < 4 := by
        rcases hok with h | h
        · simp at h; omega
        · exact h
      obtain ⟨g1, g2, g3, g4⟩ := gro_of out (rd E (i : Int)) (rd E ((i + 1 : Nat) : Int)) a b hv ⟨hb1.1, hlt, hb2.2, hab.1, by show -1048576 ≤ b; omega, by show b ≤ 1048576; omega⟩ hup
      obtain ⟨r, hr, h⟩ := ih (i + 1) _ hi1 (by omega) g1 (by omega) (g4 _ (hup.mono (by omega)) (by omega)) (fun d => by
        rw [g3 d, hat d]
        by_cases h1 : d < rd E (i : Int)
        · rw [if_neg (c := _ ∧ _) (by omega), if_pos h1, if_pos (by omega)]
        · by_cases h2 : d < rd E ((i + 1 : Nat) : Int)
          · rw [if_pos (c := _ ∧ _) (by omega), if_pos h2, hsame d (by omega) h2]
          · rw [if_neg (c := _ ∧ _) (by omega), if_neg h1, if_neg h2])
      exact ⟨r, gro_step who attr known F E out i hi1 (by omega) (by omega) (a, b) ha r hA hr, h⟩
theorem name_of {s : ByteArray} (h : s = tA ∨ s = tB) : fact_Name.f s = some true := by
  rcases h with rfl | rfl <;> decide
theorem one_of (a : Int) (s : ByteArray) (v w d e x : Int) (ha : ¬ a < 0) (hs : s = tA ∨ s = tB) (hv : (v = 0 ∧ w = 0) ∨ (v = 5 ∧ 0 ≤ w ∧ w ≤ 1000)) (hd : 0 ≤ d) (hde : d < e) (he : e ≤ 1000) (hx : 0 ≤ x) (hx1 : x ≤ 1000) : Ev (fun k => fact_One.f k a s v w d e x) 0 := by
  have hu : unit_Check.f v w = some 0 := by
    rcases hv with ⟨rfl, rfl⟩ | ⟨rfl, h2, h3⟩
    · decide
    · exact ucheck_of w (by omega) (by omega)
  simp only [fact_One.f]
  rw [name_of hs, hu]
  simp only [Option.bind_some]
  refine Ev.ifn ha (Ev.ifp trivial (Ev.ifp trivial (Ev.ifn (by omega) (Ev.ifn (by omega) ?_))))
  refine Ev.step (f := fun _ => some 0) (fun k => ?_) (Ev.now _)
  simp only [fact_One.j0]
  rw [if_neg (by simp; omega), if_neg (by omega), if_neg (by omega)]
theorem Good.one {f : S77} (h : Good f) : Ev (fun k => fact_One.f k f.f0 f.f1 f.f2.f0 f.f2.f1 f.f3 f.f4 f.f5) 0 := by
  have := h.from0; have := h.from1; have := h.to0; have := h.to1; have := h.known0; have := h.known1
  refine one_of _ _ _ _ _ _ _ (by have := h.who; omega) h.attr ?_ (by omega) (by omega) (by omega) (by omega) (by omega)
  rcases h.val with h1 | ⟨h1, h2, h3⟩
  · exact .inl h1
  · exact .inr ⟨h1, h2, by omega⟩
theorem told_of : Ev (fun k => mootkeep1_told.f k) true := by
  simp only [mootkeep1_told.f]
  refine Ev.bind (one_of 1 tA 5 4 5 6 0 (by omega) (.inl rfl) (.inr ⟨rfl, by omega, by omega⟩) (by omega) (by omega) (by omega) (by omega) (by omega)) (Ev.ifp rfl ?_)
  refine Ev.bind (factAt_of _ 1 tA 5 0 (by simp)) ?_
  exact Ev.to (by simp [atF, hit, ofw, ste, fin, tA])
/-- one day after another, with the values alone -/
def lin (A : Int → Int × Int) (E : List Int) : Nat → List S52 → Nat → List S52
  | 0, out, _ => out
  | n + 1, out, i => lin A E n (if (A (rd E (i : Int))).1 = 0 then out else gro out (rd E (i : Int)) (rd E ((i + 1 : Nat) : Int)) (A (rd E (i : Int))).1 (A (rd E (i : Int))).2) (i + 1)
theorem gro_len (l : List S52) (f t kd n : Int) : (gro l f t kd n).length ≤ l.length + 1 := by
  unfold gro
  rcases List.eq_nil_or_concat l with rfl | ⟨l', p, rfl⟩
  · simp
  · simp only [List.concat_eq_append, List.getLast?_append, List.getLast?_singleton, Option.some_or]
    split <;> simp
theorem lin_l1 (who : Int) (attr : ByteArray) (known : Int) (F : List S77) (hl : F.length ≤ 500) (E : List Int) (hE : E.length ≤ 1000) (n : Nat) : ∀ (i : Nat) (out : List S52), i < E.length → E.length - 1 - i = n → out.length ≤ i →
    Ev (fun k => fact_Line.l1 k F who attr known E out (i : Int)) (lin (fun d => atF F who attr d known) E n out i) := by
  induction n with
  | zero =>
    intro i out hi hn hlen
    refine Ev.step (f := fun _ => some out) (fun k => ?_) (Ev.now _)
    simp only [fact_Line.l1]
    rw [w64_succ hi (by omega), if_neg (by omega)]
  | succ n ih =>
    intro i out hi hn hlen
    have hi1 : i + 1 < E.length := by omega
    have hA := factAt_of F who attr (rd E (i : Int)) known (by omega)
    obtain ⟨v, hv⟩ : ∃ v, v = atF F who attr (rd E (i : Int)) known := ⟨_, rfl⟩
    simp only [lin, ← hv]
    rw [← hv] at hA
    obtain ⟨a, b⟩ := v
    by_cases ha : a = 0
    · subst ha
      rw [if_pos rfl]
      exact gro_skip who attr known F E out i hi1 (by omega) (by omega) _ _ hA (ih (i + 1) out hi1 (by omega) (by omega))
    · rw [if_neg ha]
      have hgl := gro_len out (rd E (i : Int)) (rd E ((i + 1 : Nat) : Int)) a b
      exact gro_step who attr known F E out i hi1 (by omega) (by omega) (a, b) ha _ hA (ih (i + 1) (gro out (rd E (i : Int)) (rd E ((i + 1 : Nat) : Int)) a b) hi1 (by omega) (by omega))
theorem line_lin (who : Int) (attr : ByteArray) (known : Int) (F : List S77) (hl : F.length ≤ 500) : Ev (fun k => fact_Line.f k F who attr known) (lin (fun d => atF F who attr d known) (days (endsOf who attr F)) ((days (endsOf who attr F)).length - 1) [] 0) := by
  have hlen := days_len (endsOf who attr F)
  have hlen2 := endsOf_len who attr F
  simp only [fact_Line.f]
  refine ends_l0 who attr known F (by omega) _ _ 0 [] (by omega) rfl (by simp) ?_
  rw [List.drop_zero, List.nil_append]
  obtain ⟨E, hE⟩ : ∃ E, E = days (endsOf who attr F) := ⟨_, rfl⟩
  rw [← hE] at hlen ⊢
  by_cases h0 : E.length = 0
  · rw [h0]
    refine Ev.step (f := fun _ => some []) (fun k => ?_) (Ev.now _)
    simp only [fact_Line.l1]
    rw [show wrap64 ((0 : Int) + 1) = 1 from by rw [w64 (by omega) (by omega)]; rfl, if_neg (by omega)]
  · exact lin_l1 who attr known F hl E (by omega) _ 0 [] (by omega) rfl (by simp)
theorem lin_len (A : Int → Int × Int) (E : List Int) (n : Nat) : ∀ (out : List S52) (i : Nat), (lin A E n out i).length ≤ out.length + n := by
  induction n with
  | zero => intro out i; simp [lin]
  | succ n ih =>
    intro out i
    simp only [lin]
    refine Nat.le_trans (ih _ _) ?_
    split
    · omega
    · have := gro_len out (rd E (i : Int)) (rd E ((i + 1 : Nat) : Int)) (A (rd E (i : Int))).1 (A (rd E (i : Int))).2
      omega
/-- the last day of knowledge among the facts that have the day tells the value -/
def Best (h : S77 → Bool) (P : List S77) (s : Int × Bool × Int × Int) : Prop :=
  (s = (0, false, 0, 0) ∧ ∀ g ∈ P, h g = false) ∨ ∃ f ∈ P, h f = true ∧ s = (f.f5, true, f.f2.f0, f.f2.f1) ∧ ∀ g ∈ P, h g = true → g.f5 ≤ f.f5
theorem best_fold (h : S77 → Bool) (F : List S77) : ∀ (P : List S77) (s : Int × Bool × Int × Int), Best h P s → Best h (P ++ F) (F.foldl (ste h) s) := by
  induction F with
  | nil => intro P s hs; simpa using hs
  | cons x F ih =>
    intro P s hs
    rw [List.foldl_cons, show P ++ x :: F = (P ++ [x]) ++ F by simp]
    refine ih _ _ ?_
    unfold ste
    by_cases hx : h x = true
    · rw [if_pos hx]
      rcases hs with ⟨rfl, hn⟩ | ⟨f, hf, hh, rfl, hm⟩
      · rw [if_neg (by simp)]
        refine .inr ⟨x, by simp, hx, rfl, fun g hg hg1 => ?_⟩
        rcases List.mem_append.1 hg with hg | hg
        · rw [hn g hg] at hg1; cases hg1
        · rw [List.mem_singleton.1 hg]; exact Int.le_refl _
      · by_cases hlt : x.f5 < f.f5
        · rw [if_pos ⟨rfl, hlt⟩]
          refine .inr ⟨f, by simp [hf], hh, rfl, fun g hg hg1 => ?_⟩
          rcases List.mem_append.1 hg with hg | hg
          · exact hm g hg hg1
          · rw [List.mem_singleton.1 hg]; exact Int.le_of_lt hlt
        · rw [if_neg (fun hh => hlt hh.2)]
          refine .inr ⟨x, by simp, hx, rfl, fun g hg hg1 => ?_⟩
          rcases List.mem_append.1 hg with hg | hg
          · exact Int.le_trans (hm g hg hg1) (by omega)
          · rw [List.mem_singleton.1 hg]; exact Int.le_refl _
    · rw [if_neg hx]
      have hx' : h x = false := by simpa using hx
      rcases hs with ⟨rfl, hn⟩ | ⟨f, hf, hh, rfl, hm⟩
      · refine .inl ⟨rfl, fun g hg => ?_⟩
        rcases List.mem_append.1 hg with hg | hg
        · exact hn g hg
        · rw [List.mem_singleton.1 hg]; exact hx'
      · refine .inr ⟨f, by simp [hf], hh, rfl, fun g hg hg1 => ?_⟩
        rcases List.mem_append.1 hg with hg | hg
        · exact hm g hg hg1
        · rw [List.mem_singleton.1 hg] at hg1; rw [hx'] at hg1; cases hg1
theorem inj_of_apart {F : List S77} (hp : F.Pairwise (fun f g => f.f5 ≠ g.f5)) : ∀ f ∈ F, ∀ g ∈ F, f.f5 = g.f5 → f = g := by
  induction F with
  | nil => intro f hf; simp at hf
  | cons x F ih =>
    rw [List.pairwise_cons] at hp
    intro f hf g hg e
    rcases List.mem_cons.1 hf with h1 | h1 <;> rcases List.mem_cons.1 hg with h2 | h2
    · rw [h1, h2]
    · exact absurd (h1 ▸ e) (hp.1 g h2)
    · exact absurd (h2 ▸ e.symm) (hp.1 f h1)
    · exact ih hp.2 f h1 g h2 e
theorem atF_turned (F : List S77) (hp : F.Pairwise (fun f g => f.f5 ≠ g.f5)) (who : Int) (attr : ByteArray) (d known : Int) : atF F.reverse who attr d known = atF F who attr d known := by
  have h1 := best_fold (hit who attr d known) F [] (0, false, 0, 0) (.inl ⟨rfl, fun g hg => by simp at hg⟩)
  have h2 := best_fold (hit who attr d known) F.reverse [] (0, false, 0, 0) (.inl ⟨rfl, fun g hg => by simp at hg⟩)
  rw [List.nil_append] at h1 h2
  unfold atF
  congr 1
  rcases h1 with ⟨e1, n1⟩ | ⟨f, hf, hh, e1, m1⟩ <;> rcases h2 with ⟨e2, n2⟩ | ⟨g, hg, gh, e2, m2⟩
  · rw [e1, e2]
  · rw [n1 g (List.mem_reverse.1 hg)] at gh; cases gh
  · rw [n2 f (List.mem_reverse.2 hf)] at hh; cases hh
  · have a := m1 g (List.mem_reverse.1 hg) gh
    have b := m2 f (List.mem_reverse.2 hf) hh
    obtain rfl := inj_of_apart hp f hf g (List.mem_reverse.1 hg) (by omega)
    rw [e1, e2]
theorem endsOf_append (who : Int) (attr : ByteArray) (A B : List S77) : endsOf who attr (A ++ B) = endsOf who attr A ++ endsOf who attr B := by
  induction A with
  | nil => rfl
  | cons f A ih =>
    simp only [List.cons_append, endsOf]
    split
    · rw [ih]; rfl
    · exact ih
theorem endsOf_turned (who : Int) (attr : ByteArray) (F : List S77) : (endsOf who attr F.reverse).Perm (endsOf who attr F) := by
  induction F with
  | nil => exact List.Perm.refl _
  | cons f F ih =>
    rw [List.reverse_cons, endsOf_append, show f :: F = [f] ++ F from rfl, endsOf_append]
    exact List.perm_append_comm.trans (List.Perm.append_left _ ih)
theorem days_perm {l m : List Int} (h : l.Perm m) : days l = days m := by
  unfold days
  congr 1
  have srt : ∀ k : List Int, (k.mergeSort fun x y => decide (x ≤ y)).Pairwise (fun x y => x ≤ y) := fun k =>
    (List.pairwise_mergeSort (le := fun x y : Int => decide (x ≤ y)) (fun a b c h1 h2 => by simp at *; omega) (fun a b => by simp; omega) k).imp (fun h => by simpa using h)
  exact List.Perm.eq_of_pairwise (le := fun x y : Int => x ≤ y) (fun a b _ _ h1 h2 => Int.le_antisymm h1 h2) (srt l) (srt m) ((List.mergeSort_perm l _).trans (h.trans (List.mergeSort_perm m _).symm))
theorem spans_same (x : List S52) (hl : x.length ≤ 100000) : Ev (fun k => fact_Span.f k x x) true := by
  have h : ∀ (n i : Nat), i ≤ x.length → x.length - i = n → Ev (fun k => fact_Span.l0 k x x (x.length : Int) (i : Int)) true := by
    intro n
    induction n with
    | zero =>
      intro i hi hn
      exact Ev.step (fun k => by rw [fact_Span.l0]) (Ev.ifn (by omega) (Ev.now _))
    | succ n ih =>
      intro i hi hn
      refine Ev.step (fun k => by rw [fact_Span.l0]) (Ev.ifp (by omega) (Ev.ifp (by omega) (Ev.ifp (by omega) (Ev.ifp (by omega) (Ev.ifn (by simp) ?_)))))
      rw [w64_succ (i := i) (n := x.length) (by omega) (by omega)]
      exact ih (i + 1) (by omega) (by omega)
  simp only [fact_Span.f]
  exact Ev.ifp trivial (h _ 0 (by omega) rfl)
theorem turned_l0 (F : List S77) (hl : F.length ≤ 11) (hg : ∀ f ∈ F, Good f ∧ f.f5 < 20) (a1 a2 : Int) (n : Nat) : ∀ (i : Nat) (A : List S77), i ≤ F.length → F.length - i = n → A.length ≤ i → A.Pairwise (fun f g => f.f5 ≠ g.f5) →
    Ev (fun k => mootkeep1_FactTurned.l0 k a1 a2 A A.reverse F (F.length : Int) (i : Int)) true := by
  induction n with
  | zero =>
    intro i A hi hn hA hp
    have r1 := below_range a1 100 (by omega)
    have r2 := below_range a2 22 (by omega)
    refine Ev.step (fun k => by rw [mootkeep1_FactTurned.l0]) (Ev.ifn (by omega) ?_)
    rw [below_of _ _ (by omega) (by omega), below_of _ _ (by omega) (by omega)]
    simp only [Option.bind_some]
    have hlin := line_lin 0 tB (a2 % 22) A (by omega)
    have hlin2 := line_lin 0 tB (a2 % 22) A.reverse (by simp; omega)
    rw [days_perm (endsOf_turned 0 tB A), show (fun d => atF A.reverse 0 tB d (a2 % 22)) = (fun d => atF A 0 tB d (a2 % 22)) from funext fun d => atF_turned A hp _ _ _ _] at hlin2
    have hlen := lin_len (fun d => atF A 0 tB d (a2 % 22)) (days (endsOf 0 tB A)) ((days (endsOf 0 tB A)).length - 1) [] 0
    have h1 := days_len (endsOf 0 tB A)
    have h2 := endsOf_len 0 tB A
    refine Ev.bind told_of (Ev.ifp rfl (Ev.bind (factAt_of A 1 tA (a1 % 100) (a2 % 22) (by omega)) (Ev.bind (factAt_of A.reverse 1 tA (a1 % 100) (a2 % 22) (by simp; omega)) (Ev.ifp ?_ (Ev.bind hlin (Ev.bind hlin2 (Ev.bind (spans_same _ (by simp at hlen; omega)) (Ev.now _))))))))
    rw [atF_turned A hp]
    simp
  | succ n ih =>
    intro i A hi hn hA hp
    have hlt : i < F.length := by omega
    have hf := hg (rd_T77 F (i : Int)) (by
      have : rd_T77 F (i : Int) = F.getD i z77 := rfl
      rw [this, List.getD_eq_getElem?_getD, List.getElem?_eq_getElem hlt]
      simp)
    obtain ⟨x, hx⟩ : ∃ x, x = rd_T77 F (i : Int) := ⟨_, rfl⟩
    rw [← hx] at hf
    have k0 := hf.1.known0
    have k1 := hf.2
    refine Ev.step (fun k => by rw [mootkeep1_FactTurned.l0]) (Ev.ifp (by omega) (Ev.ifp (by omega) (Ev.ifp (by omega) ?_)))
    rw [← hx]
    refine Ev.ifp (by omega) ?_
    rw [w64_succ hlt (by omega)]
    by_cases hs : (A.any fun y_ => y_.f5 == x.f5) = true
    · exact Ev.ifp hs (ih (i + 1) A (by omega) (by omega) (by omega) hp)
    · refine Ev.ifn hs ?_
      have hin : slices_Insert.one.f A.reverse 0 [x] = some ([x] ++ A.reverse, [x]) := by
        unfold slices_Insert.one.f
        rw [if_pos ⟨rfl, rfl, by simp; omega⟩]
      have hne : ∀ y ∈ A, y.f5 ≠ x.f5 := fun y hy e => hs (List.any_eq_true.2 ⟨y, hy, by simpa using e⟩)
      have h := ih (i + 1) (A ++ [x]) (by omega) (by omega) (by simp; omega) (by
        rw [List.pairwise_append]
        exact ⟨hp, by simp, fun y hy z hz => by rw [List.mem_singleton.1 hz]; exact hne y hy⟩)
      rw [List.reverse_append] at h
      show Ev (fun k => (some [x]).bind fun y175 => (if A.length + y175.length < 2199023255552 then ((slices_Insert.one.f A.reverse 0 [x]).bind fun bt184 => (mootkeep1_FactTurned.l0 k a1 a2 (A ++ y175) bt184.1 F (F.length : Int) ((i + 1 : Nat) : Int))) else none)) true
      rw [hin]
      simp only [Option.bind_some]
      exact Ev.ifp (by simp; omega) h
theorem FactTurned : mootkeep1_FactTurned.Pure := by
  intro l a1 a2 _ _ _ _ _
  obtain ⟨F, hF, hl, hg⟩ := facts_of l
  refine Ev.rounds (g := fun k => mootkeep1_FactTurned.f k l a1 a2) ?_
  simp only [mootkeep1_FactTurned.f]
  exact Ev.bind hF (turned_l0 F hl hg a1 a2 _ 0 [] (by omega) rfl (by simp) List.Pairwise.nil)
end Go.Proofs.Ythedaldmhjocdaa.Pure
