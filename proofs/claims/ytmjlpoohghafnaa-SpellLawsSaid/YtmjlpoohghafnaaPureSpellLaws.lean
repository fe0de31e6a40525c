/-
Sets obey the laws of De Morgan and distribute, for every three lists.
-/
import Derived.Test.YtmjlpoohghafnaaPSpellLawsx4
set_option linter.unusedVariables false
set_option linter.unusedSimpArgs false
namespace Go.Proofs.Ytmjlpoohghafnaa.Pure
open Go.RowKit Go.Proofs.Ytmjlpoohghafnaa.PSpellLaws Go.Proofs.YtmjlpoohghafnaaW.PrintWords Go.Proofs.YtmjlpoohghafnaaW.PrintLast
/-- numbers that need no wrap -/
theorem w64 {x : Int} (h1 : -9223372036854775808 ≤ x) (h2 : x ≤ 9223372036854775807) : wrap64 x = x := by unfold wrap64; omega
theorem tdivnn {a b : Int} (h : 0 ≤ a) : Int.tdiv a b = a / b := Int.tdiv_eq_ediv_of_nonneg h
theorem tmodnn {a b : Int} (h : 0 ≤ a) : Int.tmod a b = a % b := Int.tmod_eq_emod_of_nonneg h
theorem Ev.ifp {α : Type} {c : Prop} [Decidable c] {a b : Nat → Option α} {r : α} (h : c) (k : Ev a r) : Ev (fun n => if c then a n else b n) r := Ev.congr (fun n => by rw [if_pos h]) k
theorem Ev.ifn {α : Type} {c : Prop} [Decidable c] {a b : Nat → Option α} {r : α} (h : ¬ c) (k : Ev b r) : Ev (fun n => if c then a n else b n) r := Ev.congr (fun n => by rw [if_neg h]) k
theorem Ev.to {α : Type} {a b : α} (h : a = b) : Ev (fun _ => some a) b := h ▸ Ev.now a
theorem below_of (x n : Int) (h0 : 0 < n) (h1 : n ≤ 4611686018427387904) : mootmake_Below.f x n = some (x % n) := by
  have hr := Int.emod_nonneg x (show n ≠ 0 by omega)
  have hl := Int.emod_lt_of_pos x h0
  unfold mootmake_Below.f
  rw [if_neg (by omega), Int.tmod_eq_emod]
  by_cases h : 0 ≤ x ∨ n ∣ x
  · rw [if_pos h, show x % n - ((0 : Nat) : Int) = x % n from by omega, if_neg (by omega)]
  · have h3 : x % n ≠ 0 := fun e => h (.inr (Int.dvd_of_emod_eq_zero e))
    rw [if_neg h, if_pos (by omega), w64 (by omega) (by omega)]
    congr 1; omega
theorem below_range (x n : Int) (h0 : 0 < n) : 0 ≤ x % n ∧ x % n < n := ⟨Int.emod_nonneg x (by omega), Int.emod_lt_of_pos x h0⟩
theorem drop_rd (l : List Int) (i : Nat) (h : i < l.length) : l.drop i = rd l (i : Int) :: l.drop (i + 1) := by
  rw [List.drop_eq_getElem_cons h]
  unfold rd
  simp [List.getD, h]
theorem w64_succ {i n : Nat} (h : i < n) (hn : n ≤ 9223372036854775807) : wrap64 ((i : Int) + 1) = ((i + 1 : Nat) : Int) := by
  rw [w64 (by omega) (by omega)]; omega
theorem next_of (l : List Int) (n : Int) (h0 : 0 < n) (h1 : n ≤ 4611686018427387904) : ∃ v l', mootmake_Stream_Next.f l n = some (v, l') ∧ 0 ≤ v ∧ v < n := by
  unfold mootmake_Stream_Next.f
  rw [if_neg (by omega)]
  by_cases h : l = []
  · rw [if_pos h]; exact ⟨0, l, rfl, by omega, h0⟩
  · rw [if_neg h, below_of _ _ h0 h1]
    have := below_range (rd l 0) n h0
    exact ⟨_, _, rfl, this.1, this.2⟩
/-! #### sets of days -/
def spM : Int := 1048576
def spHas (l : List S35) (d : Int) : Prop := ∃ s ∈ l, s.f0 ≤ d ∧ d < s.f1
/-- normal form: within [lo, M], in order, with a day between two -/
def NF (M : Int) : Int → List S35 → Prop
  | _, [] => True
  | lo, s :: t => lo ≤ s.f0 ∧ s.f0 < s.f1 ∧ s.f1 ≤ M ∧ NF M (s.f1 + 1) t
theorem spHas_nil (d : Int) : ¬ spHas [] d := by rintro ⟨s, h, _⟩; simp at h
theorem spHas_cons (s : S35) (t : List S35) (d : Int) : spHas (s :: t) d ↔ (s.f0 ≤ d ∧ d < s.f1) ∨ spHas t d := by
  unfold spHas
  constructor
  · rintro ⟨x, h, h1, h2⟩
    rcases List.mem_cons.1 h with rfl | h
    · exact .inl ⟨h1, h2⟩
    · exact .inr ⟨x, h, h1, h2⟩
  · rintro (⟨h1, h2⟩ | ⟨x, h, h1, h2⟩)
    · exact ⟨s, List.mem_cons_self .., h1, h2⟩
    · exact ⟨x, List.mem_cons_of_mem _ h, h1, h2⟩
theorem spHas_append (a b : List S35) (d : Int) : spHas (a ++ b) d ↔ spHas a d ∨ spHas b d := by
  induction a with
  | nil => simp [spHas_nil]
  | cons s t ih => rw [List.cons_append, spHas_cons, spHas_cons, ih, or_assoc]
theorem NF.low {M : Int} : ∀ {l : List S35} {lo d : Int}, NF M lo l → spHas l d → lo ≤ d ∧ d < M
  | [], _, _, _, h => absurd h (spHas_nil _)
  | s :: t, lo, d, ⟨h1, h2, h3, h4⟩, h => by
    rcases (spHas_cons s t d).1 h with h | h
    · omega
    · have := NF.low h4 h; omega
theorem NF.weaken {M lo lo' : Int} {l : List S35} (h : NF M lo l) (hl : lo' ≤ lo) : NF M lo' l := by
  cases l with
  | nil => trivial
  | cons s t => exact ⟨by have := h.1; omega, h.2⟩
theorem NF.tighten {M M' : Int} : ∀ {l : List S35} {lo : Int}, NF M lo l → (∀ d, spHas l d → d < M') → NF M' lo l
  | [], _, _, _ => trivial
  | s :: t, lo, ⟨h1, h2, h3, h4⟩, h => ⟨h1, h2, by have := h (s.f1 - 1) ((spHas_cons ..).2 (.inl (by omega))); omega, NF.tighten h4 (fun d hd => h d ((spHas_cons ..).2 (.inr hd)))⟩
theorem NF.unique {M : Int} : ∀ {a b : List S35} {lo : Int}, NF M lo a → NF M lo b → (∀ d, spHas a d ↔ spHas b d) → a = b
  | [], [], _, _, _, _ => rfl
  | [], u :: v, _, _, hb, h => absurd ((h u.f0).2 ((spHas_cons ..).2 (.inl (by have := hb.2.1; omega)))) (spHas_nil _)
  | s :: t, [], _, ha, _, h => absurd ((h s.f0).1 ((spHas_cons ..).2 (.inl (by have := ha.2.1; omega)))) (spHas_nil _)
  | s :: t, u :: v, lo, ha, hb, h => by
    obtain ⟨a1, a2, a3, a4⟩ := ha
    obtain ⟨b1, b2, b3, b4⟩ := hb
    have lowA : ∀ d, spHas t d → s.f1 + 1 ≤ d := fun d hd => (NF.low a4 hd).1
    have lowB : ∀ d, spHas v d → u.f1 + 1 ≤ d := fun d hd => (NF.low b4 hd).1
    have toB : ∀ d, spHas (s :: t) d → (u.f0 ≤ d ∧ d < u.f1) ∨ u.f1 + 1 ≤ d := fun d hd => ((spHas_cons u v d).1 ((h d).1 hd)).imp id (lowB d)
    have toA : ∀ d, spHas (u :: v) d → (s.f0 ≤ d ∧ d < s.f1) ∨ s.f1 + 1 ≤ d := fun d hd => ((spHas_cons s t d).1 ((h d).2 hd)).imp id (lowA d)
    have inA : ∀ d, s.f0 ≤ d → d < s.f1 → spHas (s :: t) d := fun d p q => (spHas_cons ..).2 (.inl ⟨p, q⟩)
    have inB : ∀ d, u.f0 ≤ d → d < u.f1 → spHas (u :: v) d := fun d p q => (spHas_cons ..).2 (.inl ⟨p, q⟩)
    have e0 : s.f0 = u.f0 := by
      have x := toB s.f0 (inA _ (by omega) (by omega))
      have y := toA u.f0 (inB _ (by omega) (by omega))
      omega
    have e1 : s.f1 = u.f1 := by
      rcases Int.lt_trichotomy s.f1 u.f1 with g | g | g
      · have y := toA s.f1 (inB _ (by omega) (by omega)); omega
      · exact g
      · have y := toB u.f1 (inA _ (by omega) (by omega)); omega
    have e : s = u := by cases s; cases u; simp_all
    subst e
    congr 1
    refine NF.unique (lo := s.f1 + 1) a4 b4 fun d => ⟨fun hd => ?_, fun hd => ?_⟩
    · have l1 := lowA d hd
      rcases (spHas_cons s v d).1 ((h d).1 ((spHas_cons ..).2 (.inr hd))) with g | g
      · omega
      · exact g
    · have l1 := lowB d hd
      rcases (spHas_cons s t d).1 ((h d).2 ((spHas_cons ..).2 (.inr hd))) with g | g
      · omega
      · exact g
/-- the days of a raw list: each spell within all dates -/
def spFit (s : S35) : S35 := ⟨spell_fit.lm s.f0, spell_fit.lm s.f1⟩
theorem lm_range (n : Int) : 0 ≤ spell_fit.lm n ∧ spell_fit.lm n ≤ 1048576 := by unfold spell_fit.lm mx mn; repeat' split <;> omega
theorem lm_id {n : Int} (h0 : 0 ≤ n) (h1 : n ≤ 1048576) : spell_fit.lm n = n := by unfold spell_fit.lm mx mn; repeat' split <;> omega
theorem lm_lt {n d : Int} (h0 : 0 ≤ d) : d < spell_fit.lm n ↔ d < n ∧ d < 1048576 := by unfold spell_fit.lm mx mn; repeat' split <;> omega
theorem lm_le {n d : Int} (h1 : d < 1048576) : spell_fit.lm n ≤ d ↔ n ≤ d ∧ 0 ≤ d := by unfold spell_fit.lm mx mn; repeat' split <;> omega
def spGood (s : S35) : Bool := decide (s.f0 < s.f1)
def spAll (l : List S35) : List S35 := (l.map spFit).filter spGood
/-- the days that a list has within all dates -/
theorem spAll_has (l : List S35) (d : Int) : spHas (spAll l) d ↔ spHas l d ∧ 0 ≤ d ∧ d < 1048576 := by
  unfold spHas spAll
  constructor
  · rintro ⟨s, h, h1, h2⟩
    obtain ⟨h3, _⟩ := List.mem_filter.1 h
    obtain ⟨x, hx, rfl⟩ := List.mem_map.1 h3
    simp only [spFit] at h1 h2
    have r0 := lm_range x.f0
    have r1 := lm_range x.f1
    have := (lm_lt (n := x.f1) (d := d) (by omega)).1 h2
    have := (lm_le (n := x.f0) (d := d) (by omega)).1 h1
    exact ⟨⟨x, hx, by omega, by omega⟩, by omega, by omega⟩
  · rintro ⟨⟨x, hx, h1, h2⟩, h3, h4⟩
    have a := (lm_lt (n := x.f1) (d := d) h3).2 ⟨h2, h4⟩
    have b := (lm_le (n := x.f0) (d := d) h4).2 ⟨h1, h3⟩
    exact ⟨spFit x, List.mem_filter.2 ⟨List.mem_map.2 ⟨x, hx, rfl⟩, by simp only [spGood, spFit]; exact decide_eq_true (by omega)⟩, b, a⟩
theorem spAll_range {l : List S35} {s : S35} (h : s ∈ spAll l) : 0 ≤ s.f0 ∧ s.f0 < s.f1 ∧ s.f1 ≤ 1048576 := by
  obtain ⟨h3, h4⟩ := List.mem_filter.1 h
  obtain ⟨x, hx, rfl⟩ := List.mem_map.1 h3
  have r0 := lm_range x.f0
  have r1 := lm_range x.f1
  have := of_decide_eq_true h4
  simp only [spFit] at *
  omega
theorem spAll_length (l : List S35) : (spAll l).length ≤ l.length := by
  unfold spAll
  exact Nat.le_trans (List.length_filter_le _ _) (by simp)
/-- the sort -/
theorem spSort_of (l : List S35) (hl : l.length ≤ 1000000) (hr : ∀ s ∈ l, 0 ≤ s.f0 ∧ s.f0 ≤ 1048576) : ∃ r, spell_Sort.f l = some r ∧ r.length = l.length ∧ (∀ s, s ∈ r ↔ s ∈ l) ∧ r.Pairwise (fun a b => a.f0 ≤ b.f0) := by
  have hlm : ∀ s ∈ l, spell_Sort.lm s.f0 = s.f0 := fun s hs => lm_id (hr s hs).1 (hr s hs).2
  unfold spell_Sort.f
  by_cases h0 : l.length = 0
  · rw [if_pos h0]
    have : l = [] := List.length_eq_zero_iff.1 h0
    subst this
    exact ⟨[], rfl, rfl, fun _ => Iff.rfl, List.Pairwise.nil⟩
  · rw [if_neg h0, if_pos ⟨hl, List.all_eq_true.2 fun s hs => decide_eq_true (hlm s hs)⟩]
    have swo : Sort.SWO (ltOf spell_Sort.cf) := ⟨fun x => by unfold ltOf spell_Sort.cf; simp, fun x y z h1 h2 => by unfold ltOf spell_Sort.cf at *; simp at *; omega, fun x y z h1 h2 => by unfold ltOf spell_Sort.cf at *; simp at *; omega⟩
    have hp := Sort.pdq_sorts (ltOf spell_Sort.cf) swo l.toArray 0 l.toArray.size (Lib.bitLen l.toArray.size) true true (Nat.zero_le _) (Nat.le_refl _) (Or.inl rfl)
    refine ⟨_, rfl, ?_⟩
    unfold spell_Sort.srt
    rw [show l.length = l.toArray.size from rfl]
    obtain ⟨d, hd⟩ : ∃ d, d = Sort.pdq (ltOf spell_Sort.cf) l.toArray 0 l.toArray.size (Lib.bitLen l.toArray.size) true true := ⟨_, rfl⟩
    rw [← hd] at hp ⊢
    obtain ⟨⟨hsz, _, hperm⟩, hs⟩ := hp
    have e1 : (d.extract 0 l.toArray.size) = d := by rw [← hsz]; simp
    have e2 : (l.toArray.extract 0 l.toArray.size) = l.toArray := by simp
    rw [e1, e2] at hperm
    have hpl : d.toList.Perm l := hperm
    have hm : d.toList.map spell_Sort.nz = d.toList := by
      rw [List.map_congr_left (g := id) (fun s hs => ?_), List.map_id]
      show spell_Sort.nz s = s
      unfold spell_Sort.nz
      rw [hlm s (hpl.mem_iff.1 hs)]
    rw [hm]
    refine ⟨hpl.length_eq, fun s => hpl.mem_iff, ?_⟩
    rw [List.pairwise_iff_getElem]
    intro i j hi hj hij
    have hj' : j < d.size := by simpa using hj
    have q := hs i j (Nat.zero_le _) hij (by rw [← hsz]; exact hj')
    unfold ltOf spell_Sort.cf at q
    rw [getElem!_pos d j hj', getElem!_pos d i (by omega)] at q
    have q := of_decide_eq_false q
    have m1 := hlm d[i] (hpl.mem_iff.1 (Array.getElem_mem_toList ..))
    have m2 := hlm d[j] (hpl.mem_iff.1 (Array.getElem_mem_toList ..))
    rw [m1, m2] at q
    simp only [Array.getElem_toList]
    omega
/-- spells in order are merged where they meet -/
def spMerge (c : S35) : List S35 → List S35
  | [] => [c]
  | s :: t => if s.f0 ≤ c.f1 then spMerge ⟨c.f0, mx c.f1 s.f1⟩ t else c :: spMerge s t
theorem spMerge_nf : ∀ (t : List S35) (c : S35) (lo : Int), lo ≤ c.f0 → c.f0 < c.f1 → c.f1 ≤ 1048576 → (∀ s ∈ t, c.f0 ≤ s.f0 ∧ s.f0 < s.f1 ∧ s.f1 ≤ 1048576) → t.Pairwise (fun a b => a.f0 ≤ b.f0) → NF 1048576 lo (spMerge c t) ∧ (∀ d, spHas (spMerge c t) d ↔ spHas (c :: t) d) ∧ (spMerge c t).length ≤ t.length + 1
  | [], c, lo, h1, h2, h3, _, _ => ⟨⟨h1, h2, h3, trivial⟩, fun _ => Iff.rfl, by simp [spMerge]⟩
  | s :: t, c, lo, h1, h2, h3, h4, h5 => by
    obtain ⟨p1, p2⟩ := List.pairwise_cons.1 h5
    have hs := h4 s (List.mem_cons_self ..)
    have hm : mx c.f1 s.f1 = c.f1 ∨ mx c.f1 s.f1 = s.f1 := by unfold mx; split <;> simp
    have hm1 : c.f1 ≤ mx c.f1 s.f1 ∧ s.f1 ≤ mx c.f1 s.f1 := by unfold mx; split <;> omega
    rw [spMerge]
    by_cases hc : s.f0 ≤ c.f1
    · rw [if_pos hc]
      obtain ⟨a, b, e⟩ := spMerge_nf t ⟨c.f0, mx c.f1 s.f1⟩ lo h1 (by show c.f0 < mx c.f1 s.f1; omega) (by show mx c.f1 s.f1 ≤ _; omega) (fun x hx => h4 x (List.mem_cons_of_mem _ hx)) p2
      refine ⟨a, fun d => ?_, by simp; omega⟩
      rw [b, spHas_cons, spHas_cons, spHas_cons]
      show (c.f0 ≤ d ∧ d < mx c.f1 s.f1) ∨ _ ↔ _
      rw [← or_assoc]
      refine or_congr ?_ Iff.rfl
      omega
    · rw [if_neg hc]
      obtain ⟨a, b, e⟩ := spMerge_nf t s (c.f1 + 1) (by omega) hs.2.1 hs.2.2 (fun x hx => ⟨p1 x hx, (h4 x (List.mem_cons_of_mem _ hx)).2⟩) p2
      exact ⟨⟨h1, h2, h3, a⟩, fun d => by rw [spHas_cons, b, ← spHas_cons], by simp; omega⟩
theorem rdS (l : List S35) (i : Nat) (h : i < l.length) : rd_T35 l (i : Int) = l[i] := by
  unfold rd_T35
  simp [List.getD, h]
theorem rdS_last (p : List S35) (c : S35) : rd_T35 (p ++ [c]) (p.length : Int) = c := by
  rw [rdS _ _ (by simp)]; simp
/-- the second loop -/
theorem spL1 (x : List S35) (hx : x.length ≤ 1000000) : ∀ (n i : Nat) (p : List S35) (c : S35), i + n = x.length → p.length + 1 ≤ i → Ev (fun k => spell_Norm.l1 k (p ++ [c]) x (x.length : Int) (i : Int)) (p ++ spMerge c (x.drop i))
  | 0, i, p, c, h, hp => by
    refine Ev.step (fun k => by rw [spell_Norm.l1]) ?_
    refine Ev.ifn (by omega) (Ev.to ?_)
    rw [List.drop_eq_nil_of_le (by omega)]; rfl
  | n + 1, i, p, c, h, hp => by
    refine Ev.step (fun k => by rw [spell_Norm.l1]) ?_
    have hi : i < x.length := by omega
    have hl : wrap64 (((p ++ [c]).length : Int) - 1) = (p.length : Int) := by
      rw [List.length_append, List.length_singleton]; rw [w64 (by omega) (by omega)]; omega
    have hp1 : (p ++ [c]).length = p.length + 1 := by simp
    rw [hl, rdS_last, rdS _ _ hi, w64_succ hi (by omega)]
    refine Ev.ifp (by omega) (Ev.ifp (by omega) (Ev.ifp (by omega) (Ev.ifp (by omega) (Ev.ifp (by omega) (Ev.ifp (by omega) ?_)))))
    rw [List.drop_eq_getElem_cons hi, spMerge]
    by_cases hc : (x[i]).f0 ≤ c.f1
    · refine Ev.ifp hc ?_
      rw [if_pos hc]
      have hset : ∀ v : S35, (p ++ [c]).set ((p.length : Int)).toNat v = p ++ [v] := by
        intro v; simp
      rw [hset]
      exact spL1 x hx n (i + 1) p _ (by omega) (by omega)
    · refine Ev.ifn hc (Ev.ifp (by omega) ?_)
      rw [if_neg hc]
      have := spL1 x hx n (i + 1) (p ++ [c]) (x[i]) (by omega) (by omega)
      rw [List.append_assoc p [c] (spMerge x[i] _)] at this
      exact this
theorem spL1_of (x : List S35) (hx : x.length ≤ 1000000) (h4 : ∀ s ∈ x, 0 ≤ s.f0 ∧ s.f0 < s.f1 ∧ s.f1 ≤ 1048576) (h5 : x.Pairwise (fun a b => a.f0 ≤ b.f0)) : ∃ r, Ev (fun k => spell_Norm.l1 k [] x (x.length : Int) 0) r ∧ NF 1048576 0 r ∧ (∀ d, spHas r d ↔ spHas x d) ∧ r.length ≤ x.length := by
  cases hx0 : x with
  | nil => exact ⟨[], Ev.step (fun k => by rw [spell_Norm.l1]) (Ev.ifn (by simp) (Ev.to rfl)), trivial, fun _ => Iff.rfl, by simp⟩
  | cons s t =>
    rw [← hx0]
    have hs := h4 s (by rw [hx0]; exact List.mem_cons_self ..)
    have hlen : x.length = t.length + 1 := by rw [hx0]; simp
    obtain ⟨p1, p2⟩ := List.pairwise_cons.1 (hx0 ▸ h5)
    obtain ⟨a, b, e⟩ := spMerge_nf t s 0 hs.1 hs.2.1 hs.2.2 (fun u hu => ⟨p1 u hu, (h4 u (by rw [hx0]; exact List.mem_cons_of_mem _ hu)).2⟩) p2
    refine ⟨spMerge s t, ?_, a, fun d => by rw [b, hx0], by omega⟩
    refine Ev.step (fun k => by rw [spell_Norm.l1]) ?_
    have h0 : rd_T35 x 0 = s := by have := rdS x 0 (by omega); rw [show ((0 : Nat) : Int) = 0 from rfl] at this; rw [this]; simp [hx0]
    rw [h0, show wrap64 ((([] : List S35).length : Int) - 1) = -1 from by simp [wrap64], show wrap64 (0 + 1) = ((1 : Nat) : Int) from by simp [wrap64]]
    refine Ev.ifp (by omega) (Ev.ifp (by omega) (Ev.ifp (by omega) (Ev.ifn (by omega) (Ev.ifp (by simp) ?_))))
    have := spL1 x hx t.length 1 [] s (by omega) (by simp)
    rw [hx0, List.drop_one, List.tail_cons, ← hx0] at this
    exact this
/-- the first loop -/
theorem spL0 (x : List S35) (hx : x.length ≤ 1000000) : ∀ (n i : Nat) (p : List S35) (r : List S35), i + n = x.length → p.length ≤ i → (Ev (fun k => (spell_Sort.f (p ++ spAll (x.drop i))).bind fun t => spell_Norm.l1 k [] t ((p ++ spAll (x.drop i)).length : Int) 0) r) → Ev (fun k => spell_Norm.l0 k p x (x.length : Int) (i : Int)) r
  | 0, i, p, r, h, hp, hr => by
    refine Ev.step (fun k => by rw [spell_Norm.l0]) ?_
    refine Ev.ifn (by omega) ?_
    rw [List.drop_eq_nil_of_le (by omega), show spAll [] = [] from rfl, List.append_nil] at hr
    exact hr
  | n + 1, i, p, r, h, hp, hr => by
    refine Ev.step (fun k => by rw [spell_Norm.l0]) ?_
    have hi : i < x.length := by omega
    rw [rdS _ _ hi, w64_succ hi (by omega)]
    refine Ev.ifp (by omega) (Ev.ifp (by omega) (Ev.ifp (by omega) ?_))
    simp only [spell_fit.f, Option.bind_some]
    have hd : spAll (x.drop i) = (if spGood (spFit x[i]) = true then spFit x[i] :: spAll (x.drop (i + 1)) else spAll (x.drop (i + 1))) := by
      rw [List.drop_eq_getElem_cons hi]
      unfold spAll
      rw [List.map_cons, List.filter_cons]
    by_cases hg : spell_fit.lm (x[i]).f0 < spell_fit.lm (x[i]).f1
    · refine Ev.ifp hg (Ev.ifp (by omega) ?_)
      rw [hd, if_pos (by unfold spGood spFit; exact decide_eq_true hg)] at hr
      refine spL0 x hx n (i + 1) _ r (by omega) (by simp; omega) ?_
      rw [List.append_assoc]
      exact hr
    · refine Ev.ifn hg ?_
      rw [hd, if_neg (by unfold spGood spFit; simpa using hg)] at hr
      exact spL0 x hx n (i + 1) p r (by omega) (by omega) hr
theorem norm_of (l : List S35) (hl : l.length ≤ 1000000) : ∃ r, Ev (fun k => spell_Norm.f k l) r ∧ NF 1048576 0 r ∧ (∀ d, spHas r d ↔ spHas l d ∧ 0 ≤ d ∧ d < 1048576) ∧ r.length ≤ l.length := by
  have hlen := spAll_length l
  obtain ⟨q, hq, hq2, hq3, hq4⟩ := spSort_of (spAll l) (by omega) (fun s hs => by have := spAll_range hs; omega)
  obtain ⟨r, h1, h2, h3, h4⟩ := spL1_of q (by omega) (fun s hs => spAll_range ((hq3 s).1 hs)) hq4
  refine ⟨r, ?_, h2, fun d => ?_, by omega⟩
  · unfold spell_Norm.f
    have := spL0 l hl l.length 0 [] r (by omega) (by simp) (by
      simp only [List.drop_zero, List.nil_append, hq, Option.bind_some]
      rw [← hq2]; exact h1)
    exact this
  · rw [h3, ← spAll_has]
    unfold spHas
    exact ⟨fun ⟨s, a, b⟩ => ⟨s, (hq3 s).1 a, b⟩, fun ⟨s, a, b⟩ => ⟨s, (hq3 s).2 a, b⟩⟩
/-- slices.Equal -/
theorem spEq_loop (l : List S35) (hl : l.length ≤ 1000000) : ∀ (n i : Nat), i + n = l.length → Ev (fun k => spell_Spell_16.l0 k l l (l.length : Int) (i : Int)) true
  | 0, i, h => Ev.step (fun k => by rw [spell_Spell_16.l0]) (Ev.ifn (by omega) (Ev.to rfl))
  | n + 1, i, h => by
    refine Ev.step (fun k => by rw [spell_Spell_16.l0]) ?_
    have hi : i < l.length := by omega
    rw [rdS _ _ hi, w64_succ hi (by omega)]
    exact Ev.ifp (by omega) (Ev.ifp (by omega) (Ev.ifp (by omega) (Ev.ifp (by omega) (Ev.ifp rfl (Ev.ifp rfl (spEq_loop l hl n (i + 1) (by omega)))))))
theorem spEq_of (l : List S35) (hl : l.length ≤ 1000000) : Ev (fun k => spell_Spell_16.f k l l) true := by
  unfold spell_Spell_16.f
  exact Ev.ifp rfl (spEq_loop l hl l.length 0 (by omega))
theorem sets_of : Ev (fun k => mootkeep1_sets.f k) true := by
  unfold mootkeep1_sets.f
  obtain ⟨r, h1, h2, h3, h4⟩ := norm_of [⟨3, 5⟩, ⟨1, 3⟩] (by simp)
  have e : r = [⟨1, 5⟩] := by
    refine NF.unique h2 (b := [⟨1, 5⟩]) ⟨by simp, by simp, by simp, trivial⟩ fun d => ?_
    rw [h3, spHas_cons, spHas_cons, spHas_cons]
    have n0 := spHas_nil d
    simp only [n0, or_false]
    omega
  subst e
  exact Ev.bind h1 (Ev.bind (spEq_of _ (by simp)) (Ev.to rfl))
/-- the sets of the statement: at most seven spells -/
theorem spells_loop : ∀ (n : Nat) (i : Nat) (p : List S35) (m : Int) (l : List Int), (i : Int) + n = m → m ≤ 7 → p.length = i → (∀ s ∈ p, 0 ≤ s.f0 ∧ s.f0 ≤ s.f1 ∧ s.f1 ≤ 118) → ∃ r, Ev (fun k => mootkeep1_spells.l0 k p m (i : Int) l) r ∧ (r.length : Int) = m ∧ (∀ s ∈ r, 0 ≤ s.f0 ∧ s.f0 ≤ s.f1 ∧ s.f1 ≤ 118)
  | 0, i, p, m, l, h, hm, hp, hs => ⟨p, Ev.step (fun k => by rw [mootkeep1_spells.l0]) (Ev.ifn (by omega) (Ev.to rfl)), by omega, hs⟩
  | n + 1, i, p, m, l, h, hm, hp, hs => by
    obtain ⟨v, l1, e1, v0, v1⟩ := next_of l 100 (by omega) (by omega)
    obtain ⟨u, l2, e2, u0, u1⟩ := next_of l1 20 (by omega) (by omega)
    obtain ⟨r, r1, r2, r3⟩ := spells_loop n (i + 1) (p ++ [⟨v, v + u⟩]) m l2 (by omega) hm (by simp; omega) (fun s hs' => by
      rcases List.mem_append.1 hs' with g | g
      · exact hs s g
      · have := List.mem_singleton.1 g
        subst this
        exact ⟨by omega, by show v ≤ v + u; omega, by show v + u ≤ 118; omega⟩)
    refine ⟨r, ?_, r2, r3⟩
    refine Ev.step (fun k => by rw [mootkeep1_spells.l0]) ?_
    refine Ev.ifp (by omega) ?_
    simp only [e1, e2, Option.bind_some]
    rw [w64 (x := v + u) (by omega) (by omega), w64 (x := (i : Int) + 1) (by omega) (by omega)]
    exact Ev.ifp (by omega) r1
theorem spells_of (l : List Int) : ∃ r, Ev (fun k => mootkeep1_spells.f k l) r ∧ r.length ≤ 7 ∧ (∀ s ∈ r, 0 ≤ s.f0 ∧ s.f0 ≤ s.f1 ∧ s.f1 ≤ 118) := by
  obtain ⟨v, l1, e1, v0, v1⟩ := next_of l 8 (by omega) (by omega)
  obtain ⟨r, r1, r2, r3⟩ := spells_loop v.toNat 0 [] v l1 (by omega) (by omega) rfl (fun s hs => by simp at hs)
  refine ⟨r, ?_, by omega, r3⟩
  unfold mootkeep1_spells.f
  simp only [e1, Option.bind_some]
  exact r1
/-! #### sets from sets -/
def spIn (l : List S35) (d : Int) : Prop := spHas l d ∧ 0 ≤ d ∧ d < 1048576
theorem NF.spIn {l : List S35} (h : NF 1048576 0 l) (d : Int) : spHas l d ↔ spIn l d := ⟨fun hd => ⟨hd, by have := NF.low h hd; omega, by have := NF.low h hd; omega⟩, fun hd => hd.1⟩
theorem NF.eq_of {a b : List S35} (ha : NF 1048576 0 a) (hb : NF 1048576 0 b) (h : ∀ d, _root_.Go.Proofs.Ytmjlpoohghafnaa.Pure.spIn a d ↔ _root_.Go.Proofs.Ytmjlpoohghafnaa.Pure.spIn b d) : a = b := NF.unique ha hb fun d => by rw [ha.spIn, hb.spIn, h]
theorem normIn (l : List S35) (hl : l.length ≤ 1000000) : ∃ r, Ev (fun k => spell_Norm.f k l) r ∧ NF 1048576 0 r ∧ (∀ d, spIn r d ↔ spIn l d) ∧ r.length ≤ l.length := by
  obtain ⟨r, h1, h2, h3, h4⟩ := norm_of l hl
  exact ⟨r, h1, h2, fun d => by rw [← h2.spIn, h3]; rfl, h4⟩
theorem concat_of (a b : List S35) (ha : a.length ≤ 1000000) (hb : b.length ≤ 1000000) : Ev (fun k => spell_Spell_43.f k [a, b]) (a ++ b) := by
  unfold spell_Spell_43.f
  have r0 : rd_L3 [a, b] 0 = a := rfl
  have r1 : rd_L3 [a, b] 1 = b := rfl
  have e0 : wrap64 ((0 : Int) + 1) = 1 := by simp [wrap64]
  have e1 : wrap64 ((1 : Int) + 1) = 2 := by simp [wrap64]
  refine Ev.step (fun k => by rw [spell_Spell_43.l0]) (Ev.ifp (by simp) (Ev.ifp (by omega) (Ev.ifp (by simp) ?_)))
  rw [r0, e0, w64 (x := 0 + (a.length : Int)) (by omega) (by omega)]
  refine Ev.ifn (by omega) ?_
  refine Ev.step (fun k => by rw [spell_Spell_43.l0]) (Ev.ifp (by simp) (Ev.ifp (by omega) (Ev.ifp (by simp) ?_)))
  rw [r1, e1, w64 (x := 0 + (a.length : Int) + (b.length : Int)) (by omega) (by omega)]
  refine Ev.ifn (by omega) ?_
  refine Ev.step (fun k => by rw [spell_Spell_43.l0]) (Ev.ifn (by simp) ?_)
  have hg : spell_Grow.f (0 + (a.length : Int) + (b.length : Int)) = some [] := by
    unfold spell_Grow.f
    rw [if_pos (by omega), if_pos (by omega)]
  simp only [hg, Option.bind_some]
  refine Ev.step (fun k => by rw [spell_Spell_43.l1]) (Ev.ifp (by simp) (Ev.ifp (by omega) (Ev.ifp (by simp) ?_)))
  rw [r0, e0]
  refine Ev.ifp (by simp; omega) ?_
  refine Ev.step (fun k => by rw [spell_Spell_43.l1]) (Ev.ifp (by simp) (Ev.ifp (by omega) (Ev.ifp (by simp) ?_)))
  rw [r1, e1]
  refine Ev.ifp (by simp; omega) ?_
  exact Ev.step (fun k => by rw [spell_Spell_43.l1]) (Ev.ifn (by simp) (Ev.to (by simp)))
theorem join_of (a b : List S35) (ha : a.length ≤ 100000) (hb : b.length ≤ 100000) : ∃ r, Ev (fun k => spell_Join.f k a b) r ∧ NF 1048576 0 r ∧ (∀ d, spIn r d ↔ spIn a d ∨ spIn b d) ∧ r.length ≤ a.length + b.length := by
  obtain ⟨r, h1, h2, h3, h4⟩ := normIn (a ++ b) (by simp; omega)
  refine ⟨r, ?_, h2, fun d => ?_, by simp at h4; omega⟩
  · unfold spell_Join.f
    exact Ev.bind (concat_of a b (by omega) (by omega)) (Ev.bind h1 (Ev.to rfl))
  · rw [h3]
    unfold spIn
    rw [spHas_append]
    exact or_and_right
/-- the days between -/
def spGaps (f : Int) : List S35 → List S35
  | [] => [⟨f, 1048576⟩]
  | s :: t => ⟨f, s.f0⟩ :: spGaps s.f1 t
theorem spGaps_len : ∀ (l : List S35) (f : Int), (spGaps f l).length = l.length + 1
  | [], _ => rfl
  | s :: t, f => by rw [spGaps, List.length_cons, spGaps_len t]; rfl
theorem spGaps_has : ∀ {l : List S35} {f lo : Int}, NF 1048576 lo l → f ≤ lo → ∀ d, spHas (spGaps f l) d ↔ f ≤ d ∧ d < 1048576 ∧ ¬ spHas l d
  | [], f, lo, _, _, d => by
    rw [spGaps, spHas_cons]
    have := spHas_nil d
    simp only [this, or_false, not_false_iff, and_true]
  | s :: t, f, lo, ⟨h1, h2, h3, h4⟩, h, d => by
    rw [spGaps, spHas_cons, spHas_cons, spGaps_has (f := s.f1) h4 (by omega)]
    have hl : spHas t d → s.f1 + 1 ≤ d ∧ d < 1048576 := fun hd => NF.low h4 hd
    by_cases ht : spHas t d
    · have := hl ht
      simp only [ht, not_true_eq_false, and_false, or_false, or_true, iff_false]
      omega
    · simp only [ht, not_false_iff, and_true, or_false]
      omega
theorem spNot_loop (x : List S35) (hx : x.length ≤ 100000) : ∀ (n i : Nat) (p : List S35) (f : Int) (r : List S35), i + n = x.length → p.length ≤ i → Ev (fun k => spell_Norm.f k (p ++ spGaps f (x.drop i))) r → Ev (fun k => spell_not.l0 k p f x (x.length : Int) (i : Int)) r
  | 0, i, p, f, r, h, hp, hr => by
    refine Ev.step (fun k => by rw [spell_not.l0]) (Ev.ifn (by omega) (Ev.ifp (by omega) ?_))
    rw [List.drop_eq_nil_of_le (by omega)] at hr
    exact Ev.bind hr (Ev.to rfl)
  | n + 1, i, p, f, r, h, hp, hr => by
    have hi : i < x.length := by omega
    refine Ev.step (fun k => by rw [spell_not.l0]) ?_
    rw [rdS _ _ hi, w64_succ hi (by omega)]
    refine Ev.ifp (by omega) (Ev.ifp (by omega) (Ev.ifp (by omega) (Ev.ifp (by omega) ?_)))
    refine spNot_loop x hx n (i + 1) _ _ r (by omega) (by simp; omega) ?_
    rw [List.drop_eq_getElem_cons hi, spGaps] at hr
    rw [List.append_assoc]
    exact hr
theorem not_of (a : List S35) (ha : a.length ≤ 100000) : ∃ r, Ev (fun k => spell_not.f k a) r ∧ NF 1048576 0 r ∧ (∀ d, spIn r d ↔ (0 ≤ d ∧ d < 1048576) ∧ ¬ spIn a d) ∧ r.length ≤ a.length + 1 := by
  obtain ⟨q, q1, q2, q3, q4⟩ := normIn a (by omega)
  have hlen := spGaps_len q 0
  obtain ⟨r, h1, h2, h3, h4⟩ := normIn (spGaps 0 q) (by omega)
  refine ⟨r, ?_, h2, fun d => ?_, by omega⟩
  · unfold spell_not.f
    refine Ev.bind q1 ?_
    exact spNot_loop q (by omega) q.length 0 [] 0 r (by omega) (by simp) (by simpa using h1)
  · rw [h3, ← q3, ← q2.spIn]
    unfold spIn
    rw [spGaps_has q2 (Int.le_refl 0)]
    constructor
    · rintro ⟨⟨p1, p2, p3⟩, _⟩; exact ⟨⟨p1, p2⟩, p3⟩
    · rintro ⟨⟨p1, p2⟩, p3⟩; exact ⟨⟨p1, p2, p3⟩, p1, p2⟩
/-- the days of both -/
def spPair (s t : S35) : S35 := ⟨mx s.f0 t.f0, mn s.f1 t.f1⟩
theorem spPair_has (s t : S35) (d : Int) : ((spPair s t).f0 ≤ d ∧ d < (spPair s t).f1) ↔ (s.f0 ≤ d ∧ d < s.f1) ∧ (t.f0 ≤ d ∧ d < t.f1) := by
  unfold spPair mx mn
  simp only
  split <;> split <;> omega
def spProd (b : List S35) : List S35 → List S35
  | [] => []
  | s :: t => b.map (spPair s) ++ spProd b t
theorem spMap_has (s : S35) (d : Int) : ∀ b : List S35, spHas (b.map (spPair s)) d ↔ (s.f0 ≤ d ∧ d < s.f1) ∧ spHas b d
  | [] => by have := spHas_nil d; simp only [List.map_nil, this, and_false]
  | t :: b => by
    rw [List.map_cons, spHas_cons, spHas_cons, spPair_has, spMap_has s d b, ← and_or_left]
theorem spProd_has (b : List S35) (d : Int) : ∀ a : List S35, spHas (spProd b a) d ↔ spHas a d ∧ spHas b d
  | [] => by have := spHas_nil d; simp only [spProd, this, false_and]
  | s :: t => by rw [spProd, spHas_append, spMap_has, spProd_has b d t, spHas_cons, ← or_and_right]
theorem spProd_len (b : List S35) : ∀ a : List S35, (spProd b a).length = a.length * b.length
  | [] => by simp [spProd]
  | s :: t => by rw [spProd, List.length_append, List.length_map, spProd_len b t, List.length_cons, Nat.succ_mul]; omega
theorem spMeet_in (y x : List S35) (hy : y.length ≤ 1000) (i : Nat) (s : S35) : ∀ (n j : Nat) (p r : List S35), j + n = y.length → p.length + n ≤ 1000000 → Ev (fun k => spell_Meet.l0 k y (p ++ (y.drop j).map (spPair s)) x (x.length : Int) (wrap64 ((i : Int) + 1))) r → Ev (fun k => spell_Meet.l1 k y p x (x.length : Int) (i : Int) y (y.length : Int) (j : Int) s.f0 s.f1) r
  | 0, j, p, r, h, hp, hr => by
    refine Ev.step (fun k => by rw [spell_Meet.l1]) (Ev.ifn (by omega) ?_)
    rw [List.drop_eq_nil_of_le (by omega), List.map_nil, List.append_nil] at hr
    exact hr
  | n + 1, j, p, r, h, hp, hr => by
    have hj : j < y.length := by omega
    refine Ev.step (fun k => by rw [spell_Meet.l1]) ?_
    rw [rdS _ _ hj, w64_succ hj (by omega)]
    refine Ev.ifp (by omega) (Ev.ifp (by omega) (Ev.ifp (by omega) (Ev.ifp (by omega) ?_)))
    refine spMeet_in y x hy i s n (j + 1) _ r (by omega) (by simp; omega) ?_
    rw [List.drop_eq_getElem_cons hj, List.map_cons] at hr
    rw [List.append_assoc]
    exact hr
theorem spMeet_out (y x : List S35) (hy : y.length ≤ 1000) (hx : x.length ≤ 1000) : ∀ (n i : Nat) (p r : List S35), i + n = x.length → p.length + n * y.length ≤ 1000000 → Ev (fun k => spell_Norm.f k (p ++ spProd y (x.drop i))) r → Ev (fun k => spell_Meet.l0 k y p x (x.length : Int) (i : Int)) r
  | 0, i, p, r, h, hp, hr => by
    refine Ev.step (fun k => by rw [spell_Meet.l0]) (Ev.ifn (by omega) ?_)
    rw [List.drop_eq_nil_of_le (by omega), spProd, List.append_nil] at hr
    exact Ev.bind hr (Ev.to rfl)
  | n + 1, i, p, r, h, hp, hr => by
    have hi : i < x.length := by omega
    have hmul : (n + 1) * y.length = n * y.length + y.length := Nat.succ_mul ..
    refine Ev.step (fun k => by rw [spell_Meet.l0]) ?_
    rw [rdS _ _ hi]
    refine Ev.ifp (by omega) (Ev.ifp (by omega) (Ev.ifp (by omega) ?_))
    refine spMeet_in y x hy i x[i] y.length 0 p r (by omega) (by omega) ?_
    rw [w64_succ hi (by omega), List.drop_zero]
    refine spMeet_out y x hy hx n (i + 1) _ r (by omega) (by simp; omega) ?_
    rw [List.drop_eq_getElem_cons hi, spProd] at hr
    rw [List.append_assoc]
    exact hr
theorem meet_of (a b : List S35) (ha : a.length ≤ 1000) (hb : b.length ≤ 1000) : ∃ r, Ev (fun k => spell_Meet.f k a b) r ∧ NF 1048576 0 r ∧ (∀ d, spIn r d ↔ spIn a d ∧ spIn b d) ∧ r.length ≤ a.length * b.length := by
  obtain ⟨x, x1, x2, x3, x4⟩ := normIn a (by omega)
  obtain ⟨y, y1, y2, y3, y4⟩ := normIn b (by omega)
  have hm : x.length * y.length ≤ a.length * b.length := Nat.mul_le_mul x4 y4
  have hm2 : a.length * b.length ≤ 1000 * 1000 := Nat.mul_le_mul ha hb
  obtain ⟨r, h1, h2, h3, h4⟩ := normIn (spProd y x) (by rw [spProd_len]; omega)
  refine ⟨r, ?_, h2, fun d => ?_, by rw [spProd_len] at h4; omega⟩
  · unfold spell_Meet.f
    refine Ev.bind y1 (Ev.bind x1 ?_)
    exact spMeet_out y x (by omega) (by omega) x.length 0 [] r (by omega) (by simp; omega) (by simpa using h1)
  · rw [h3, ← x3, ← y3]
    unfold spIn
    rw [spProd_has]
    constructor
    · rintro ⟨⟨p1, p2⟩, p3⟩; exact ⟨⟨p1, p3⟩, p2, p3⟩
    · rintro ⟨⟨p1, p3⟩, p2, _⟩; exact ⟨⟨p1, p2⟩, p3⟩
theorem less_of (a b : List S35) (ha : a.length ≤ 1000) (hb : b.length ≤ 999) : ∃ r, Ev (fun k => spell_Less.f k a b) r ∧ NF 1048576 0 r ∧ (∀ d, spIn r d ↔ spIn a d ∧ ¬ spIn b d) ∧ r.length ≤ a.length * (b.length + 1) := by
  obtain ⟨y, y1, y2, y3, y4⟩ := not_of b (by omega)
  obtain ⟨r, h1, h2, h3, h4⟩ := meet_of a y ha (by omega)
  refine ⟨r, ?_, h2, fun d => ?_, Nat.le_trans h4 (Nat.mul_le_mul_left _ y4)⟩
  · unfold spell_Less.f
    exact Ev.bind y1 (Ev.bind h1 (Ev.to rfl))
  · rw [h3, y3]
    unfold spIn
    constructor
    · rintro ⟨p1, _, p2⟩; exact ⟨p1, p2⟩
    · rintro ⟨p1, p2⟩; exact ⟨p1, p1.2, p2⟩
theorem SpellLaws : mootkeep1_SpellLaws.Pure := by
  intro a b c
  intros
  obtain ⟨x, hx, lx, _⟩ := spells_of a
  obtain ⟨y, hy, ly, _⟩ := spells_of b
  obtain ⟨z, hz, lz, _⟩ := spells_of c
  obtain ⟨yz, j1, j2, j3, j4⟩ := join_of y z (by omega) (by omega)
  obtain ⟨p, p1, p2, p3, p4⟩ := less_of x yz (by omega) (by omega)
  obtain ⟨xy, a1, a2, a3, a4⟩ := less_of x y (by omega) (by omega)
  obtain ⟨xz, b1, b2, b3, b4⟩ := less_of x z (by omega) (by omega)
  have la : x.length * (y.length + 1) ≤ 7 * 8 := Nat.mul_le_mul lx (by omega)
  have lb : x.length * (z.length + 1) ≤ 7 * 8 := Nat.mul_le_mul lx (by omega)
  obtain ⟨q, q1, q2, q3, q4⟩ := meet_of xy xz (by omega) (by omega)
  have e1 : p = q := p2.eq_of q2 fun d => by
    rw [p3, q3, j3, a3, b3]
    by_cases h1 : spIn x d <;> by_cases h2 : spIn y d <;> by_cases h3 : spIn z d <;> simp [h1, h2, h3]
  obtain ⟨m, m1, m2, m3, m4⟩ := meet_of y z (by omega) (by omega)
  have lm : y.length * z.length ≤ 7 * 7 := Nat.mul_le_mul ly lz
  obtain ⟨u, u1, u2, u3, u4⟩ := less_of x m (by omega) (by omega)
  obtain ⟨v, v1, v2, v3, v4⟩ := join_of xy xz (by omega) (by omega)
  have e2 : u = v := u2.eq_of v2 fun d => by
    rw [u3, v3, m3, a3, b3]
    by_cases h1 : spIn x d <;> by_cases h2 : spIn y d <;> by_cases h3 : spIn z d <;> simp [h1, h2, h3]
  obtain ⟨g, g1, g2, g3, g4⟩ := meet_of x yz (by omega) (by omega)
  obtain ⟨my, r1, r2, r3, r4⟩ := meet_of x y (by omega) (by omega)
  obtain ⟨mz, s1, s2, s3, s4⟩ := meet_of x z (by omega) (by omega)
  have lr : x.length * y.length ≤ 7 * 7 := Nat.mul_le_mul lx ly
  have ls : x.length * z.length ≤ 7 * 7 := Nat.mul_le_mul lx lz
  obtain ⟨t, t1, t2, t3, t4⟩ := join_of my mz (by omega) (by omega)
  have e3 : g = t := g2.eq_of t2 fun d => by
    rw [g3, t3, j3, r3, s3]
    by_cases h1 : spIn x d <;> by_cases h2 : spIn y d <;> by_cases h3 : spIn z d <;> simp [h1, h2, h3]
  have lp : x.length * (yz.length + 1) ≤ 7 * 15 := Nat.mul_le_mul lx (by omega)
  have lu : x.length * (m.length + 1) ≤ 7 * 50 := Nat.mul_le_mul lx (by omega)
  have lg : x.length * yz.length ≤ 7 * 14 := Nat.mul_le_mul lx (by omega)
  refine Ev.rounds (g := fun k => mootkeep1_SpellLaws.f k a b c) ?_
  unfold mootkeep1_SpellLaws.f
  refine Ev.bind hx (Ev.bind hy (Ev.bind hz (Ev.bind sets_of (Ev.ifp rfl ?_))))
  refine Ev.bind j1 (Ev.bind p1 (Ev.bind a1 (Ev.bind b1 (Ev.bind q1 (Ev.bind (e1 ▸ spEq_of p (by omega)) (Ev.ifp rfl ?_))))))
  refine Ev.bind m1 (Ev.bind u1 (Ev.bind a1 (Ev.bind b1 (Ev.bind v1 (Ev.bind (e2 ▸ spEq_of u (by omega)) (Ev.ifp rfl ?_))))))
  exact Ev.bind j1 (Ev.bind g1 (Ev.bind r1 (Ev.bind s1 (Ev.bind t1 (Ev.bind (e3 ▸ spEq_of g (by omega)) (Ev.to rfl))))))
end Go.Proofs.Ytmjlpoohghafnaa.Pure
