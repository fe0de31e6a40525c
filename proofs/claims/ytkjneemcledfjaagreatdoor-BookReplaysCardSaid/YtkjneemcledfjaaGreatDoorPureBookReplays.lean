/-
A journal has the facts that were added to it, and it extends each of its beginnings, for every list and every number.
-/
import Derived.Test.YtkjneemcledfjaaGreatDoorPBookReplaysx8
import Derived.Test.YtkjneemcledfjaaGreatDoorStrA
set_option linter.unusedVariables false
set_option linter.unusedSimpArgs false
namespace Go.Proofs.YtkjneemcledfjaaGreatDoor.Pure
open Go.RowKit Go.Proofs.YtkjneemcledfjaaGreatDoor.PBookReplays Go.Proofs.YtkjneemcledfjaaGreatDoorW.PrintWords Go.Proofs.YtkjneemcledfjaaGreatDoorW.PrintLast
theorem w64 {x : Int} (h1 : -9223372036854775808 ≤ x) (h2 : x ≤ 9223372036854775807) : wrap64 x = x := by unfold wrap64; omega
theorem Ev.ifp {α : Type} {c : Prop} [Decidable c] {a b : Nat → Option α} {r : α} (h : c) (k : Ev a r) : Ev (fun n => if c then a n else b n) r := Ev.congr (fun n => by rw [if_pos h]) k
theorem Ev.ifn {α : Type} {c : Prop} [Decidable c] {a b : Nat → Option α} {r : α} (h : ¬ c) (k : Ev b r) : Ev (fun n => if c then a n else b n) r := Ev.congr (fun n => by rw [if_neg h]) k
theorem Ev.to {α : Type} {a b : α} (h : a = b) : Ev (fun _ => some a) b := h ▸ Ev.now a
theorem below_of (x n : Int) (h0 : 0 < n) (h1 : n ≤ 4611686018427387904) : mootmake_Below.f x n = some (x % n) := by
  have hr := Int.emod_nonneg x (show n ≠ 0 by omega)
  have hl := Int.emod_lt_of_pos x h0
  unfold mootmake_Below.f
  rw [if_neg (by omega), Int.tmod_eq_emod]
  by_cases h : 0 ≤ x ∨ n ∣ x
  · rw [if_pos h, show x % n - ((0 : Nat) : Int) = x % n from by omega, if_neg (by omega)]
  · have h3 : x % n ≠ 0 := fun e => h (.inr (Int.dvd_of_emod_eq_zero e))
    rw [if_neg h, if_pos (by omega), w64 (by omega) (by omega)]
    congr 1; omega
theorem below_range (x n : Int) (h0 : 0 < n) : 0 ≤ x % n ∧ x % n < n := ⟨Int.emod_nonneg x (by omega), Int.emod_lt_of_pos x h0⟩
theorem w64_succ {i n : Nat} (h : i < n) (hn : n ≤ 9223372036854775807) : wrap64 ((i : Int) + 1) = ((i + 1 : Nat) : Int) := by
  rw [w64 (by omega) (by omega)]; omega
theorem next_of (l : List Int) (n : Int) (h0 : 0 < n) (h1 : n ≤ 4611686018427387904) : ∃ v l', mootmake_Stream_Next.f l n = some (v, l') ∧ 0 ≤ v ∧ v < n := by
  unfold mootmake_Stream_Next.f
  rw [if_neg (by omega)]
  by_cases h : l = []
  · rw [if_pos h]; exact ⟨0, l, rfl, by omega, h0⟩
  · rw [if_neg h, below_of _ _ h0 h1]
    have := below_range (rd l 0) n h0
    exact ⟨_, _, rfl, this.1, this.2⟩
/-! #### values and their kinds -/
def uLo (c : Int) : Int := if c = 2 then -1099511627776 else if c = 3 then -1048576 else if c = 4 then 0 else if c = 5 then -1048576 else -1000000000
def uHi (c : Int) : Int := if c = 2 then 1099511627776 else if c = 3 then 1048576 else if c = 4 then 1048575 else if c = 5 then 1048576 else 1000000000
theorem range_of {c : Int} (h0 : 2 ≤ c) (h1 : c ≤ 6) : unit_Range.f c = some (uLo c, uHi c) ∧ uLo c ≤ 0 ∧ 0 ≤ uHi c ∧ -1099511627776 ≤ uLo c ∧ uHi c ≤ 1099511627776 := by
  have : c = 2 ∨ c = 3 ∨ c = 4 ∨ c = 5 ∨ c = 6 := by omega
  rcases this with rfl | rfl | rfl | rfl | rfl <;> exact ⟨rfl, by decide, by decide, by decide, by decide⟩
theorem fit_of {c : Int} (h0 : 2 ≤ c) (h1 : c ≤ 6) (x : Int) : unit_Fit.f c x = some (c, mx (uLo c) (mn x (uHi c))) := by
  unfold unit_Fit.f unit_known.f
  rw [if_pos (by omega)]
  simp only [Option.bind_some]
  rw [if_pos (decide_eq_true (by omega)), (range_of h0 h1).1]
  rfl
theorem fit_in {c : Int} (h0 : 2 ≤ c) (h1 : c ≤ 6) {x : Int} (hl : uLo c ≤ x) (hh : x ≤ uHi c) : unit_Fit.f c x = some (c, x) := by
  rw [fit_of h0 h1]
  congr 2
  unfold mx mn; repeat' split <;> omega
/-! #### strings -/
open Go.Proofs.YtkjneemcledfjaaGreatDoor.StrLaw
theorem lit46 : (⟨#[46]⟩ : ByteArray) = bs [46] := rfl
theorem lit45 : (⟨#[45]⟩ : ByteArray) = bs [45] := rfl
theorem litE : (⟨#[]⟩ : ByteArray) = bs [] := rfl
theorem rep0 {m : Int} (h0 : 0 ≤ m) (h1 : m ≤ 1000) : strings_Repeat.f (⟨#[48]⟩ : ByteArray) m = some (bs (List.replicate m.toNat 48)) := by
  unfold strings_Repeat.f
  rw [if_pos ⟨h0, h1, by decide⟩]
  congr 1
  show bs (Go.Lib.repeatL [48] m.toNat) = _
  rw [show ([48] : List UInt8) = List.replicate 1 48 from rfl, Go.Lib.repeatL_replicate, Nat.mul_one]
theorem itoa_of {n : Int} (h0 : -9223372036854775808 ≤ n) (h1 : n ≤ 9223372036854775807) : strconv_Itoa.f n = some (bs (sgn n ++ Go.Lib.decDigits n.natAbs)) := by
  unfold strconv_Itoa.f
  rw [if_pos ⟨h0, h1⟩, itoa_sgn]; rfl
theorem dlen {n : Nat} (h : n < 10000000000000000) : (Go.Lib.decDigits n).length ≤ 16 := dec_len_le (k := 15) (by omega)
theorem pad_of {n d : Int} (h0 : 0 ≤ n) (h1 : n < 10000000000000000) (d0 : 0 ≤ d) (d1 : d ≤ 20) : unit_pad.f n d = some (bs (padL n.toNat d.toNat)) := by
  unfold unit_pad.f
  have hl := dlen (n := n.toNat) (by omega)
  have hl1 := dec_len_pos n.toNat
  rw [itoa_of (by omega) (by omega), show sgn n = [] from by unfold sgn; rw [if_neg (by omega)], List.nil_append, show n.natAbs = n.toNat from by omega]
  simp only [Option.bind_some, bs_size]
  rw [w64 (by omega) (by omega), rep0 (by unfold mx; split <;> omega) (by unfold mx; split <;> omega)]
  simp only [Option.bind_some, bs_size, bs_append]
  rw [if_pos (by simp; unfold mx; split <;> omega)]
  unfold padL
  congr 4
  unfold mx; split <;> omega
theorem fin_of (S W T : List UInt8) (h : S.length + W.length + T.length ≤ 1000) :
    (if (bs T).toList = ([] : List UInt8) then (if (bs S).size + (bs W).size ≤ 9223372036854775807 then (if (bs S ++ bs W).size + (bs T).size ≤ 9223372036854775807 then (some ((bs S ++ bs W) ++ bs T)) else (none)) else (none)) else (if 1 + (bs T).size ≤ 9223372036854775807 then (if (bs S).size + (bs W).size ≤ 9223372036854775807 then (if (bs S ++ bs W).size + ((⟨#[46]⟩ : ByteArray) ++ bs T).size ≤ 9223372036854775807 then (some ((bs S ++ bs W) ++ ((⟨#[46]⟩ : ByteArray) ++ bs T))) else (none)) else (none)) else (none))) = some (bs (S ++ W ++ (if T = [] then [] else 46 :: T))) := by
  rw [lit46]
  simp only [bs_append, bs_size, bs_toList]
  by_cases hT : T = []
  · rw [if_pos hT, if_pos (by omega), if_pos (by simp only [List.length_append]; omega), if_pos hT, hT]
  · rw [if_neg hT, if_pos (by omega), if_pos (by omega), if_pos (by simp only [List.length_append, List.length_singleton]; omega), if_neg hT]; rfl
/-! #### endings -/
theorem hs_of (A s : List UInt8) (h : A.length ≤ 1000) (hs : s.length ≤ A.length) : strings_HasSuffix.f (bs A) (bs s) = some (A.drop (A.length - s.length) == s) := by
  unfold strings_HasSuffix.f stringslite_HasSuffix.f
  simp only [bs_size]
  rw [w64 (by omega) (by omega), if_pos (by omega), if_pos (by omega), if_pos (by omega), bs_extract, bs_toList, bs_toList, show ((A.length : Int) - (s.length : Int)).toNat = A.length - s.length from by omega]
  simp
theorem hs_short (A s : List UInt8) (hs : A.length < s.length) : strings_HasSuffix.f (bs A) (bs s) = some false := by
  unfold strings_HasSuffix.f stringslite_HasSuffix.f
  simp only [bs_size]
  rw [if_neg (by omega)]; rfl
theorem hs_no {A s : List UInt8} {c d : UInt8} (hc : c ≠ d) (h : (A ++ [c]).length ≤ 1000) : strings_HasSuffix.f (bs (A ++ [c])) (bs (s ++ [d])) = some false := by
  by_cases hl : (s ++ [d]).length ≤ (A ++ [c]).length
  · rw [hs_of _ _ h hl, suf_no hc hl]
  · exact hs_short _ _ (by omega)
theorem ts_no {A s : List UInt8} (h : strings_HasSuffix.f (bs A) (bs s) = some false) : strings_TrimSuffix.f (bs A) (bs s) = some (bs A) := by
  unfold strings_TrimSuffix.f stringslite_TrimSuffix.f
  unfold strings_HasSuffix.f at h
  have h' : stringslite_HasSuffix.f (bs A) (bs s) = some false := by
    cases hh : stringslite_HasSuffix.f (bs A) (bs s) with
    | none => rw [hh] at h; cases h
    | some b => rw [hh] at h; simpa using h
  rw [h']; rfl
theorem con_of (A : List UInt8) (c : UInt8) (h : A.length ≤ 1000) : strings_Contains.f (bs A) (bs [c]) = some (Go.Lib.contains A [c]) := by
  unfold strings_Contains.f
  rw [if_pos (by rw [bs_size]; omega)]; rfl
theorem cnt_of (A : List UInt8) (c : UInt8) : strings_Count.f (bs A) (bs [c]) = some ((A.count c : Nat) : Int) := by
  unfold strings_Count.f
  rw [if_pos (by rw [bs_size]; rfl)]; rfl
theorem cut_of (A : List UInt8) (c : UInt8) (h : A.length ≤ 1000) : strings_Cut.f (bs A) (bs [c]) = some (bs (Go.Lib.cut A [c]).1, bs (Go.Lib.cut A [c]).2.1, (Go.Lib.cut A [c]).2.2) := by
  unfold strings_Cut.f
  rw [if_pos (by rw [bs_size]; omega)]; rfl
theorem atoi_of {A : List UInt8} {n : Int} (h : A.length ≤ 18) (e : Go.Lib.atoi A = some n) : strconv_Atoi.f (bs A) = some (n, none) := by
  unfold strconv_Atoi.f
  rw [if_pos (by rw [bs_size]; omega), bs_data, e]; rfl
theorem last_of {A : List UInt8} (h : Digs A) (hn : A ≠ []) : ∃ B c, A = B ++ [c] ∧ dg1 c := by
  rcases List.eq_nil_or_concat A with e | ⟨B, c, e⟩
  · exact absurd e hn
  · exact ⟨B, c, by rw [e]; simp, h c (by rw [e]; simp)⟩
theorem dg1_ne {c d : UInt8} (h : dg1 c) (hd : ¬ dg1 d) : c ≠ d := fun e => hd (e ▸ h)
instance (c : UInt8) : Decidable (dg1 c) := inferInstanceAs (Decidable (48 ≤ c.toNat ∧ c.toNat ≤ 57))
/-- how the text of a number begins -/
def Numeral (A : List UInt8) : Prop := ∃ c r, A = c :: r ∧ (c = 45 ∨ dg1 c)
theorem numeral_of {n : Int} {W r : List UInt8} (hW : W ≠ []) (hd : Digs W) : Numeral (sgn n ++ W ++ r) := by
  unfold sgn
  split
  · exact ⟨45, W ++ r, by simp, Or.inl rfl⟩
  · cases W with
    | nil => exact absurd rfl hW
    | cons c W => exact ⟨c, W ++ r, by simp, Or.inr (hd c (List.mem_cons_self ..))⟩
theorem Numeral.ne {A : List UInt8} (h : Numeral A) {d : UInt8} {r : List UInt8} (h1 : d ≠ 45) (h2 : ¬ dg1 d) : (bs A).toList ≠ d :: r := by
  obtain ⟨c, r', rfl, hc⟩ := h
  rw [bs_toList]
  intro e
  injection e with e1 e2
  rcases hc with rfl | hc
  · exact h1 e1.symm
  · exact h2 (e1 ▸ hc)
theorem ends_no {X D : List UInt8} (hD : Digs D) (hn : D ≠ []) (h : (X ++ D).length ≤ 1000) {s : List UInt8} {d : UInt8} (hd : ¬ dg1 d) : strings_HasSuffix.f (bs (X ++ D)) (bs (s ++ [d])) = some false := by
  obtain ⟨B, c, rfl, hc⟩ := last_of hD hn
  rw [← List.append_assoc] at h ⊢
  exact hs_no (dg1_ne hc hd) h
structure Reads (c x : Int) (A : List UInt8) : Prop where
  len : A.length ≤ 40
  text : Ev (fun k => unit_Text.f k c x) (bs A)
  form : unit_form.f (bs A) = some c
  number : unit_number.f c (bs A) = some (x, true)
theorem sgn_ne46 (x : Int) : ∀ b ∈ sgn x, b ≠ 46 := by unfold sgn; split <;> simp
theorem app_ne {A B : List UInt8} {c : UInt8} (h : ∀ b ∈ A, b ≠ c) (h' : ∀ b ∈ B, b ≠ c) : ∀ b ∈ A ++ B, b ≠ c := fun b hb => (List.mem_append.1 hb).elim (h b) (h' b)
theorem reads5 {x : Int} (l0 : 0 ≤ x) (l1 : x ≤ 1048576) : ∃ A, Reads 5 x A := by
  have hf := fit_in (c := 5) (by omega) (by omega) (x := x) (by have : uLo 5 = -1048576 := rfl; omega) l1
  obtain ⟨D, hD⟩ : ∃ D, D = Go.Lib.decDigits x.natAbs := ⟨_, rfl⟩
  have hd : Digs D := hD ▸ digs_dec _
  have hn : D ≠ [] := hD ▸ dec_ne _
  have hl : D.length ≤ 16 := by rw [hD]; exact dlen (by omega)
  have hs := sgn_len x
  have hB : (sgn x ++ D).length ≤ 17 := by simp only [List.length_append]; omega
  have n46 : ∀ b ∈ sgn x ++ D, b ≠ 46 := app_ne (sgn_ne46 x) (ne_of_digs hd (by decide))
  have n1 : ∀ (s : List UInt8) {d : UInt8}, ¬ dg1 d → strings_HasSuffix.f (bs (sgn x ++ D)) (bs (s ++ [d])) = some false := fun s d hdd => ends_no hd hn (by omega) hdd
  have hat : Go.Lib.atoi (sgn x ++ D ++ []) = some x := by rw [List.append_nil]; exact atoi_sgn hd hn (by rw [hD, decFrom_dec])
  have hit : strconv_Itoa.f x = some (bs (sgn x ++ D)) := by rw [itoa_of (by omega) (by omega), hD]
  have hnum : Numeral (sgn x ++ D) := by rw [← List.append_nil (sgn x ++ D)]; exact numeral_of hn hd
  refine ⟨sgn x ++ D, by omega, ?_, ?_, ?_⟩
  · unfold unit_Text.f
    rw [hf]; simp only [Option.bind_some, hit]
    exact Ev.ifn (by decide) (Ev.ifn (by decide) (Ev.ifn (by decide) (Ev.ifn (by decide) (Ev.ifp (by first | trivial | rfl) (Ev.now _)))))
  · have e1 : strings_HasSuffix.f (bs (sgn x ++ D)) (⟨#[37]⟩ : ByteArray) = some false := n1 [] (by decide)
    have e2 : strings_HasSuffix.f (bs (sgn x ++ D)) (⟨#[32, 100, 97, 121, 115]⟩ : ByteArray) = some false := n1 [32, 100, 97, 121] (by decide)
    have e3 : strings_Contains.f (bs (sgn x ++ D)) (⟨#[46]⟩ : ByteArray) = some false := by rw [lit46, con_of _ _ (by omega), contains_no n46]
    have e4 : strings_Count.f (bs (sgn x ++ D)) (⟨#[45]⟩ : ByteArray) = some (((sgn x).count 45 : Nat) : Int) := by rw [lit45, cnt_of, List.count_append, count_no (ne_of_digs hd (by decide)), Nat.add_zero]
    have h2 : (sgn x).count 45 ≤ 1 := Nat.le_trans List.count_le_length hs
    unfold unit_form.f
    rw [if_neg (hnum.ne (by decide) (by decide)), if_neg (hnum.ne (by decide) (by decide)), if_neg (hnum.ne (by decide) (by decide)), e1, e2, e3, e4]
    simp only [Option.bind_some]
    rw [if_neg (by decide), if_neg (by decide), if_neg (by decide), if_neg (by omega)]
  · have e1 : strings_TrimSuffix.f (bs (sgn x ++ D)) (⟨#[37]⟩ : ByteArray) = some (bs (sgn x ++ D)) := ts_no (n1 [] (by decide))
    have e2 : strings_TrimSuffix.f (bs (sgn x ++ D)) (⟨#[32, 100, 97, 121, 115]⟩ : ByteArray) = some (bs (sgn x ++ D)) := ts_no (n1 [32, 100, 97, 121] (by decide))
    have h3 := cut_of (sgn x ++ D) 46 (by omega)
    rw [cut_no n46] at h3
    have e3 : strings_Cut.f (bs (sgn x ++ D)) (⟨#[46]⟩ : ByteArray) = some (bs (sgn x ++ D), bs [], false) := h3
    unfold unit_number.f
    rw [if_neg (by omega), if_neg (by omega), if_neg (by omega), e1]
    simp only [Option.bind_some]
    rw [e2]
    simp only [Option.bind_some]
    rw [e3]
    simp only [Option.bind_some, bs_append, bs_size]
    rw [if_neg (by omega), if_pos (by simp only [List.length_nil]; omega), atoi_of (by rw [List.append_nil]; omega) hat]
    rfl
theorem reads0 : ∃ A, Reads 0 0 A := ⟨[110, 111, 110, 101], by decide, ⟨0, fun k _ => rfl⟩, by decide +kernel, rfl⟩
theorem check_of {c x : Int} (h : ∃ lo hi, unit_Range.f c = some (lo, hi) ∧ lo ≤ x ∧ x ≤ hi) (h0 : 0 ≤ c) (h1 : c ≤ 6) : unit_Check.f c x = some 0 ∧ unit_Fit.f c x = some (c, x) := by
  obtain ⟨lo, hi, hr, a, b⟩ := h
  have hk : unit_known.f c = some true := by unfold unit_known.f; rw [if_pos h0, decide_eq_true h1]
  unfold unit_Check.f unit_Fit.f
  rw [hr, hk]
  simp only [Option.bind_some, if_true]
  refine ⟨by rw [if_neg (by omega), if_neg (by omega)], ?_⟩
  congr 2
  unfold mx mn; repeat' split <;> omega
theorem read_of {c x : Int} {A : List UInt8} (h : Reads c x A) (hk : unit_Check.f c x = some 0) : Ev (fun k => unit_Read.f k (bs A)) (c, x, 0) := by
  unfold unit_Read.f
  have := h.len
  rw [h.form]; simp only [Option.bind_some]
  rw [h.number]; simp only [Option.bind_some]
  refine Ev.ifn (by rw [bs_size]; omega) (Ev.ifp trivial ?_)
  simp only [hk, Option.bind_some]
  exact Ev.ifp trivial (Ev.bind h.text (Ev.ifp rfl (Ev.now _)))
theorem money_of : Ev (fun k => unit_Text.f k 2 1250) (bs [49, 50, 46, 53, 48]) := by
  have hf := fit_in (c := 2) (by omega) (by omega) (x := 1250) (by decide) (by decide)
  have d1250 : Go.Lib.decDigits 1250 = [49, 50, 53, 48] := by
    rw [Go.Lib.decDigits, dif_neg (by decide), Go.Lib.decDigits, dif_neg (by decide), Go.Lib.decDigits_two (by decide) (by decide)]; rfl
  have hp : unit_pad.f 1250 3 = some (bs [49, 50, 53, 48]) := by
    rw [pad_of (by omega) (by omega) (by omega) (by omega)]
    unfold padL
    rw [show (1250 : Int).toNat = 1250 from rfl, d1250]; rfl
  unfold unit_Text.f
  rw [hf]; simp only [Option.bind_some]
  refine Ev.ifn (by decide) (Ev.ifp (by first | trivial | rfl) (Ev.bind ?_ (Ev.now _)))
  unfold unit_point.f
  refine Ev.ifn (by decide) ?_
  rw [show wrap64 (2 + 1) = 3 by simp [wrap64], hp]
  simp only [Option.bind_some, bs_size]
  rw [show wrap64 ((([49, 50, 53, 48] : List UInt8).length : Int) - 2) = 2 by simp [wrap64], bs_extract, bs_extract]
  refine Ev.ifp (by decide) (Ev.ifp (by decide) (Ev.step (f := fun _ => some (bs [49, 50, 46, 53, 48])) (fun k => ?_) (Ev.now _)))
  simp only [unit_point.l0]
  rw [litE, if_neg (by rw [bs_size]; decide)]
  exact fin_of [] [49, 50] [53, 48] (by decide)
def tA : ByteArray := ⟨#[97]⟩
def tB : ByteArray := ⟨#[98]⟩
/-- a fact of the two parties, as `facts` makes them -/
structure Good (f : S48) : Prop where
  who : f.f0 = 0 ∨ f.f0 = 1
  attr : f.f1 = tA ∨ f.f1 = tB
  val : (f.f2.f0 = 0 ∧ f.f2.f1 = 0) ∨ (f.f2.f0 = 5 ∧ 0 ≤ f.f2.f1 ∧ f.f2.f1 < 4)
  from0 : 0 ≤ f.f3
  from1 : f.f3 < 60
  to0 : f.f3 < f.f4
  to1 : f.f4 ≤ f.f3 + 30
  known0 : 0 ≤ f.f5
  known1 : f.f5 ≤ 30
theorem facts_l0 (m : Int) (hm : m < 12) (n : Nat) : ∀ (i : Nat) (l : List S48) (st : List Int), (i : Int) ≤ max m 0 → (max m 0 - i).toNat = n → l.length = i → (∀ f ∈ l, Good f ∧ f.f5 < 20) →
    ∃ F, Ev (fun k => mootkeep1_facts.l0 k l m (i : Int) st) F ∧ F.length ≤ 11 ∧ ∀ f ∈ F, Good f ∧ f.f5 < 20 := by
  induction n with
  | zero =>
    intro i l st hi hn hl hg
    refine ⟨l, Ev.step (f := fun _ => some l) (fun k => ?_) (Ev.now _), by omega, hg⟩
    simp only [mootkeep1_facts.l0]
    rw [if_neg (by omega)]
  | succ n ih =>
    intro i l st hi hn hl hg
    have hi11 : i < 11 := by omega
    obtain ⟨a, s1, e1, a0, a1⟩ := next_of st 2 (by omega) (by omega)
    obtain ⟨b, s2, e2, b0, b1⟩ := next_of s1 2 (by omega) (by omega)
    obtain ⟨c, s3, e3, c0, c1⟩ := next_of s2 4 (by omega) (by omega)
    obtain ⟨d, s4, e4, d0, d1⟩ := next_of s3 60 (by omega) (by omega)
    obtain ⟨x, s5, e5, x0, x1⟩ := next_of s4 20 (by omega) (by omega)
    obtain ⟨y, s6, e6, y0, y1⟩ := next_of s5 30 (by omega) (by omega)
    obtain ⟨z, s7, e7, z0, z1⟩ := next_of s6 5 (by omega) (by omega)
    have hw : wrap64 (wrap64 (d + 1) + y) = d + 1 + y := by rw [w64 (x := d + 1) (by omega) (by omega), w64 (by omega) (by omega)]
    have hat : rdOf ByteArray.empty [tA, tB] b = tA ∨ rdOf ByteArray.empty [tA, tB] b = tB := by
      rcases (show b = 0 ∨ b = 1 by omega) with rfl | rfl
      · exact .inl rfl
      · exact .inr rfl
    have main : ∀ v w : Int, (v = 0 ∧ w = 0) ∨ (v = 5 ∧ 0 ≤ w ∧ w < 4) → ∃ F, Ev (fun k => mootkeep1_facts.j1 k l m (i : Int) s7 a (rdOf ByteArray.empty [tA, tB] b) v w d (d + 1 + y) x) F ∧ F.length ≤ 11 ∧ ∀ f ∈ F, Good f ∧ f.f5 < 20 := by
      intro v w hvw
      obtain ⟨F, hF, h⟩ := ih (i + 1) (l ++ [(⟨a, rdOf ByteArray.empty [tA, tB] b, (⟨v, w⟩ : S46), d, d + 1 + y, x⟩ : S48)]) s7 (by omega) (by omega) (by simp [hl]) (fun f hf => by
        rcases List.mem_append.1 hf with hf | hf
        · exact hg f hf
        · rw [List.mem_singleton.1 hf]
          exact ⟨⟨by show a = 0 ∨ a = 1; omega, hat, hvw, d0, d1, by show d < d + 1 + y; omega, by show d + 1 + y ≤ d + 30; omega, x0, by show x ≤ 30; omega⟩, x1⟩)
      refine ⟨F, Ev.step (fun k => ?_) hF, h⟩
      simp only [mootkeep1_facts.j1]
      rw [if_pos (by omega), w64 (x := (i : Int) + 1) (by omega) (by omega), show (i : Int) + 1 = ((i + 1 : Nat) : Int) from by omega]
    by_cases hz : z = 1
    · obtain ⟨F, hF, h⟩ := main 0 0 (.inl ⟨rfl, rfl⟩)
      refine ⟨F, Ev.step (fun k => ?_) hF, h⟩
      simp only [mootkeep1_facts.l0]
      rw [if_pos (by omega), e1]
      simp only [Option.bind_some]
      rw [e2]
      simp only [Option.bind_some]
      rw [if_pos (by omega), if_pos (by simp; omega), e3]
      simp only [Option.bind_some]
      rw [e4]
      simp only [Option.bind_some]
      rw [e5]
      simp only [Option.bind_some]
      rw [e6]
      simp only [Option.bind_some]
      rw [e7]
      simp only [Option.bind_some]
      rw [if_pos hz, hw]
      rfl
    · obtain ⟨F, hF, h⟩ := main 5 c (.inr ⟨rfl, c0, c1⟩)
      refine ⟨F, Ev.step (fun k => ?_) hF, h⟩
      simp only [mootkeep1_facts.l0]
      rw [if_pos (by omega), e1]
      simp only [Option.bind_some]
      rw [e2]
      simp only [Option.bind_some]
      rw [if_pos (by omega), if_pos (by simp; omega), e3]
      simp only [Option.bind_some]
      rw [e4]
      simp only [Option.bind_some]
      rw [e5]
      simp only [Option.bind_some]
      rw [e6]
      simp only [Option.bind_some]
      rw [e7]
      simp only [Option.bind_some]
      rw [if_neg hz, hw]
      rfl
theorem facts_of (l : List Int) : ∃ F, Ev (fun k => mootkeep1_facts.f k l) F ∧ F.length ≤ 11 ∧ ∀ f ∈ F, Good f ∧ f.f5 < 20 := by
  obtain ⟨m, s1, e1, m0, m1⟩ := next_of l 12 (by omega) (by omega)
  obtain ⟨F, hF, h⟩ := facts_l0 m m1 _ 0 [] s1 (by omega) rfl rfl (fun f hf => by simp at hf)
  refine ⟨F, ?_, h⟩
  simp only [mootkeep1_facts.f]
  rw [e1]
  exact hF
/-! #### the text of a fact -/
theorem bname_of {s : ByteArray} (h : s = tA ∨ s = tB) : fact_Name.f s = some true := by
  rcases h with rfl | rfl <;> decide
theorem bone_of {f : S48} (h : Good f) : Ev (fun k => fact_One.f k f.f0 f.f1 f.f2.f0 f.f2.f1 f.f3 f.f4 f.f5) 0 := by
  have := h.from0; have := h.from1; have := h.to0; have := h.to1; have := h.known0; have := h.known1
  have hu : unit_Check.f f.f2.f0 f.f2.f1 = some 0 := by
    rcases h.val with ⟨h1, h2⟩ | ⟨h1, h2, h3⟩
    · rw [h1, h2]; exact (check_of ⟨0, 0, rfl, by omega, by omega⟩ (by omega) (by omega)).1
    · rw [h1]; exact (check_of ⟨-1048576, 1048576, rfl, by omega, by omega⟩ (by omega) (by omega)).1
  simp only [fact_One.f]
  rw [bname_of h.attr, hu]
  simp only [Option.bind_some]
  refine Ev.ifn (by have := h.who; omega) (Ev.ifp trivial (Ev.ifp trivial (Ev.ifn (by omega) (Ev.ifn (by omega) ?_))))
  refine Ev.step (f := fun _ => some 0) (fun k => ?_) (Ev.now _)
  simp only [fact_One.j0]
  rw [if_neg (by simp; omega), if_neg (by omega), if_neg (by omega)]
def dec (n : Int) : List UInt8 := Go.Lib.decDigits n.natAbs
theorem dec_digs (n : Int) : Digs (dec n) := digs_dec _
theorem itoa_nn {n : Int} (h0 : 0 ≤ n) (h1 : n ≤ 10000) : strconv_Itoa.f n = some (bs (dec n)) := by
  rw [itoa_of (by omega) (by omega), show sgn n = [] from by unfold sgn; rw [if_neg (by omega)]]; rfl
theorem dec_len {n : Int} (h0 : 0 ≤ n) (h1 : n ≤ 10000) : (dec n).length ≤ 5 := dec_len_le (k := 4) (by omega)
theorem dec_atoi {n : Int} (h0 : 0 ≤ n) (h1 : n ≤ 10000) : strconv_Atoi.f (bs (dec n)) = some (n, none) := by
  have := dec_len h0 h1
  refine atoi_of (by omega) ?_
  rw [atoi_digs (dec_digs n) (dec_ne _) (decFrom_dec _)]
  congr 1; omega
/-- the bytes of a fact's text -/
def btext (f : S48) (A : List UInt8) : List UInt8 := dec f.f5 ++ 32 :: (dec f.f0 ++ 32 :: (f.f1.data.toList ++ 32 :: (dec f.f3 ++ 32 :: (dec f.f4 ++ 32 :: A))))
theorem join6 (a b c d e g : List UInt8) : Go.Lib.join [a, b, c, d, e, g] [32] = a ++ 32 :: (b ++ 32 :: (c ++ 32 :: (d ++ 32 :: (e ++ 32 :: g)))) := by
  simp [Go.Lib.join, List.intercalate, List.intersperse]
theorem bjoin {a b c d e g : List UInt8} (h : a.length + b.length + c.length + d.length + e.length + g.length ≤ 1000) : strings_Join.f ([bs a, bs b, bs c, bs d, bs e, bs g] : List ByteArray) (⟨#[32]⟩ : ByteArray) = some (bs (a ++ 32 :: (b ++ 32 :: (c ++ 32 :: (d ++ 32 :: (e ++ 32 :: g)))))) := by
  have hj := join6 a b c d e g
  have e1 : ([bs a, bs b, bs c, bs d, bs e, bs g] : List ByteArray).map (·.data.toList) = [a, b, c, d, e, g] := rfl
  have e2 : (⟨#[32]⟩ : ByteArray).data.toList = [32] := rfl
  unfold strings_Join.f
  rw [e1, e2, hj, if_pos ⟨by simp, by simp, by simp only [List.length_append, List.length_cons]; omega⟩]
  rfl
theorem split_step {A B : List UInt8} {c : UInt8} (k : Nat) (h : ∀ b ∈ A, b ≠ c) : Go.Lib.splitB (bs [c]) 0 (k + 1) (bs (A ++ c :: B)) = bs A :: Go.Lib.splitB (bs [c]) 0 k (bs B) := by
  rw [Go.Lib.splitB_hit (bs [c]) 0 k _ A.length (by rw [indexB_bs, index_skip h])]
  rw [bs_extract, bs_extract, bs_size, bs_size]
  congr 2
  · simp
  · rw [List.take_of_length_le (Nat.le_refl _), show A ++ c :: B = (A ++ [c]) ++ B by simp, List.drop_append_of_le_length (by simp)]
    congr 1; simp
theorem attr_ne {s : ByteArray} (h : s = tA ∨ s = tB) : ∀ b ∈ s.data.toList, b ≠ 32 := by
  rcases h with rfl | rfl <;> (intro b hb; revert b; decide)
theorem attr_len {s : ByteArray} (h : s = tA ∨ s = tB) : s.data.toList.length = 1 := by
  rcases h with rfl | rfl <;> rfl
theorem bsplit {f : S48} (h : Good f) {A : List UInt8} (hA : A.length ≤ 40) : strings_SplitN.f (bs (btext f A)) (⟨#[32]⟩ : ByteArray) 6 = some [bs (dec f.f5), bs (dec f.f0), f.f1, bs (dec f.f3), bs (dec f.f4), bs A] := by
  have := h.from0; have := h.from1; have := h.to0; have := h.to1; have := h.known0; have := h.known1; have hw := h.who; have ha := attr_len h.attr
  have l1 := dec_len (n := f.f5) (by omega) (by omega); have l2 := dec_len (n := f.f0) (by omega) (by omega); have l3 := dec_len (n := f.f3) (by omega) (by omega); have l4 := dec_len (n := f.f4) (by omega) (by omega)
  have m1 := dec_len_pos f.f5.natAbs
  have hl : (btext f A).length ≤ 100 ∧ 5 ≤ (btext f A).length := by unfold btext; simp only [List.length_append, List.length_cons]; omega
  unfold strings_SplitN.f
  rw [if_pos ⟨by rw [bs_size]; omega, by decide, by omega, by omega⟩, bs_size, show min (6 : Int).toNat ((btext f A).length + 1) - 1 = 0 + 1 + 1 + 1 + 1 + 1 from by have : (6 : Int).toNat = 6 := rfl; omega]
  have n1 : ∀ n, ∀ b ∈ dec n, b ≠ 32 := fun n => ne_of_digs (dec_digs n) (by decide)
  unfold btext
  rw [show (⟨#[32]⟩ : ByteArray) = bs [32] from rfl, split_step _ (n1 _), split_step _ (n1 _), split_step _ (attr_ne h.attr), split_step _ (n1 _), split_step _ (n1 _), Go.Lib.splitB_zero, ← bs_of f.f1]
/-- what a text is of a fact -/
structure TextOf (f : S48) (t : ByteArray) : Prop where
  len : t.size ≤ 300
  text : Ev (fun k => book_Text.f k f.f0 f.f1 f.f2.f0 f.f2.f1 f.f3 f.f4 f.f5) (t, 0)
  read : Ev (fun k => book_Read.f k t) (f.f0, f.f1, f.f2.f0, f.f2.f1, f.f3, f.f4, f.f5, 0)
theorem textOf {f : S48} (h : Good f) : ∃ t, TextOf f t := by
  have := h.from0; have := h.from1; have := h.to0; have := h.to1; have := h.known0; have := h.known1; have hw := h.who; have ha := attr_len h.attr
  obtain ⟨A, hA⟩ : ∃ A, Reads f.f2.f0 f.f2.f1 A := by
    rcases h.val with ⟨h1, h2⟩ | ⟨h1, h2, h3⟩
    · rw [h1, h2]; exact reads0
    · rw [h1]; exact reads5 (by omega) (by omega)
  have hck : unit_Check.f f.f2.f0 f.f2.f1 = some 0 := by
    rcases h.val with ⟨h1, h2⟩ | ⟨h1, h2, h3⟩
    · rw [h1, h2]; exact (check_of ⟨0, 0, rfl, by omega, by omega⟩ (by omega) (by omega)).1
    · rw [h1]; exact (check_of ⟨-1048576, 1048576, rfl, by omega, by omega⟩ (by omega) (by omega)).1
  have l0 := hA.len
  have l1 := dec_len (n := f.f5) (by omega) (by omega); have l2 := dec_len (n := f.f0) (by omega) (by omega); have l3 := dec_len (n := f.f3) (by omega) (by omega); have l4 := dec_len (n := f.f4) (by omega) (by omega)
  have hl : (btext f A).length ≤ 100 := by unfold btext; simp only [List.length_append, List.length_cons]; omega
  have ht : Ev (fun k => book_Text.f k f.f0 f.f1 f.f2.f0 f.f2.f1 f.f3 f.f4 f.f5) (bs (btext f A), 0) := by
    simp only [book_Text.f]
    refine Ev.bind (bone_of h) (Ev.ifp rfl ?_)
    rw [itoa_nn (n := f.f5) (by omega) (by omega), itoa_nn (n := f.f0) (by omega) (by omega), itoa_nn (n := f.f3) (by omega) (by omega), itoa_nn (n := f.f4) (by omega) (by omega)]
    simp only [Option.bind_some]
    refine Ev.bind hA.text ?_
    have hj := bjoin (a := dec f.f5) (b := dec f.f0) (c := f.f1.data.toList) (d := dec f.f3) (e := dec f.f4) (g := A) (by omega)
    rw [← bs_of f.f1] at hj
    rw [hj]
    exact Ev.now _
  refine ⟨bs (btext f A), by rw [bs_size]; omega, ht, ?_⟩
  simp only [book_Read.f]
  rw [bsplit h (by omega)]
  simp only [Option.bind_some]
  obtain ⟨P1, hP1⟩ : ∃ P, P = bs (dec f.f5) := ⟨_, rfl⟩
  obtain ⟨P2, hP2⟩ : ∃ P, P = bs (dec f.f0) := ⟨_, rfl⟩
  obtain ⟨P3, hP3⟩ : ∃ P, P = bs (dec f.f3) := ⟨_, rfl⟩
  obtain ⟨P4, hP4⟩ : ∃ P, P = bs (dec f.f4) := ⟨_, rfl⟩
  have e1 := dec_atoi (n := f.f5) (by omega) (by omega); have e2 := dec_atoi (n := f.f0) (by omega) (by omega); have e3 := dec_atoi (n := f.f3) (by omega) (by omega); have e4 := dec_atoi (n := f.f4) (by omega) (by omega)
  rw [← hP1] at e1; rw [← hP2] at e2; rw [← hP3] at e3; rw [← hP4] at e4
  rw [← hP1, ← hP2, ← hP3, ← hP4]
  obtain ⟨PA, hPA⟩ : ∃ P, P = bs A := ⟨_, rfl⟩
  have er := read_of hA hck
  rw [← hPA] at er ⊢
  obtain ⟨TT, hTT⟩ : ∃ P, P = bs (btext f A) := ⟨_, rfl⟩
  rw [← hTT] at ht ⊢
  obtain ⟨L, hLL⟩ : ∃ L, L = [P1, P2, f.f1, P3, P4, PA] := ⟨_, rfl⟩
  have hL6 : (L.length : Int) = 6 := by rw [hLL]; rfl
  have a2 : rdOf ByteArray.empty L 2 = f.f1 := by rw [hLL]; rfl
  have a5 : rdOf ByteArray.empty L 5 = PA := by rw [hLL]; rfl
  have a0 : rdOf ByteArray.empty L 0 = P1 := by rw [hLL]; rfl
  have a1 : rdOf ByteArray.empty L 1 = P2 := by rw [hLL]; rfl
  have a3 : rdOf ByteArray.empty L 3 = P3 := by rw [hLL]; rfl
  have a4 : rdOf ByteArray.empty L 4 = P4 := by rw [hLL]; rfl
  rw [← hLL]
  rw [a0, a1, a3, a4]
  refine Ev.ifn (by omega) (Ev.ifp (by omega) (Ev.ifp (by omega) (Ev.ifp (by omega) (Ev.ifp (by omega) (Ev.ifp (by omega) ?_)))))
  show Ev (fun k => book_Read.l0 k TT L [0, 0, 0, 0] [P1, P2, P3, P4] 4 0) _
  have g0 : strconv_Atoi.f (rdOf ByteArray.empty [P1, P2, P3, P4] 0) = some (f.f5, none) := e1
  have g1 : strconv_Atoi.f (rdOf ByteArray.empty [P1, P2, P3, P4] 1) = some (f.f0, none) := e2
  have g2 : strconv_Atoi.f (rdOf ByteArray.empty [P1, P2, P3, P4] 2) = some (f.f3, none) := e3
  have g3 : strconv_Atoi.f (rdOf ByteArray.empty [P1, P2, P3, P4] 3) = some (f.f4, none) := e4
  have hn : (none : Option Int).isNone = true := rfl
  refine Ev.step (f := fun k => book_Read.l0 k TT L [f.f5, 0, 0, 0] [P1, P2, P3, P4] 4 1) (fun k => ?_) ?_
  · simp only [book_Read.l0]
    rw [if_pos (by omega), if_pos (by omega), if_pos (by simp), g0]
    simp only [Option.bind_some]
    rw [if_pos hn, if_pos (by simp), w64 (by omega) (by omega)]
    rfl
  refine Ev.step (f := fun k => book_Read.l0 k TT L [f.f5, f.f0, 0, 0] [P1, P2, P3, P4] 4 2) (fun k => ?_) ?_
  · simp only [book_Read.l0]
    rw [if_pos (by omega), if_pos (by omega), if_pos (by simp), g1]
    simp only [Option.bind_some]
    rw [if_pos hn, if_pos (by simp), w64 (by omega) (by omega)]
    rfl
  refine Ev.step (f := fun k => book_Read.l0 k TT L [f.f5, f.f0, f.f3, 0] [P1, P2, P3, P4] 4 3) (fun k => ?_) ?_
  · simp only [book_Read.l0]
    rw [if_pos (by omega), if_pos (by omega), if_pos (by simp), g2]
    simp only [Option.bind_some]
    rw [if_pos hn, if_pos (by simp), w64 (by omega) (by omega)]
    rfl
  refine Ev.step (f := fun k => book_Read.l0 k TT L [f.f5, f.f0, f.f3, f.f4] [P1, P2, P3, P4] 4 4) (fun k => ?_) ?_
  · simp only [book_Read.l0]
    rw [if_pos (by omega), if_pos (by omega), if_pos (by simp), g3]
    simp only [Option.bind_some]
    rw [if_pos hn, if_pos (by simp), w64 (by omega) (by omega)]
    rfl
  have r0 : rd [f.f5, f.f0, f.f3, f.f4] 0 = f.f5 := rfl
  have r1 : rd [f.f5, f.f0, f.f3, f.f4] 1 = f.f0 := rfl
  have r2 : rd [f.f5, f.f0, f.f3, f.f4] 2 = f.f3 := rfl
  have r3 : rd [f.f5, f.f0, f.f3, f.f4] 3 = f.f4 := rfl
  refine Ev.step (f := fun k => (unit_Read.f k PA).bind fun bt => if bt.2.2 = 0 then ((book_Text.f k f.f0 f.f1 bt.1 bt.2.1 f.f3 f.f4 f.f5).bind fun bt' => (if bt'.2 = 0 then (if bt'.1.toList = TT.toList then (some (f.f0, f.f1, bt.1, bt.2.1, f.f3, f.f4, f.f5, 0)) else none) else none)) else none) (fun k => ?_) ?_
  · simp only [book_Read.l0]
    rw [if_neg (by omega), if_pos (by omega), a5]
    congr 1
    funext bt
    rw [if_pos (by simp), if_pos (by simp), if_pos (by omega), if_pos (by simp), if_pos (by simp), r0, r1, r2, r3, a2]
  refine Ev.bind er (Ev.ifp rfl (Ev.bind ht (Ev.ifp rfl (Ev.ifp rfl (Ev.now _)))))
/-! #### a chain of entries -/
theorem dig_of (s : Int) {t : ByteArray} (h : t.size ≤ 300) : ∃ d, book_Digest.f s t = some d := by
  unfold book_Digest.f; rw [if_pos (by omega)]; exact ⟨_, rfl⟩
inductive Chain : Int → Int → List S48 → List S33 → Int → Int → Prop
  | nil (s x : Int) : Chain s x [] [] s x
  | cons (s x : Int) (f : S48) (t : ByteArray) (d : Int) (fs : List S48) (es : List S33) (s' x' : Int) : Good f → x ≤ f.f5 → TextOf f t → book_Digest.f s t = some d → Chain d f.f5 fs es s' x' → Chain s x (f :: fs) (⟨t, d⟩ :: es) s' x'
theorem Chain.len {s x s' x' : Int} {fs : List S48} {es : List S33} (h : Chain s x fs es s' x') : es.length = fs.length := by
  induction h with
  | nil => rfl
  | cons _ _ _ _ _ _ _ _ _ _ _ _ _ _ ih => simp [ih]
theorem Chain.snoc {s x s' x' : Int} {fs : List S48} {es : List S33} (h : Chain s x fs es s' x') {f : S48} {t : ByteArray} {d : Int} (hg : Good f) (hx : x' ≤ f.f5) (ht : TextOf f t) (hd : book_Digest.f s' t = some d) : Chain s x (fs ++ [f]) (es ++ [⟨t, d⟩]) d f.f5 := by
  induction h with
  | nil s x => exact .cons _ _ _ _ _ _ _ _ _ hg hx ht hd (.nil _ _)
  | cons s x f' t' d' fs' es' s' x' h1 h2 h3 h4 _ ih => exact .cons _ _ _ _ _ _ _ _ _ h1 h2 h3 h4 (ih hx hd)
theorem Chain.take {s x s' x' : Int} {fs : List S48} {es : List S33} (h : Chain s x fs es s' x') : ∀ k, ∃ s'' x'', Chain s x (fs.take k) (es.take k) s'' x'' := by
  induction h with
  | nil s x => intro k; simp only [List.take_nil]; exact ⟨_, _, .nil _ _⟩
  | cons s x f t d fs es s' x' h1 h2 h3 h4 _ ih =>
    intro k
    cases k with
    | zero => exact ⟨_, _, .nil _ _⟩
    | succ k =>
      obtain ⟨s'', x'', h⟩ := ih k
      exact ⟨_, _, .cons _ _ _ _ _ _ _ _ _ h1 h2 h3 h4 h⟩
theorem Chain.last {s x s' x' : Int} {fs : List S48} {es : List S33} (h : Chain s x fs es s' x') : (es = [] ∧ s' = s ∧ x' = x) ∨ ∃ es0 t f, es = es0 ++ [⟨t, s'⟩] ∧ TextOf f t ∧ f.f5 = x' := by
  induction h with
  | nil s x => exact .inl ⟨rfl, rfl, rfl⟩
  | cons s x f t d fs es s' x' h1 h2 h3 h4 _ ih =>
    rcases ih with ⟨rfl, rfl, rfl⟩ | ⟨es0, t', f', rfl, h5, h6⟩
    · exact .inr ⟨[], t, f, rfl, h3, rfl⟩
    · exact .inr ⟨⟨t, d⟩ :: es0, t', f', rfl, h5, h6⟩
theorem drop_ent (l : List S33) (i : Nat) (h : i < l.length) : l.drop i = rd_T33 l (i : Int) :: l.drop (i + 1) := by
  rw [List.drop_eq_getElem_cons h]
  unfold rd_T33
  simp [List.getD, h]
theorem drop_fact (l : List S48) (i : Nat) (h : i < l.length) : l.drop i = rd_T48 l (i : Int) :: l.drop (i + 1) := by
  rw [List.drop_eq_getElem_cons h]
  unfold rd_T48
  simp [List.getD, h]
theorem check_l0 (l : List S33) (hl : l.length ≤ 500) (n : Nat) : ∀ (i : Nat) (s x s' x' : Int) (fs : List S48), l.length - i = n → i ≤ l.length → Chain s x fs (l.drop i) s' x' → Ev (fun k => book_Check.l0 k s x l (l.length : Int) (i : Int)) (0, 0) := by
  induction n with
  | zero =>
    intro i s x s' x' fs hn hi h
    refine Ev.step (f := fun _ => some (0, 0)) (fun k => ?_) (Ev.now _)
    simp only [book_Check.l0]
    rw [if_neg (by omega)]
  | succ n ih =>
    intro i s x s' x' fs hn hi h
    have hlt : i < l.length := by omega
    obtain ⟨e, he0⟩ : ∃ e, e = rd_T33 l (i : Int) := ⟨_, rfl⟩
    rw [drop_ent l i hlt, ← he0] at h
    cases h with
    | cons _ _ f t d fs' _ _ _ h1 h2 h3 h4 h5 =>
      have he := he0
      have ih' := ih (i + 1) d f.f5 s' x' fs' (by omega) (by omega) h5
      refine Ev.step (f := fun k => (book_Read.f k t).bind fun bt => (if bt.2.2.2.2.2.2.2 = 0 then (if bt.2.2.2.2.2.2.1 < x then none else ((book_Digest.f s t).bind fun t251 => (if t251 = d then (book_Check.l0 k d bt.2.2.2.2.2.2.1 l (l.length : Int) ((i + 1 : Nat) : Int)) else none))) else none)) (fun k => ?_) ?_
      · simp only [book_Check.l0]
        rw [if_pos (by omega), if_pos (by omega), if_pos (by omega), ← he, w64_succ hlt (by omega)]
      · refine Ev.bind h3.read (Ev.ifp rfl (Ev.ifn (by show ¬ f.f5 < x; omega) ?_))
        rw [h4]
        simp only [Option.bind_some]
        exact Ev.ifp trivial ih'
theorem bcheck_of {l : List S33} {s' x' : Int} {fs : List S48} (hl : l.length ≤ 500) (h : Chain 0 0 fs l s' x') : Ev (fun k => book_Check.f k l) (0, 0) := by
  simp only [book_Check.f]
  refine Ev.ifn (by omega) ?_
  exact check_l0 l hl _ 0 0 0 s' x' fs rfl (by omega) h
/-! #### entries are added -/
theorem rd_last (es0 : List S33) (e : S33) : rd_T33 (es0 ++ [e]) (es0.length : Int) = e := by
  unfold rd_T33
  simp [List.getD]
theorem add_of {l : List S33} {s' x' : Int} {fs : List S48} (hl : l.length ≤ 100) (h : Chain 0 0 fs l s' x') {f : S48} {t : ByteArray} {d : Int} (hx : x' ≤ f.f5) (ht : TextOf f t) (hd : book_Digest.f s' t = some d) :
    Ev (fun k => book_Add.f k l f.f0 f.f1 f.f2.f0 f.f2.f1 f.f3 f.f4 f.f5) (l ++ [⟨t, d⟩], 0) := by
  simp only [book_Add.f]
  refine Ev.bind (bcheck_of (by omega) h) (Ev.ifp rfl (Ev.bind ht.text (Ev.ifp rfl (Ev.ifn (by omega) ?_))))
  rcases h.last with ⟨rfl, rfl, rfl⟩ | ⟨es0, t0, f0, rfl, h5, h6⟩
  · refine Ev.ifn (by simp) ?_
    simp only [Option.bind_some]
    refine Ev.ifp (by simp) ?_
    rw [hd]
    simp only [Option.bind_some]
    exact Ev.ifp (by simp) (Ev.to rfl)
  · have hlen : ((es0 ++ [(⟨t0, s'⟩ : S33)]).length : Int) - 1 = (es0.length : Int) := by simp
    have hln : (es0 ++ [(⟨t0, s'⟩ : S33)]).length = es0.length + 1 := by simp
    refine Ev.ifp (by omega) ?_
    rw [w64 (x := ((es0 ++ [(⟨t0, s'⟩ : S33)]).length : Int) - 1) (by omega) (by omega), hlen, rd_last]
    refine Ev.ifp (by omega) (Ev.ifp (by omega) (Ev.bind h5.read (Ev.ifn (by show ¬ f.f5 < f0.f5; omega) ?_)))
    simp only [Option.bind_some]
    refine Ev.ifp (by simp; omega) ?_
    rw [hd]
    simp only [Option.bind_some]
    exact Ev.ifp (by simp; omega) (Ev.to (by simp))
/-- facts in the order in which they became known -/
def Rising (x : Int) : List S48 → Prop
  | [] => True
  | f :: r => x ≤ f.f5 ∧ Rising f.f5 r
theorem journal_l0 (G : List S48) (hG : G.length ≤ 19) (hg : ∀ f ∈ G, Good f) (hb : Ev (fun k => mootkeep1_books.f k) true) (n : Nat) : ∀ (i : Nat) (E : List S33) (s x : Int), G.length - i = n → i ≤ G.length → Chain 0 0 (G.take i) E s x → Rising x (G.drop i) →
    ∃ E' s' x', Chain 0 0 G E' s' x' ∧ Ev (fun k => mootkeep1_journal.l0 k G E G (G.length : Int) (i : Int)) (E', G, true) := by
  induction n with
  | zero =>
    intro i E s x hn hi h hr
    obtain rfl : i = G.length := by omega
    rw [List.take_length] at h
    refine ⟨E, s, x, h, Ev.step (f := fun k => (mootkeep1_books.f k).bind fun t => some (E, G, t)) (fun k => ?_) (Ev.bind hb (Ev.now _))⟩
    simp only [mootkeep1_journal.l0]
    rw [if_neg (by omega)]
  | succ n ih =>
    intro i E s x hn hi h hr
    have hlt : i < G.length := by omega
    obtain ⟨f, hf⟩ : ∃ f, f = rd_T48 G (i : Int) := ⟨_, rfl⟩
    have hdr := drop_fact G i hlt
    rw [← hf] at hdr
    rw [hdr] at hr
    have hmem : f ∈ G := List.mem_of_mem_drop (i := i) (by rw [hdr]; exact List.mem_cons_self ..)
    have hEl := h.len
    rw [List.length_take] at hEl
    obtain ⟨t, ht⟩ := textOf (hg f hmem)
    obtain ⟨d, hd⟩ := dig_of s ht.len
    have hadd := add_of (l := E) (by omega) h hr.1 ht hd
    have hsn := h.snoc (hg f hmem) hr.1 ht hd
    have htk : G.take (i + 1) = G.take i ++ [f] := by
      rw [List.take_add_one, List.getElem?_eq_getElem hlt]
      have : f = G[i] := by rw [hf]; unfold rd_T48; simp [List.getD, hlt]
      rw [this]; rfl
    rw [← htk] at hsn
    obtain ⟨E', s', x', h1, h2⟩ := ih (i + 1) (E ++ [⟨t, d⟩]) d f.f5 (by omega) (by omega) hsn hr.2
    refine ⟨E', s', x', h1, Ev.step (f := fun k => (book_Add.f k E f.f0 f.f1 f.f2.f0 f.f2.f1 f.f3 f.f4 f.f5).bind fun bt => (if bt.2 = 0 then (if (bt.1.length : Int) = ((E.length + 1 : Nat) : Int) then (mootkeep1_journal.l0 k G bt.1 G (G.length : Int) ((i + 1 : Nat) : Int)) else none) else none)) (fun k => ?_) (Ev.bind hadd (Ev.ifp rfl (Ev.ifp (by simp) h2)))⟩
    simp only [mootkeep1_journal.l0]
    rw [if_pos (by omega), if_pos (by omega), if_pos (by omega), ← hf, w64_succ hlt (by omega), w64 (x := (E.length : Int) + 1) (by omega) (by omega)]
    rfl
/-! #### the stable sort -/
theorem lm_id {n : Int} (h0 : 0 ≤ n) (h1 : n ≤ 1048576) : fact_Stable.lm n = n := by unfold fact_Stable.lm mx mn; (repeat' split) <;> omega
theorem stab_swo : Go.Sort.SWO (ltOf fact_Stable.cf) where
  irrefl x := by unfold ltOf fact_Stable.cf; simp
  trans x y z h1 h2 := by unfold ltOf fact_Stable.cf at *; simp at *; omega
  ntrans x y z h1 h2 := by unfold ltOf fact_Stable.cf at *; simp at *; omega
theorem rising_of : ∀ (l : List S48) (x : Int), (∀ f ∈ l, x ≤ f.f5) → l.Pairwise (fun a b => a.f5 ≤ b.f5) → Rising x l
  | [], x, _, _ => trivial
  | f :: r, x, h, hp => ⟨h f (List.mem_cons_self ..), rising_of r f.f5 (fun g hg => (List.pairwise_cons.1 hp).1 g hg) (List.pairwise_cons.1 hp).2⟩
theorem stable_of {F : List S48} (hF : F.length ≤ 11) (hg : ∀ f ∈ F, Good f) : ∃ G, fact_Stable.f F = some G ∧ G.length = F.length ∧ (∀ f ∈ G, Good f) ∧ Rising 0 G := by
  by_cases h0 : F.length = 0
  · obtain rfl := List.eq_nil_of_length_eq_zero h0
    exact ⟨[], by unfold fact_Stable.f; rw [if_pos h0], rfl, hg, trivial⟩
  obtain ⟨hp, hs⟩ := Go.Sort.insertionSort_holds (lt := ltOf fact_Stable.cf) stab_swo F.toArray 0 F.length (Nat.zero_le _) (by simp)
  obtain ⟨D, hD⟩ : ∃ D, D = Go.Sort.insertionSort (ltOf fact_Stable.cf) F.toArray 0 F.length := ⟨_, rfl⟩
  rw [← hD] at hp hs
  obtain ⟨p1, p2, p3⟩ := hp
  have hDs : D.size = F.length := by rw [p1]; simp
  have hperm : D.toList.Perm F := by
    have e1 : D.extract 0 F.length = D := by rw [← hDs]; simp
    have e2 : F.toArray.extract 0 F.length = F.toArray := by simp
    rw [e1, e2] at p3
    simpa using p3
  have hgD : ∀ f ∈ D.toList, Good f := fun f hf => hg f (hperm.mem_iff.1 hf)
  have hnz : D.toList.map fact_Stable.nz = D.toList := by
    refine (List.map_congr_left fun f hf => ?_).trans (List.map_id _)
    have hgf := hgD f hf
    have := hgf.known0; have := hgf.known1
    unfold fact_Stable.nz
    rw [lm_id (by omega) (by omega)]; rfl
  have hall : F.length ≤ 19 ∧ (F.all fun s => decide (fact_Stable.lm s.f5 = s.f5)) = true := ⟨by omega, List.all_eq_true.2 fun f hf => decide_eq_true (lm_id (hg f hf).known0 (by have := (hg f hf).known1; omega))⟩
  refine ⟨D.toList, ?_, by rw [Array.length_toList, hDs], hgD, rising_of _ _ (fun f hf => (hgD f hf).known0) ?_⟩
  · unfold fact_Stable.f
    rw [if_neg h0, if_pos hall]
    unfold fact_Stable.srt
    rw [← hD, hnz]
  · refine List.pairwise_iff_getElem.2 fun i j hi hj hij => ?_
    have hh := hs i j (Nat.zero_le _) hij (by simpa [hDs] using hj)
    have hi' : i < D.size := by simpa using hi
    have hj' : j < D.size := by simpa using hj
    rw [getElem!_pos D i hi', getElem!_pos D j hj'] at hh
    have g1 := hgD _ (List.getElem_mem hi); have g2 := hgD _ (List.getElem_mem hj)
    have := g1.known0; have := g1.known1; have := g2.known0; have := g2.known1
    unfold ltOf fact_Stable.cf at hh
    simp only [Array.getElem_toList] at *
    rw [lm_id (by omega) (by omega), lm_id (by omega) (by omega)] at hh
    simp at hh; omega
theorem journal_of (l : List Int) (hb : Ev (fun k => mootkeep1_books.f k) true) : ∃ E G s x, Chain 0 0 G E s x ∧ G.length ≤ 11 ∧ Ev (fun k => mootkeep1_journal.f k l) (E, G, true) := by
  obtain ⟨F, hF, hl, hg⟩ := facts_of l
  obtain ⟨G, h1, h2, h3, h4⟩ := stable_of hl (fun f hf => (hg f hf).1)
  obtain ⟨E, s, x, h5, h6⟩ := journal_l0 G (by omega) h3 hb _ 0 [] 0 0 rfl (by omega) (.nil _ _) h4
  refine ⟨E, G, s, x, h5, by omega, ?_⟩
  simp only [mootkeep1_journal.f]
  refine Ev.bind hF ?_
  rw [h1, ← h2]
  exact h6
theorem books_of : Ev (fun k => mootkeep1_books.f k) true := by
  have d3 : Go.Lib.decDigits 3 = [51] := Go.Lib.decDigits_one (by decide)
  have d5 : Go.Lib.decDigits 5 = [53] := Go.Lib.decDigits_one (by decide)
  have d10 : Go.Lib.decDigits 10 = [49, 48] := Go.Lib.decDigits_two (by decide) (by decide)
  have d20 : Go.Lib.decDigits 20 = [50, 48] := Go.Lib.decDigits_two (by decide) (by decide)
  have hone : Ev (fun k => fact_One.f k 3 (⟨#[105, 110, 99, 111, 109, 101]⟩ : ByteArray) 2 1250 10 20 5) 0 := by
    simp only [fact_One.f]
    rw [show fact_Name.f (⟨#[105, 110, 99, 111, 109, 101]⟩ : ByteArray) = some true by decide, (check_of (c := 2) (x := 1250) ⟨_, _, rfl, by decide, by decide⟩ (by omega) (by omega)).1]
    simp only [Option.bind_some]
    refine Ev.ifn (by omega) (Ev.ifp trivial (Ev.ifp trivial (Ev.ifn (by omega) (Ev.ifn (by omega) ?_))))
    refine Ev.step (f := fun _ => some 0) (fun k => ?_) (Ev.now _)
    simp only [fact_One.j0]
    rw [if_neg (by simp), if_neg (by omega), if_neg (by omega)]
  have htx := money_of
  simp only [mootkeep1_books.f, book_Text.f]
  refine Ev.bind (a := (bs [53, 32, 51, 32, 105, 110, 99, 111, 109, 101, 32, 49, 48, 32, 50, 48, 32, 49, 50, 46, 53, 48], 0)) ?_ (Ev.ifp rfl (Ev.to (by rw [bs_toList]; rfl)))
  refine Ev.bind hone (Ev.ifp rfl ?_)
  rw [itoa_nn (n := 5) (by omega) (by omega), itoa_nn (n := 3) (by omega) (by omega), itoa_nn (n := 10) (by omega) (by omega), itoa_nn (n := 20) (by omega) (by omega)]
  simp only [Option.bind_some]
  refine Ev.bind htx ?_
  have q5 : dec 5 = [53] := d5
  have q3 : dec 3 = [51] := d3
  have q10 : dec 10 = [49, 48] := d10
  have q20 : dec 20 = [50, 48] := d20
  rw [q5, q3, q10, q20]
  have hj := bjoin (a := [53]) (b := [51]) (c := [105, 110, 99, 111, 109, 101]) (d := [49, 48]) (e := [50, 48]) (g := [49, 50, 46, 53, 48]) (by decide)
  rw [show (⟨#[105, 110, 99, 111, 109, 101]⟩ : ByteArray) = bs [105, 110, 99, 111, 109, 101] from rfl, hj]
  exact Ev.to rfl
/-! #### what a journal tells -/
theorem bfacts_l0 (l : List S33) (hl : l.length ≤ 500) (n : Nat) : ∀ (i : Nat) (O : List S48) (s x s' x' : Int) (fs : List S48), l.length - i = n → i ≤ l.length → O.length = i → Chain s x fs (l.drop i) s' x' → Ev (fun k => book_Facts.l0 k O l (l.length : Int) (i : Int)) (O ++ fs, 0) := by
  induction n with
  | zero =>
    intro i O s x s' x' fs hn hi hO h
    rw [List.drop_eq_nil_of_le (by omega)] at h
    cases h
    refine Ev.step (f := fun _ => some (O ++ [], 0)) (fun k => ?_) (Ev.now _)
    simp only [book_Facts.l0]
    rw [if_neg (by omega), List.append_nil]
  | succ n ih =>
    intro i O s x s' x' fs hn hi hO h
    have hlt : i < l.length := by omega
    obtain ⟨e, he0⟩ : ∃ e, e = rd_T33 l (i : Int) := ⟨_, rfl⟩
    rw [drop_ent l i hlt, ← he0] at h
    cases h with
    | cons _ _ f t d fs' _ _ _ h1 h2 h3 h4 h5 =>
      have ih' := ih (i + 1) (O ++ [f]) d f.f5 s' x' fs' (by omega) (by omega) (by simp [hO]) h5
      rw [List.append_assoc] at ih'
      refine Ev.step (f := fun k => (book_Read.f k t).bind fun bt => (if O.length < 2199023255552 then (book_Facts.l0 k (O ++ [(⟨bt.1, bt.2.1, (⟨bt.2.2.1, bt.2.2.2.1⟩ : S46), bt.2.2.2.2.1, bt.2.2.2.2.2.1, bt.2.2.2.2.2.2.1⟩ : S48)]) l (l.length : Int) ((i + 1 : Nat) : Int)) else none)) (fun k => ?_) (Ev.bind h3.read (Ev.ifp (by omega) ih'))
      simp only [book_Facts.l0]
      rw [if_pos (by omega), if_pos (by omega), if_pos (by omega), ← he0, w64_succ hlt (by omega)]
theorem bfacts_of {l : List S33} {s' x' : Int} {fs : List S48} (hl : l.length ≤ 500) (h : Chain 0 0 fs l s' x') : Ev (fun k => book_Facts.f k l) (fs, 0) := by
  simp only [book_Facts.f]
  exact Ev.bind (bcheck_of hl h) (Ev.ifp rfl (bfacts_l0 l hl _ 0 [] 0 0 s' x' fs rfl (by omega) rfl h))
theorem equal_l0 (G : List S48) (hG : G.length ≤ 500) (n : Nat) : ∀ i : Nat, G.length - i = n → i ≤ G.length → Ev (fun k => api_Fact_14.l0 k G G (G.length : Int) (i : Int)) true := by
  induction n with
  | zero =>
    intro i hn hi
    refine Ev.step (f := fun _ => some true) (fun k => ?_) (Ev.now _)
    simp only [api_Fact_14.l0]
    rw [if_neg (by omega)]
  | succ n ih =>
    intro i hn hi
    have hlt : i < G.length := by omega
    refine Ev.step (fun k => ?_) (ih (i + 1) (by omega) (by omega))
    simp only [api_Fact_14.l0]
    rw [if_pos (by omega), if_pos (by omega), if_pos (by omega), if_pos (by omega), if_neg (by simp), w64_succ hlt (by omega)]
theorem equal_of (G : List S48) (hG : G.length ≤ 500) : Ev (fun k => api_Fact_14.f k G G) true := by
  simp only [api_Fact_14.f]
  exact Ev.ifp trivial (equal_l0 G hG _ 0 rfl (by omega))
theorem head_of {l : List S33} {s' x' : Int} {fs : List S48} (hl : l.length ≤ 500) (h : Chain 0 0 fs l s' x') : Ev (fun k => book_Head.f k l) ((l.length : Int), s', 0) := by
  simp only [book_Head.f]
  refine Ev.bind (bcheck_of hl h) (Ev.ifp rfl ?_)
  rcases h.last with ⟨rfl, rfl, rfl⟩ | ⟨es0, t0, f0, rfl, h5, h6⟩
  · exact Ev.ifp rfl (Ev.to rfl)
  · have hln : (es0 ++ [(⟨t0, s'⟩ : S33)]).length = es0.length + 1 := by simp
    refine Ev.ifn (by omega) ?_
    rw [w64 (by omega) (by omega), show ((es0 ++ [(⟨t0, s'⟩ : S33)]).length : Int) - 1 = (es0.length : Int) from by omega, rd_last]
    exact Ev.ifp (by omega) (Ev.ifp (by omega) (Ev.now _))
theorem extends_of {l : List S33} {s' x' : Int} {fs : List S48} (hl : l.length ≤ 500) (h : Chain 0 0 fs l s' x') (n : Nat) (hn : n ≤ l.length) : ∃ s'', Ev (fun k => book_Head.f k (l.take n)) ((n : Int), s'', 0) ∧ Ev (fun k => book_Extends.f k l (n : Int) s'') (true, 0) := by
  obtain ⟨s'', x'', ht⟩ := h.take n
  have hh := head_of (by rw [List.length_take]; omega) ht
  have hlt : (l.take n).length = n := by rw [List.length_take]; omega
  rw [hlt] at hh
  refine ⟨s'', hh, ?_⟩
  simp only [book_Extends.f]
  refine Ev.bind (bcheck_of hl h) (Ev.ifp rfl (Ev.ifn (by omega) ?_))
  rcases ht.last with ⟨h1, rfl, rfl⟩ | ⟨es0, t0, f0, h1, h5, h6⟩
  · have : n = 0 := by rw [h1] at hlt; simpa using hlt.symm
    subst this
    exact Ev.ifp rfl (Ev.to rfl)
  · have hln : n = es0.length + 1 := by rw [← hlt, h1]; simp
    refine Ev.ifn (by omega) (Ev.ifp (by omega) ?_)
    rw [w64 (by omega) (by omega)]
    refine Ev.ifp (by omega) (Ev.ifp (by omega) (Ev.to ?_))
    have hr : rd_T33 l ((n : Int) - 1) = ⟨t0, s''⟩ := by
      have h7 := rd_last es0 ⟨t0, s''⟩
      rw [← h1] at h7
      rw [← h7, show (n : Int) - 1 = (es0.length : Int) from by omega]
      unfold rd_T33
      rw [Int.toNat_natCast]
      simp only [List.getD_eq_getElem?_getD]
      rw [List.getElem?_take_of_lt (by omega)]
    rw [hr]; simp
theorem BookReplays : mootkeep1_BookReplays.Pure := by
  intro l a1
  intros
  obtain ⟨E, G, s, x, hC, hl, hj⟩ := journal_of l books_of
  have hEl := hC.len
  have hb := below_range a1 ((E.length : Int) + 1) (by omega)
  obtain ⟨n, hn⟩ : ∃ n : Nat, (n : Int) = a1 % ((E.length : Int) + 1) := ⟨(a1 % ((E.length : Int) + 1)).toNat, by omega⟩
  obtain ⟨s'', h1, h2⟩ := extends_of (by omega) hC n (by omega)
  refine Ev.rounds (g := fun k => mootkeep1_BookReplays.f k l a1) ?_
  simp only [mootkeep1_BookReplays.f]
  refine Ev.bind hj (Ev.ifp rfl (Ev.bind (bfacts_of (by show E.length ≤ 500; omega) hC) ?_))
  rw [w64 (x := (E.length : Int) + 1) (by omega) (by omega), below_of _ _ (by omega) (by omega), ← hn]
  simp only [Option.bind_some]
  refine Ev.ifp (by omega) (Ev.ifp (by omega) ?_)
  rw [Int.toNat_natCast]
  exact Ev.bind h1 (Ev.bind h2 (Ev.ifp (by first | trivial | rfl) (Ev.ifp (by first | trivial | rfl) (Ev.ifp (by first | trivial | rfl) (Ev.ifp (by first | trivial | rfl) (Ev.ifp (by first | trivial | rfl) (Ev.bind (equal_of G (by omega)) (Ev.now _))))))))
end Go.Proofs.YtkjneemcledfjaaGreatDoor.Pure
