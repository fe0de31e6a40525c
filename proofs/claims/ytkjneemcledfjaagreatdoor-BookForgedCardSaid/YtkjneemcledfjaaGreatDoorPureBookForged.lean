/-
A changed byte, a changed digest, and two entries that changed places are found, and an entry that was taken away is found by the head, for every list and every numbers.
-/
import Derived.Test.YtkjneemcledfjaaGreatDoorPBookForgedx8
import Derived.Test.YtkjneemcledfjaaGreatDoorStrA
set_option linter.unusedVariables false
set_option linter.unusedSimpArgs false
namespace Go.Proofs.YtkjneemcledfjaaGreatDoor.Pure
open Go.RowKit Go.Proofs.YtkjneemcledfjaaGreatDoor.PBookForged Go.Proofs.YtkjneemcledfjaaGreatDoorW.PrintWords Go.Proofs.YtkjneemcledfjaaGreatDoorW.PrintLast
theorem w64 {x : Int} (h1 : -9223372036854775808 ≤ x) (h2 : x ≤ 9223372036854775807) : wrap64 x = x := by unfold wrap64; omega
theorem Ev.ifp {α : Type} {c : Prop} [Decidable c] {a b : Nat → Option α} {r : α} (h : c) (k : Ev a r) : Ev (fun n => if c then a n else b n) r := Ev.congr (fun n => by rw [if_pos h]) k
theorem Ev.ifn {α : Type} {c : Prop} [Decidable c] {a b : Nat → Option α} {r : α} (h : ¬ c) (k : Ev b r) : Ev (fun n => if c then a n else b n) r := Ev.congr (fun n => by rw [if_neg h]) k
theorem Ev.to {α : Type} {a b : α} (h : a = b) : Ev (fun _ => some a) b := h ▸ Ev.now a
theorem below_of (x n : Int) (h0 : 0 < n) (h1 : n ≤ 4611686018427387904) : mootmake_Below.f x n = some (x % n) := by
  have hr := Int.emod_nonneg x (show n ≠ 0 by omega)
  have hl := Int.emod_lt_of_pos x h0
  unfold mootmake_Below.f
  rw [if_neg (by omega), Int.tmod_eq_emod]
  by_cases h : 0 ≤ x ∨ n ∣ x
  · rw [if_pos h, show x % n - ((0 : Nat) : Int) = x % n from by omega, if_neg (by omega)]
  · have h3 : x % n ≠ 0 := fun e => h (.inr (Int.dvd_of_emod_eq_zero e))
    rw [if_neg h, if_pos (by omega), w64 (by omega) (by omega)]
    congr 1; omega
theorem below_range (x n : Int) (h0 : 0 < n) : 0 ≤ x % n ∧ x % n < n := ⟨Int.emod_nonneg x (by omega), Int.emod_lt_of_pos x h0⟩
theorem w64_succ {i n : Nat} (h : i < n) (hn : n ≤ 9223372036854775807) : wrap64 ((i : Int) + 1) = ((i + 1 : Nat) : Int) := by
  rw [w64 (by omega) (by omega)]; omega
theorem next_of (l : List Int) (n : Int) (h0 : 0 < n) (h1 : n ≤ 4611686018427387904) : ∃ v l', mootmake_Stream_Next.f l n = some (v, l') ∧ 0 ≤ v ∧ v < n := by
  unfold mootmake_Stream_Next.f
  rw [if_neg (by omega)]
  by_cases h : l = []
  · rw [if_pos h]; exact ⟨0, l, rfl, by omega, h0⟩
  · rw [if_neg h, below_of _ _ h0 h1]
    have := below_range (rd l 0) n h0
    exact ⟨_, _, rfl, this.1, this.2⟩
/-! #### values and their kinds -/
def uLo (c : Int) : Int := if c = 2 then -1099511627776 else if c = 3 then -1048576 else if c = 4 then 0 else if c = 5 then -1048576 else -1000000000
def uHi (c : Int) : Int := if c = 2 then 1099511627776 else if c = 3 then 1048576 else if c = 4 then 1048575 else if c = 5 then 1048576 else 1000000000
theorem range_of {c : Int} (h0 : 2 ≤ c) (h1 : c ≤ 6) : unit_Range.f c = some (uLo c, uHi c) ∧ uLo c ≤ 0 ∧ 0 ≤ uHi c ∧ -1099511627776 ≤ uLo c ∧ uHi c ≤ 1099511627776 := by
  have : c = 2 ∨ c = 3 ∨ c = 4 ∨ c = 5 ∨ c = 6 := by omega
  rcases this with rfl | rfl | rfl | rfl | rfl <;> exact ⟨rfl, by decide, by decide, by decide, by decide⟩
theorem fit_of {c : Int} (h0 : 2 ≤ c) (h1 : c ≤ 6) (x : Int) : unit_Fit.f c x = some (c, mx (uLo c) (mn x (uHi c))) := by
  unfold unit_Fit.f unit_known.f
  rw [if_pos (by omega)]
  simp only [Option.bind_some]
  rw [if_pos (decide_eq_true (by omega)), (range_of h0 h1).1]
  rfl
theorem fit_in {c : Int} (h0 : 2 ≤ c) (h1 : c ≤ 6) {x : Int} (hl : uLo c ≤ x) (hh : x ≤ uHi c) : unit_Fit.f c x = some (c, x) := by
  rw [fit_of h0 h1]
  congr 2
  unfold mx mn; repeat' split <;> omega
/-! #### strings -/
open Go.Proofs.YtkjneemcledfjaaGreatDoor.StrLaw
theorem lit46 : (⟨#[46]⟩ : ByteArray) = bs [46] := rfl
theorem lit45 : (⟨#[45]⟩ : ByteArray) = bs [45] := rfl
theorem litE : (⟨#[]⟩ : ByteArray) = bs [] := rfl
theorem rep0 {m : Int} (h0 : 0 ≤ m) (h1 : m ≤ 1000) : strings_Repeat.f (⟨#[48]⟩ : ByteArray) m = some (bs (List.replicate m.toNat 48)) := by
  unfold strings_Repeat.f
  rw [if_pos ⟨h0, h1, by decide⟩]
  congr 1
  show bs (Go.Lib.repeatL [48] m.toNat) = _
  rw [show ([48] : List UInt8) = List.replicate 1 48 from rfl, Go.Lib.repeatL_replicate, Nat.mul_one]
theorem itoa_of {n : Int} (h0 : -9223372036854775808 ≤ n) (h1 : n ≤ 9223372036854775807) : strconv_Itoa.f n = some (bs (sgn n ++ Go.Lib.decDigits n.natAbs)) := by
  unfold strconv_Itoa.f
  rw [if_pos ⟨h0, h1⟩, itoa_sgn]; rfl
theorem dlen {n : Nat} (h : n < 10000000000000000) : (Go.Lib.decDigits n).length ≤ 16 := dec_len_le (k := 15) (by omega)
theorem pad_of {n d : Int} (h0 : 0 ≤ n) (h1 : n < 10000000000000000) (d0 : 0 ≤ d) (d1 : d ≤ 20) : unit_pad.f n d = some (bs (padL n.toNat d.toNat)) := by
  unfold unit_pad.f
  have hl := dlen (n := n.toNat) (by omega)
  have hl1 := dec_len_pos n.toNat
  rw [itoa_of (by omega) (by omega), show sgn n = [] from by unfold sgn; rw [if_neg (by omega)], List.nil_append, show n.natAbs = n.toNat from by omega]
  simp only [Option.bind_some, bs_size]
  rw [w64 (by omega) (by omega), rep0 (by unfold mx; split <;> omega) (by unfold mx; split <;> omega)]
  simp only [Option.bind_some, bs_size, bs_append]
  rw [if_pos (by simp; unfold mx; split <;> omega)]
  unfold padL
  congr 4
  unfold mx; split <;> omega
theorem fin_of (S W T : List UInt8) (h : S.length + W.length + T.length ≤ 1000) :
    (if (bs T).toList = ([] : List UInt8) then (if (bs S).size + (bs W).size ≤ 9223372036854775807 then (if (bs S ++ bs W).size + (bs T).size ≤ 9223372036854775807 then (some ((bs S ++ bs W) ++ bs T)) else (none)) else (none)) else (if 1 + (bs T).size ≤ 9223372036854775807 then (if (bs S).size + (bs W).size ≤ 9223372036854775807 then (if (bs S ++ bs W).size + ((⟨#[46]⟩ : ByteArray) ++ bs T).size ≤ 9223372036854775807 then (some ((bs S ++ bs W) ++ ((⟨#[46]⟩ : ByteArray) ++ bs T))) else (none)) else (none)) else (none))) = some (bs (S ++ W ++ (if T = [] then [] else 46 :: T))) := by
  rw [lit46]
  simp only [bs_append, bs_size, bs_toList]
  by_cases hT : T = []
  · rw [if_pos hT, if_pos (by omega), if_pos (by simp only [List.length_append]; omega), if_pos hT, hT]
  · rw [if_neg hT, if_pos (by omega), if_pos (by omega), if_pos (by simp only [List.length_append, List.length_singleton]; omega), if_neg hT]; rfl
/-! #### endings -/
theorem hs_of (A s : List UInt8) (h : A.length ≤ 1000) (hs : s.length ≤ A.length) : strings_HasSuffix.f (bs A) (bs s) = some (A.drop (A.length - s.length) == s) := by
  unfold strings_HasSuffix.f stringslite_HasSuffix.f
  simp only [bs_size]
  rw [w64 (by omega) (by omega), if_pos (by omega), if_pos (by omega), if_pos (by omega), bs_extract, bs_toList, bs_toList, show ((A.length : Int) - (s.length : Int)).toNat = A.length - s.length from by omega]
  simp
theorem hs_short (A s : List UInt8) (hs : A.length < s.length) : strings_HasSuffix.f (bs A) (bs s) = some false := by
  unfold strings_HasSuffix.f stringslite_HasSuffix.f
  simp only [bs_size]
  rw [if_neg (by omega)]; rfl
theorem hs_no {A s : List UInt8} {c d : UInt8} (hc : c ≠ d) (h : (A ++ [c]).length ≤ 1000) : strings_HasSuffix.f (bs (A ++ [c])) (bs (s ++ [d])) = some false := by
  by_cases hl : (s ++ [d]).length ≤ (A ++ [c]).length
  · rw [hs_of _ _ h hl, suf_no hc hl]
  · exact hs_short _ _ (by omega)
theorem ts_no {A s : List UInt8} (h : strings_HasSuffix.f (bs A) (bs s) = some false) : strings_TrimSuffix.f (bs A) (bs s) = some (bs A) := by
  unfold strings_TrimSuffix.f stringslite_TrimSuffix.f
  unfold strings_HasSuffix.f at h
  have h' : stringslite_HasSuffix.f (bs A) (bs s) = some false := by
    cases hh : stringslite_HasSuffix.f (bs A) (bs s) with
    | none => rw [hh] at h; cases h
    | some b => rw [hh] at h; simpa using h
  rw [h']; rfl
theorem con_of (A : List UInt8) (c : UInt8) (h : A.length ≤ 1000) : strings_Contains.f (bs A) (bs [c]) = some (Go.Lib.contains A [c]) := by
  unfold strings_Contains.f
  rw [if_pos (by rw [bs_size]; omega)]; rfl
theorem cnt_of (A : List UInt8) (c : UInt8) : strings_Count.f (bs A) (bs [c]) = some ((A.count c : Nat) : Int) := by
  unfold strings_Count.f
  rw [if_pos (by rw [bs_size]; rfl)]; rfl
theorem cut_of (A : List UInt8) (c : UInt8) (h : A.length ≤ 1000) : strings_Cut.f (bs A) (bs [c]) = some (bs (Go.Lib.cut A [c]).1, bs (Go.Lib.cut A [c]).2.1, (Go.Lib.cut A [c]).2.2) := by
  unfold strings_Cut.f
  rw [if_pos (by rw [bs_size]; omega)]; rfl
theorem atoi_of {A : List UInt8} {n : Int} (h : A.length ≤ 18) (e : Go.Lib.atoi A = some n) : strconv_Atoi.f (bs A) = some (n, none) := by
  unfold strconv_Atoi.f
  rw [if_pos (by rw [bs_size]; omega), bs_data, e]
  try rfl
theorem last_of {A : List UInt8} (h : Digs A) (hn : A ≠ []) : ∃ B c, A = B ++ [c] ∧ dg1 c := by
  rcases List.eq_nil_or_concat A with e | ⟨B, c, e⟩
  · exact absurd e hn
  · exact ⟨B, c, by rw [e]; simp, h c (by rw [e]; simp)⟩
theorem dg1_ne {c d : UInt8} (h : dg1 c) (hd : ¬ dg1 d) : c ≠ d := fun e => hd (e ▸ h)
instance (c : UInt8) : Decidable (dg1 c) := inferInstanceAs (Decidable (48 ≤ c.toNat ∧ c.toNat ≤ 57))
/-- how the text of a number begins -/
def Numeral (A : List UInt8) : Prop := ∃ c r, A = c :: r ∧ (c = 45 ∨ dg1 c)
theorem numeral_of {n : Int} {W r : List UInt8} (hW : W ≠ []) (hd : Digs W) : Numeral (sgn n ++ W ++ r) := by
  unfold sgn
  split
  · exact ⟨45, W ++ r, by simp, Or.inl rfl⟩
  · cases W with
    | nil => exact absurd rfl hW
    | cons c W => exact ⟨c, W ++ r, by simp, Or.inr (hd c (List.mem_cons_self ..))⟩
theorem Numeral.ne {A : List UInt8} (h : Numeral A) {d : UInt8} {r : List UInt8} (h1 : d ≠ 45) (h2 : ¬ dg1 d) : (bs A).toList ≠ d :: r := by
  obtain ⟨c, r', rfl, hc⟩ := h
  rw [bs_toList]
  intro e
  injection e with e1 e2
  rcases hc with rfl | hc
  · exact h1 e1.symm
  · exact h2 (e1 ▸ hc)
theorem ends_no {X D : List UInt8} (hD : Digs D) (hn : D ≠ []) (h : (X ++ D).length ≤ 1000) {s : List UInt8} {d : UInt8} (hd : ¬ dg1 d) : strings_HasSuffix.f (bs (X ++ D)) (bs (s ++ [d])) = some false := by
  obtain ⟨B, c, rfl, hc⟩ := last_of hD hn
  rw [← List.append_assoc] at h ⊢
  exact hs_no (dg1_ne hc hd) h
structure Reads (c x : Int) (A : List UInt8) : Prop where
  len : A.length ≤ 40
  text : Ev (fun k => unit_Text.f k c x) (bs A)
  form : unit_form.f (bs A) = some c
  number : unit_number.f c (bs A) = some (x, true)
theorem sgn_ne46 (x : Int) : ∀ b ∈ sgn x, b ≠ 46 := by unfold sgn; split <;> simp
theorem app_ne {A B : List UInt8} {c : UInt8} (h : ∀ b ∈ A, b ≠ c) (h' : ∀ b ∈ B, b ≠ c) : ∀ b ∈ A ++ B, b ≠ c := fun b hb => (List.mem_append.1 hb).elim (h b) (h' b)
theorem reads5x {x : Int} (l0 : 0 ≤ x) (l1 : x ≤ 1048576) : Reads 5 x (sgn x ++ Go.Lib.decDigits x.natAbs) := by
  have hf := fit_in (c := 5) (by omega) (by omega) (x := x) (by have : uLo 5 = -1048576 := rfl; omega) l1
  obtain ⟨D, hD⟩ : ∃ D, D = Go.Lib.decDigits x.natAbs := ⟨_, rfl⟩
  have hd : Digs D := hD ▸ digs_dec _
  have hn : D ≠ [] := hD ▸ dec_ne _
  have hl : D.length ≤ 16 := by rw [hD]; exact dlen (by omega)
  have hs := sgn_len x
  have hB : (sgn x ++ D).length ≤ 17 := by simp only [List.length_append]; omega
  have n46 : ∀ b ∈ sgn x ++ D, b ≠ 46 := app_ne (sgn_ne46 x) (ne_of_digs hd (by decide))
  have n1 : ∀ (s : List UInt8) {d : UInt8}, ¬ dg1 d → strings_HasSuffix.f (bs (sgn x ++ D)) (bs (s ++ [d])) = some false := fun s d hdd => ends_no hd hn (by omega) hdd
  have hat : Go.Lib.atoi (sgn x ++ D ++ []) = some x := by rw [List.append_nil]; exact atoi_sgn hd hn (by rw [hD, decFrom_dec])
  have hit : strconv_Itoa.f x = some (bs (sgn x ++ D)) := by rw [itoa_of (by omega) (by omega), hD]
  have hnum : Numeral (sgn x ++ D) := by rw [← List.append_nil (sgn x ++ D)]; exact numeral_of hn hd
  rw [← hD]
  refine ⟨by omega, ?_, ?_, ?_⟩
  · unfold unit_Text.f
    rw [hf]; simp only [Option.bind_some, hit]
    exact Ev.ifn (by decide) (Ev.ifn (by decide) (Ev.ifn (by decide) (Ev.ifn (by decide) (Ev.ifp (by first | trivial | rfl) (Ev.now _)))))
  · have e1 : strings_HasSuffix.f (bs (sgn x ++ D)) (⟨#[37]⟩ : ByteArray) = some false := n1 [] (by decide)
    have e2 : strings_HasSuffix.f (bs (sgn x ++ D)) (⟨#[32, 100, 97, 121, 115]⟩ : ByteArray) = some false := n1 [32, 100, 97, 121] (by decide)
    have e3 : strings_Contains.f (bs (sgn x ++ D)) (⟨#[46]⟩ : ByteArray) = some false := by rw [lit46, con_of _ _ (by omega), contains_no n46]
    have e4 : strings_Count.f (bs (sgn x ++ D)) (⟨#[45]⟩ : ByteArray) = some (((sgn x).count 45 : Nat) : Int) := by rw [lit45, cnt_of, List.count_append, count_no (ne_of_digs hd (by decide)), Nat.add_zero]
    have h2 : (sgn x).count 45 ≤ 1 := Nat.le_trans List.count_le_length hs
    unfold unit_form.f
    rw [if_neg (hnum.ne (by decide) (by decide)), if_neg (hnum.ne (by decide) (by decide)), if_neg (hnum.ne (by decide) (by decide)), e1, e2, e3, e4]
    simp only [Option.bind_some]
    rw [if_neg (by decide), if_neg (by decide), if_neg (by decide), if_neg (by omega)]
  · have e1 : strings_TrimSuffix.f (bs (sgn x ++ D)) (⟨#[37]⟩ : ByteArray) = some (bs (sgn x ++ D)) := ts_no (n1 [] (by decide))
    have e2 : strings_TrimSuffix.f (bs (sgn x ++ D)) (⟨#[32, 100, 97, 121, 115]⟩ : ByteArray) = some (bs (sgn x ++ D)) := ts_no (n1 [32, 100, 97, 121] (by decide))
    have h3 := cut_of (sgn x ++ D) 46 (by omega)
    rw [cut_no n46] at h3
    have e3 : strings_Cut.f (bs (sgn x ++ D)) (⟨#[46]⟩ : ByteArray) = some (bs (sgn x ++ D), bs [], false) := h3
    unfold unit_number.f
    rw [if_neg (by omega), if_neg (by omega), if_neg (by omega), e1]
    simp only [Option.bind_some]
    rw [e2]
    simp only [Option.bind_some]
    rw [e3]
    simp only [Option.bind_some, bs_append, bs_size]
    rw [if_neg (by omega), if_pos (by simp only [List.length_nil]; omega), atoi_of (by rw [List.append_nil]; omega) hat]
    rfl
theorem reads5 {x : Int} (l0 : 0 ≤ x) (l1 : x ≤ 1048576) : ∃ A, Reads 5 x A := ⟨_, reads5x l0 l1⟩
theorem check_of {c x : Int} (h : ∃ lo hi, unit_Range.f c = some (lo, hi) ∧ lo ≤ x ∧ x ≤ hi) (h0 : 0 ≤ c) (h1 : c ≤ 6) : unit_Check.f c x = some 0 ∧ unit_Fit.f c x = some (c, x) := by
  obtain ⟨lo, hi, hr, a, b⟩ := h
  have hk : unit_known.f c = some true := by unfold unit_known.f; rw [if_pos h0, decide_eq_true h1]
  unfold unit_Check.f unit_Fit.f
  rw [hr, hk]
  simp only [Option.bind_some, if_true]
  refine ⟨by rw [if_neg (by omega), if_neg (by omega)], ?_⟩
  congr 2
  unfold mx mn; repeat' split <;> omega
theorem read_of {c x : Int} {A : List UInt8} (h : Reads c x A) (hk : unit_Check.f c x = some 0) : Ev (fun k => unit_Read.f k (bs A)) (c, x, 0) := by
  unfold unit_Read.f
  have := h.len
  rw [h.form]; simp only [Option.bind_some]
  rw [h.number]; simp only [Option.bind_some]
  refine Ev.ifn (by rw [bs_size]; omega) (Ev.ifp trivial ?_)
  simp only [hk, Option.bind_some]
  exact Ev.ifp trivial (Ev.bind h.text (Ev.ifp rfl (Ev.now _)))
theorem money_of : Ev (fun k => unit_Text.f k 2 1250) (bs [49, 50, 46, 53, 48]) := by
  have hf := fit_in (c := 2) (by omega) (by omega) (x := 1250) (by decide) (by decide)
  have d1250 : Go.Lib.decDigits 1250 = [49, 50, 53, 48] := by
    rw [Go.Lib.decDigits, dif_neg (by decide), Go.Lib.decDigits, dif_neg (by decide), Go.Lib.decDigits_two (by decide) (by decide)]; rfl
  have hp : unit_pad.f 1250 3 = some (bs [49, 50, 53, 48]) := by
    rw [pad_of (by omega) (by omega) (by omega) (by omega)]
    unfold padL
    rw [show (1250 : Int).toNat = 1250 from rfl, d1250]; rfl
  unfold unit_Text.f
  rw [hf]; simp only [Option.bind_some]
  refine Ev.ifn (by decide) (Ev.ifp (by first | trivial | rfl) (Ev.bind ?_ (Ev.now _)))
  unfold unit_point.f
  refine Ev.ifn (by decide) ?_
  rw [show wrap64 (2 + 1) = 3 by simp [wrap64], hp]
  simp only [Option.bind_some, bs_size]
  rw [show wrap64 ((([49, 50, 53, 48] : List UInt8).length : Int) - 2) = 2 by simp [wrap64], bs_extract, bs_extract]
  refine Ev.ifp (by decide) (Ev.ifp (by decide) (Ev.step (f := fun _ => some (bs [49, 50, 46, 53, 48])) (fun k => ?_) (Ev.now _)))
  simp only [unit_point.l0]
  rw [litE, if_neg (by rw [bs_size]; decide)]
  exact fin_of [] [49, 50] [53, 48] (by decide)
def tA : ByteArray := ⟨#[97]⟩
def tB : ByteArray := ⟨#[98]⟩
/-- a fact of the two parties, as `facts` makes them -/
structure Good (f : S48) : Prop where
  who : f.f0 = 0 ∨ f.f0 = 1
  attr : f.f1 = tA ∨ f.f1 = tB
  val : (f.f2.f0 = 0 ∧ f.f2.f1 = 0) ∨ (f.f2.f0 = 5 ∧ 0 ≤ f.f2.f1 ∧ f.f2.f1 < 4)
  from0 : 0 ≤ f.f3
  from1 : f.f3 < 60
  to0 : f.f3 < f.f4
  to1 : f.f4 ≤ f.f3 + 30
  known0 : 0 ≤ f.f5
  known1 : f.f5 ≤ 30
theorem facts_l0 (m : Int) (hm : m < 12) (n : Nat) : ∀ (i : Nat) (l : List S48) (st : List Int), (i : Int) ≤ max m 0 → (max m 0 - i).toNat = n → l.length = i → (∀ f ∈ l, Good f ∧ f.f5 < 20) →
    ∃ F, Ev (fun k => mootkeep1_facts.l0 k l m (i : Int) st) F ∧ F.length ≤ 11 ∧ ∀ f ∈ F, Good f ∧ f.f5 < 20 := by
  induction n with
  | zero =>
    intro i l st hi hn hl hg
    refine ⟨l, Ev.step (f := fun _ => some l) (fun k => ?_) (Ev.now _), by omega, hg⟩
    simp only [mootkeep1_facts.l0]
    rw [if_neg (by omega)]
  | succ n ih =>
    intro i l st hi hn hl hg
    have hi11 : i < 11 := by omega
    obtain ⟨a, s1, e1, a0, a1⟩ := next_of st 2 (by omega) (by omega)
    obtain ⟨b, s2, e2, b0, b1⟩ := next_of s1 2 (by omega) (by omega)
    obtain ⟨c, s3, e3, c0, c1⟩ := next_of s2 4 (by omega) (by omega)
    obtain ⟨d, s4, e4, d0, d1⟩ := next_of s3 60 (by omega) (by omega)
    obtain ⟨x, s5, e5, x0, x1⟩ := next_of s4 20 (by omega) (by omega)
    obtain ⟨y, s6, e6, y0, y1⟩ := next_of s5 30 (by omega) (by omega)
    obtain ⟨z, s7, e7, z0, z1⟩ := next_of s6 5 (by omega) (by omega)
    have hw : wrap64 (wrap64 (d + 1) + y) = d + 1 + y := by rw [w64 (x := d + 1) (by omega) (by omega), w64 (by omega) (by omega)]
    have hat : rdOf ByteArray.empty [tA, tB] b = tA ∨ rdOf ByteArray.empty [tA, tB] b = tB := by
      rcases (show b = 0 ∨ b = 1 by omega) with rfl | rfl
      · exact .inl rfl
      · exact .inr rfl
    have main : ∀ v w : Int, (v = 0 ∧ w = 0) ∨ (v = 5 ∧ 0 ≤ w ∧ w < 4) → ∃ F, Ev (fun k => mootkeep1_facts.j1 k l m (i : Int) s7 a (rdOf ByteArray.empty [tA, tB] b) v w d (d + 1 + y) x) F ∧ F.length ≤ 11 ∧ ∀ f ∈ F, Good f ∧ f.f5 < 20 := by
      intro v w hvw
      obtain ⟨F, hF, h⟩ := ih (i + 1) (l ++ [(⟨a, rdOf ByteArray.empty [tA, tB] b, (⟨v, w⟩ : S46), d, d + 1 + y, x⟩ : S48)]) s7 (by omega) (by omega) (by simp [hl]) (fun f hf => by
        rcases List.mem_append.1 hf with hf | hf
        · exact hg f hf
        · rw [List.mem_singleton.1 hf]
          exact ⟨⟨by show a = 0 ∨ a = 1; omega, hat, hvw, d0, d1, by show d < d + 1 + y; omega, by show d + 1 + y ≤ d + 30; omega, x0, by show x ≤ 30; omega⟩, x1⟩)
      refine ⟨F, Ev.step (fun k => ?_) hF, h⟩
      simp only [mootkeep1_facts.j1]
      rw [if_pos (by omega), w64 (x := (i : Int) + 1) (by omega) (by omega), show (i : Int) + 1 = ((i + 1 : Nat) : Int) from by omega]
    by_cases hz : z = 1
    · obtain ⟨F, hF, h⟩ := main 0 0 (.inl ⟨rfl, rfl⟩)
      refine ⟨F, Ev.step (fun k => ?_) hF, h⟩
      simp only [mootkeep1_facts.l0]
      rw [if_pos (by omega), e1]
      simp only [Option.bind_some]
      rw [e2]
      simp only [Option.bind_some]
      rw [if_pos (by omega), if_pos (by simp; omega), e3]
      simp only [Option.bind_some]
      rw [e4]
      simp only [Option.bind_some]
      rw [e5]
      simp only [Option.bind_some]
      rw [e6]
      simp only [Option.bind_some]
      rw [e7]
      simp only [Option.bind_some]
      rw [if_pos hz, hw]
      rfl
    · obtain ⟨F, hF, h⟩ := main 5 c (.inr ⟨rfl, c0, c1⟩)
      refine ⟨F, Ev.step (fun k => ?_) hF, h⟩
      simp only [mootkeep1_facts.l0]
      rw [if_pos (by omega), e1]
      simp only [Option.bind_some]
      rw [e2]
      simp only [Option.bind_some]
      rw [if_pos (by omega), if_pos (by simp; omega), e3]
      simp only [Option.bind_some]
      rw [e4]
      simp only [Option.bind_some]
      rw [e5]
      simp only [Option.bind_some]
      rw [e6]
      simp only [Option.bind_some]
      rw [e7]
      simp only [Option.bind_some]
      rw [if_neg hz, hw]
      rfl
theorem facts_of (l : List Int) : ∃ F, Ev (fun k => mootkeep1_facts.f k l) F ∧ F.length ≤ 11 ∧ ∀ f ∈ F, Good f ∧ f.f5 < 20 := by
  obtain ⟨m, s1, e1, m0, m1⟩ := next_of l 12 (by omega) (by omega)
  obtain ⟨F, hF, h⟩ := facts_l0 m m1 _ 0 [] s1 (by omega) rfl rfl (fun f hf => by simp at hf)
  refine ⟨F, ?_, h⟩
  simp only [mootkeep1_facts.f]
  rw [e1]
  exact hF
/-! #### fields and values as texts -/
/-- a field of digits -/
structure Fld (D : List UInt8) : Prop where
  digs : Digs D
  ne : D ≠ []
  len : D.length ≤ 5
/-- a value's text -/
def ValText (A : List UInt8) : Prop := A = [110, 111, 110, 101] ∨ Fld A
/-! #### the text of a fact -/
theorem bname_of {s : ByteArray} (h : s = tA ∨ s = tB) : fact_Name.f s = some true := by
  rcases h with rfl | rfl <;> decide
theorem bone_of {f : S48} (h : Good f) : Ev (fun k => fact_One.f k f.f0 f.f1 f.f2.f0 f.f2.f1 f.f3 f.f4 f.f5) 0 := by
  have := h.from0; have := h.from1; have := h.to0; have := h.to1; have := h.known0; have := h.known1
  have hu : unit_Check.f f.f2.f0 f.f2.f1 = some 0 := by
    rcases h.val with ⟨h1, h2⟩ | ⟨h1, h2, h3⟩
    · rw [h1, h2]; exact (check_of ⟨0, 0, rfl, by omega, by omega⟩ (by omega) (by omega)).1
    · rw [h1]; exact (check_of ⟨-1048576, 1048576, rfl, by omega, by omega⟩ (by omega) (by omega)).1
  simp only [fact_One.f]
  rw [bname_of h.attr, hu]
  simp only [Option.bind_some]
  refine Ev.ifn (by have := h.who; omega) (Ev.ifp trivial (Ev.ifp trivial (Ev.ifn (by omega) (Ev.ifn (by omega) ?_))))
  refine Ev.step (f := fun _ => some 0) (fun k => ?_) (Ev.now _)
  simp only [fact_One.j0]
  rw [if_neg (by simp; omega), if_neg (by omega), if_neg (by omega)]
def dec (n : Int) : List UInt8 := Go.Lib.decDigits n.natAbs
theorem dec_digs (n : Int) : Digs (dec n) := digs_dec _
theorem itoa_nn {n : Int} (h0 : 0 ≤ n) (h1 : n ≤ 10000) : strconv_Itoa.f n = some (bs (dec n)) := by
  rw [itoa_of (by omega) (by omega), show sgn n = [] from by unfold sgn; rw [if_neg (by omega)]]; rfl
theorem dec_len {n : Int} (h0 : 0 ≤ n) (h1 : n ≤ 10000) : (dec n).length ≤ 5 := dec_len_le (k := 4) (by omega)
theorem dec_atoi {n : Int} (h0 : 0 ≤ n) (h1 : n ≤ 10000) : strconv_Atoi.f (bs (dec n)) = some (n, none) := by
  have := dec_len h0 h1
  refine atoi_of (by omega) ?_
  rw [atoi_digs (dec_digs n) (dec_ne _) (decFrom_dec _)]
  congr 1; omega
/-- the bytes of a fact's text -/
def btext (f : S48) (A : List UInt8) : List UInt8 := dec f.f5 ++ 32 :: (dec f.f0 ++ 32 :: (f.f1.data.toList ++ 32 :: (dec f.f3 ++ 32 :: (dec f.f4 ++ 32 :: A))))
theorem join6 (a b c d e g : List UInt8) : Go.Lib.join [a, b, c, d, e, g] [32] = a ++ 32 :: (b ++ 32 :: (c ++ 32 :: (d ++ 32 :: (e ++ 32 :: g)))) := by
  simp [Go.Lib.join, List.intercalate, List.intersperse]
theorem bjoin {a b c d e g : List UInt8} (h : a.length + b.length + c.length + d.length + e.length + g.length ≤ 1000) : strings_Join.f ([bs a, bs b, bs c, bs d, bs e, bs g] : List ByteArray) (⟨#[32]⟩ : ByteArray) = some (bs (a ++ 32 :: (b ++ 32 :: (c ++ 32 :: (d ++ 32 :: (e ++ 32 :: g)))))) := by
  have hj := join6 a b c d e g
  have e1 : ([bs a, bs b, bs c, bs d, bs e, bs g] : List ByteArray).map (·.data.toList) = [a, b, c, d, e, g] := rfl
  have e2 : (⟨#[32]⟩ : ByteArray).data.toList = [32] := rfl
  unfold strings_Join.f
  rw [e1, e2, hj, if_pos ⟨by simp, by simp, by simp only [List.length_append, List.length_cons]; omega⟩]
  rfl
theorem split_step {A B : List UInt8} {c : UInt8} (k : Nat) (h : ∀ b ∈ A, b ≠ c) : Go.Lib.splitB (bs [c]) 0 (k + 1) (bs (A ++ c :: B)) = bs A :: Go.Lib.splitB (bs [c]) 0 k (bs B) := by
  rw [Go.Lib.splitB_hit (bs [c]) 0 k _ A.length (by rw [indexB_bs, index_skip h])]
  rw [bs_extract, bs_extract, bs_size, bs_size]
  congr 2
  · simp
  · rw [List.take_of_length_le (Nat.le_refl _), show A ++ c :: B = (A ++ [c]) ++ B by simp, List.drop_append_of_le_length (by simp)]
    congr 1; simp
theorem attr_ne {s : ByteArray} (h : s = tA ∨ s = tB) : ∀ b ∈ s.data.toList, b ≠ 32 := by
  rcases h with rfl | rfl <;> (intro b hb; revert b; decide)
theorem attr_len {s : ByteArray} (h : s = tA ∨ s = tB) : s.data.toList.length = 1 := by
  rcases h with rfl | rfl <;> rfl
theorem bsplit {f : S48} (h : Good f) {A : List UInt8} (hA : A.length ≤ 40) : strings_SplitN.f (bs (btext f A)) (⟨#[32]⟩ : ByteArray) 6 = some [bs (dec f.f5), bs (dec f.f0), f.f1, bs (dec f.f3), bs (dec f.f4), bs A] := by
  have := h.from0; have := h.from1; have := h.to0; have := h.to1; have := h.known0; have := h.known1; have hw := h.who; have ha := attr_len h.attr
  have l1 := dec_len (n := f.f5) (by omega) (by omega); have l2 := dec_len (n := f.f0) (by omega) (by omega); have l3 := dec_len (n := f.f3) (by omega) (by omega); have l4 := dec_len (n := f.f4) (by omega) (by omega)
  have m1 := dec_len_pos f.f5.natAbs
  have hl : (btext f A).length ≤ 100 ∧ 5 ≤ (btext f A).length := by unfold btext; simp only [List.length_append, List.length_cons]; omega
  unfold strings_SplitN.f
  rw [if_pos ⟨by rw [bs_size]; omega, by decide, by omega, by omega⟩, bs_size, show min (6 : Int).toNat ((btext f A).length + 1) - 1 = 0 + 1 + 1 + 1 + 1 + 1 from by have : (6 : Int).toNat = 6 := rfl; omega]
  have n1 : ∀ n, ∀ b ∈ dec n, b ≠ 32 := fun n => ne_of_digs (dec_digs n) (by decide)
  unfold btext
  rw [show (⟨#[32]⟩ : ByteArray) = bs [32] from rfl, split_step _ (n1 _), split_step _ (n1 _), split_step _ (attr_ne h.attr), split_step _ (n1 _), split_step _ (n1 _), Go.Lib.splitB_zero, ← bs_of f.f1]
/-- what a text is of a fact -/
structure TextOf (f : S48) (t : ByteArray) : Prop where
  len : t.size ≤ 300
  text : Ev (fun k => book_Text.f k f.f0 f.f1 f.f2.f0 f.f2.f1 f.f3 f.f4 f.f5) (t, 0)
  read : Ev (fun k => book_Read.f k t) (f.f0, f.f1, f.f2.f0, f.f2.f1, f.f3, f.f4, f.f5, 0)
  shape : ∃ A, ValText A ∧ t = bs (btext f A)
theorem textOf {f : S48} (h : Good f) : ∃ t, TextOf f t := by
  have := h.from0; have := h.from1; have := h.to0; have := h.to1; have := h.known0; have := h.known1; have hw := h.who; have ha := attr_len h.attr
  obtain ⟨A, hA, hVT⟩ : ∃ A, Reads f.f2.f0 f.f2.f1 A ∧ ValText A := by
    rcases h.val with ⟨h1, h2⟩ | ⟨h1, h2, h3⟩
    · rw [h1, h2]; exact ⟨[110, 111, 110, 101], ⟨by decide, ⟨0, fun k _ => rfl⟩, by decide +kernel, rfl⟩, .inl rfl⟩
    · rw [h1]
      have hr := reads5x (x := f.f2.f1) (by omega) (by omega)
      rw [show sgn f.f2.f1 = [] from by unfold sgn; rw [if_neg (by omega)], List.nil_append] at hr
      exact ⟨_, hr, .inr ⟨digs_dec _, dec_ne _, dec_len_le (k := 4) (by omega)⟩⟩
  have hck : unit_Check.f f.f2.f0 f.f2.f1 = some 0 := by
    rcases h.val with ⟨h1, h2⟩ | ⟨h1, h2, h3⟩
    · rw [h1, h2]; exact (check_of ⟨0, 0, rfl, by omega, by omega⟩ (by omega) (by omega)).1
    · rw [h1]; exact (check_of ⟨-1048576, 1048576, rfl, by omega, by omega⟩ (by omega) (by omega)).1
  have l0 := hA.len
  have l1 := dec_len (n := f.f5) (by omega) (by omega); have l2 := dec_len (n := f.f0) (by omega) (by omega); have l3 := dec_len (n := f.f3) (by omega) (by omega); have l4 := dec_len (n := f.f4) (by omega) (by omega)
  have hl : (btext f A).length ≤ 100 := by unfold btext; simp only [List.length_append, List.length_cons]; omega
  have ht : Ev (fun k => book_Text.f k f.f0 f.f1 f.f2.f0 f.f2.f1 f.f3 f.f4 f.f5) (bs (btext f A), 0) := by
    simp only [book_Text.f]
    refine Ev.bind (bone_of h) (Ev.ifp rfl ?_)
    rw [itoa_nn (n := f.f5) (by omega) (by omega), itoa_nn (n := f.f0) (by omega) (by omega), itoa_nn (n := f.f3) (by omega) (by omega), itoa_nn (n := f.f4) (by omega) (by omega)]
    simp only [Option.bind_some]
    refine Ev.bind hA.text ?_
    have hj := bjoin (a := dec f.f5) (b := dec f.f0) (c := f.f1.data.toList) (d := dec f.f3) (e := dec f.f4) (g := A) (by omega)
    rw [← bs_of f.f1] at hj
    rw [hj]
    exact Ev.now _
  refine ⟨bs (btext f A), by rw [bs_size]; omega, ht, ?_, ⟨A, hVT, rfl⟩⟩
  simp only [book_Read.f]
  rw [bsplit h (by omega)]
  simp only [Option.bind_some]
  obtain ⟨P1, hP1⟩ : ∃ P, P = bs (dec f.f5) := ⟨_, rfl⟩
  obtain ⟨P2, hP2⟩ : ∃ P, P = bs (dec f.f0) := ⟨_, rfl⟩
  obtain ⟨P3, hP3⟩ : ∃ P, P = bs (dec f.f3) := ⟨_, rfl⟩
  obtain ⟨P4, hP4⟩ : ∃ P, P = bs (dec f.f4) := ⟨_, rfl⟩
  have e1 := dec_atoi (n := f.f5) (by omega) (by omega); have e2 := dec_atoi (n := f.f0) (by omega) (by omega); have e3 := dec_atoi (n := f.f3) (by omega) (by omega); have e4 := dec_atoi (n := f.f4) (by omega) (by omega)
  rw [← hP1] at e1; rw [← hP2] at e2; rw [← hP3] at e3; rw [← hP4] at e4
  rw [← hP1, ← hP2, ← hP3, ← hP4]
  obtain ⟨PA, hPA⟩ : ∃ P, P = bs A := ⟨_, rfl⟩
  have er := read_of hA hck
  rw [← hPA] at er ⊢
  obtain ⟨TT, hTT⟩ : ∃ P, P = bs (btext f A) := ⟨_, rfl⟩
  rw [← hTT] at ht ⊢
  obtain ⟨L, hLL⟩ : ∃ L, L = [P1, P2, f.f1, P3, P4, PA] := ⟨_, rfl⟩
  have hL6 : (L.length : Int) = 6 := by rw [hLL]; rfl
  have a2 : rdOf ByteArray.empty L 2 = f.f1 := by rw [hLL]; rfl
  have a5 : rdOf ByteArray.empty L 5 = PA := by rw [hLL]; rfl
  have a0 : rdOf ByteArray.empty L 0 = P1 := by rw [hLL]; rfl
  have a1 : rdOf ByteArray.empty L 1 = P2 := by rw [hLL]; rfl
  have a3 : rdOf ByteArray.empty L 3 = P3 := by rw [hLL]; rfl
  have a4 : rdOf ByteArray.empty L 4 = P4 := by rw [hLL]; rfl
  rw [← hLL]
  rw [a0, a1, a3, a4]
  refine Ev.ifn (by omega) (Ev.ifp (by omega) (Ev.ifp (by omega) (Ev.ifp (by omega) (Ev.ifp (by omega) (Ev.ifp (by omega) ?_)))))
  show Ev (fun k => book_Read.l0 k TT L [0, 0, 0, 0] [P1, P2, P3, P4] 4 0) _
  have g0 : strconv_Atoi.f (rdOf ByteArray.empty [P1, P2, P3, P4] 0) = some (f.f5, none) := e1
  have g1 : strconv_Atoi.f (rdOf ByteArray.empty [P1, P2, P3, P4] 1) = some (f.f0, none) := e2
  have g2 : strconv_Atoi.f (rdOf ByteArray.empty [P1, P2, P3, P4] 2) = some (f.f3, none) := e3
  have g3 : strconv_Atoi.f (rdOf ByteArray.empty [P1, P2, P3, P4] 3) = some (f.f4, none) := e4
  have hn : (none : Option Int).isNone = true := rfl
  refine Ev.step (f := fun k => book_Read.l0 k TT L [f.f5, 0, 0, 0] [P1, P2, P3, P4] 4 1) (fun k => ?_) ?_
  · simp only [book_Read.l0]
    rw [if_pos (by omega), if_pos (by omega), if_pos (by simp), g0]
    simp only [Option.bind_some]
    rw [if_pos hn, if_pos (by simp), w64 (by omega) (by omega)]
    rfl
  refine Ev.step (f := fun k => book_Read.l0 k TT L [f.f5, f.f0, 0, 0] [P1, P2, P3, P4] 4 2) (fun k => ?_) ?_
  · simp only [book_Read.l0]
    rw [if_pos (by omega), if_pos (by omega), if_pos (by simp), g1]
    simp only [Option.bind_some]
    rw [if_pos hn, if_pos (by simp), w64 (by omega) (by omega)]
    rfl
  refine Ev.step (f := fun k => book_Read.l0 k TT L [f.f5, f.f0, f.f3, 0] [P1, P2, P3, P4] 4 3) (fun k => ?_) ?_
  · simp only [book_Read.l0]
    rw [if_pos (by omega), if_pos (by omega), if_pos (by simp), g2]
    simp only [Option.bind_some]
    rw [if_pos hn, if_pos (by simp), w64 (by omega) (by omega)]
    rfl
  refine Ev.step (f := fun k => book_Read.l0 k TT L [f.f5, f.f0, f.f3, f.f4] [P1, P2, P3, P4] 4 4) (fun k => ?_) ?_
  · simp only [book_Read.l0]
    rw [if_pos (by omega), if_pos (by omega), if_pos (by simp), g3]
    simp only [Option.bind_some]
    rw [if_pos hn, if_pos (by simp), w64 (by omega) (by omega)]
    rfl
  have r0 : rd [f.f5, f.f0, f.f3, f.f4] 0 = f.f5 := rfl
  have r1 : rd [f.f5, f.f0, f.f3, f.f4] 1 = f.f0 := rfl
  have r2 : rd [f.f5, f.f0, f.f3, f.f4] 2 = f.f3 := rfl
  have r3 : rd [f.f5, f.f0, f.f3, f.f4] 3 = f.f4 := rfl
  refine Ev.step (f := fun k => (unit_Read.f k PA).bind fun bt => if bt.2.2 = 0 then ((book_Text.f k f.f0 f.f1 bt.1 bt.2.1 f.f3 f.f4 f.f5).bind fun bt' => (if bt'.2 = 0 then (if bt'.1.toList = TT.toList then (some (f.f0, f.f1, bt.1, bt.2.1, f.f3, f.f4, f.f5, 0)) else (some (0, (⟨#[]⟩ : ByteArray), 0, 0, 0, 0, 0, 14))) else (some (0, (⟨#[]⟩ : ByteArray), 0, 0, 0, 0, 0, 14)))) else (some (0, (⟨#[]⟩ : ByteArray), 0, 0, 0, 0, 0, 14))) (fun k => ?_) ?_
  · simp only [book_Read.l0]
    rw [if_neg (by omega), if_pos (by omega), a5]
    congr 1
    funext bt
    rw [if_pos (by simp), if_pos (by simp), if_pos (by omega), if_pos (by simp), if_pos (by simp), r0, r1, r2, r3, a2]
  refine Ev.bind er (Ev.ifp rfl (Ev.bind ht (Ev.ifp rfl (Ev.ifp rfl (Ev.now _)))))
/-! #### a chain of entries -/
theorem dig_of (s : Int) {t : ByteArray} (h : t.size ≤ 300) : ∃ d, book_Digest.f s t = some d := by
  unfold book_Digest.f; rw [if_pos (by omega)]; exact ⟨_, rfl⟩
inductive Chain : Int → Int → List S48 → List S33 → Int → Int → Prop
  | nil (s x : Int) : Chain s x [] [] s x
  | cons (s x : Int) (f : S48) (t : ByteArray) (d : Int) (fs : List S48) (es : List S33) (s' x' : Int) : Good f → x ≤ f.f5 → TextOf f t → book_Digest.f s t = some d → Chain d f.f5 fs es s' x' → Chain s x (f :: fs) (⟨t, d⟩ :: es) s' x'
theorem Chain.len {s x s' x' : Int} {fs : List S48} {es : List S33} (h : Chain s x fs es s' x') : es.length = fs.length := by
  induction h with
  | nil => rfl
  | cons _ _ _ _ _ _ _ _ _ _ _ _ _ _ ih => simp [ih]
theorem Chain.snoc {s x s' x' : Int} {fs : List S48} {es : List S33} (h : Chain s x fs es s' x') {f : S48} {t : ByteArray} {d : Int} (hg : Good f) (hx : x' ≤ f.f5) (ht : TextOf f t) (hd : book_Digest.f s' t = some d) : Chain s x (fs ++ [f]) (es ++ [⟨t, d⟩]) d f.f5 := by
  induction h with
  | nil s x => exact .cons _ _ _ _ _ _ _ _ _ hg hx ht hd (.nil _ _)
  | cons s x f' t' d' fs' es' s' x' h1 h2 h3 h4 _ ih => exact .cons _ _ _ _ _ _ _ _ _ h1 h2 h3 h4 (ih hx hd)
theorem Chain.take {s x s' x' : Int} {fs : List S48} {es : List S33} (h : Chain s x fs es s' x') : ∀ k, ∃ s'' x'', Chain s x (fs.take k) (es.take k) s'' x'' := by
  induction h with
  | nil s x => intro k; simp only [List.take_nil]; exact ⟨_, _, .nil _ _⟩
  | cons s x f t d fs es s' x' h1 h2 h3 h4 _ ih =>
    intro k
    cases k with
    | zero => exact ⟨_, _, .nil _ _⟩
    | succ k =>
      obtain ⟨s'', x'', h⟩ := ih k
      exact ⟨_, _, .cons _ _ _ _ _ _ _ _ _ h1 h2 h3 h4 h⟩
theorem Chain.last {s x s' x' : Int} {fs : List S48} {es : List S33} (h : Chain s x fs es s' x') : (es = [] ∧ s' = s ∧ x' = x) ∨ ∃ es0 t f, es = es0 ++ [⟨t, s'⟩] ∧ TextOf f t ∧ f.f5 = x' := by
  induction h with
  | nil s x => exact .inl ⟨rfl, rfl, rfl⟩
  | cons s x f t d fs es s' x' h1 h2 h3 h4 _ ih =>
    rcases ih with ⟨rfl, rfl, rfl⟩ | ⟨es0, t', f', rfl, h5, h6⟩
    · exact .inr ⟨[], t, f, rfl, h3, rfl⟩
    · exact .inr ⟨⟨t, d⟩ :: es0, t', f', rfl, h5, h6⟩
theorem drop_ent (l : List S33) (i : Nat) (h : i < l.length) : l.drop i = rd_T33 l (i : Int) :: l.drop (i + 1) := by
  rw [List.drop_eq_getElem_cons h]
  unfold rd_T33
  simp [List.getD, h]
theorem drop_fact (l : List S48) (i : Nat) (h : i < l.length) : l.drop i = rd_T48 l (i : Int) :: l.drop (i + 1) := by
  rw [List.drop_eq_getElem_cons h]
  unfold rd_T48
  simp [List.getD, h]
theorem check_l0 (l : List S33) (hl : l.length ≤ 500) (n : Nat) : ∀ (i : Nat) (s x s' x' : Int) (fs : List S48), l.length - i = n → i ≤ l.length → Chain s x fs (l.drop i) s' x' → Ev (fun k => book_Check.l0 k s x l (l.length : Int) (i : Int)) (0, 0) := by
  induction n with
  | zero =>
    intro i s x s' x' fs hn hi h
    refine Ev.step (f := fun _ => some (0, 0)) (fun k => ?_) (Ev.now _)
    simp only [book_Check.l0]
    rw [if_neg (by omega)]
  | succ n ih =>
    intro i s x s' x' fs hn hi h
    have hlt : i < l.length := by omega
    obtain ⟨e, he0⟩ : ∃ e, e = rd_T33 l (i : Int) := ⟨_, rfl⟩
    rw [drop_ent l i hlt, ← he0] at h
    cases h with
    | cons _ _ f t d fs' _ _ _ h1 h2 h3 h4 h5 =>
      have he := he0
      have ih' := ih (i + 1) d f.f5 s' x' fs' (by omega) (by omega) h5
      refine Ev.step (f := fun k => (book_Read.f k t).bind fun bt => (if bt.2.2.2.2.2.2.2 = 0 then (if bt.2.2.2.2.2.2.1 < x then (some ((i : Int), 9)) else ((book_Digest.f s t).bind fun t251 => (if t251 = d then (book_Check.l0 k d bt.2.2.2.2.2.2.1 l (l.length : Int) ((i + 1 : Nat) : Int)) else (some ((i : Int), 12))))) else (some ((i : Int), bt.2.2.2.2.2.2.2)))) (fun k => ?_) ?_
      · simp only [book_Check.l0]
        rw [if_pos (by omega), if_pos (by omega), if_pos (by omega), ← he, w64_succ hlt (by omega)]
      · refine Ev.bind h3.read (Ev.ifp rfl (Ev.ifn (by show ¬ f.f5 < x; omega) ?_))
        rw [h4]
        simp only [Option.bind_some]
        exact Ev.ifp trivial ih'
theorem bcheck_of {l : List S33} {s' x' : Int} {fs : List S48} (hl : l.length ≤ 500) (h : Chain 0 0 fs l s' x') : Ev (fun k => book_Check.f k l) (0, 0) := by
  simp only [book_Check.f]
  refine Ev.ifn (by omega) ?_
  exact check_l0 l hl _ 0 0 0 s' x' fs rfl (by omega) h
/-! #### entries are added -/
theorem rd_last (es0 : List S33) (e : S33) : rd_T33 (es0 ++ [e]) (es0.length : Int) = e := by
  unfold rd_T33
  simp [List.getD]
theorem add_of {l : List S33} {s' x' : Int} {fs : List S48} (hl : l.length ≤ 100) (h : Chain 0 0 fs l s' x') {f : S48} {t : ByteArray} {d : Int} (hx : x' ≤ f.f5) (ht : TextOf f t) (hd : book_Digest.f s' t = some d) :
    Ev (fun k => book_Add.f k l f.f0 f.f1 f.f2.f0 f.f2.f1 f.f3 f.f4 f.f5) (l ++ [⟨t, d⟩], 0) := by
  simp only [book_Add.f]
  refine Ev.bind (bcheck_of (by omega) h) (Ev.ifp rfl (Ev.bind ht.text (Ev.ifp rfl (Ev.ifn (by omega) ?_))))
  rcases h.last with ⟨rfl, rfl, rfl⟩ | ⟨es0, t0, f0, rfl, h5, h6⟩
  · refine Ev.ifn (by simp) ?_
    simp only [Option.bind_some]
    refine Ev.ifp (by simp) ?_
    rw [hd]
    simp only [Option.bind_some]
    exact Ev.ifp (by simp) (Ev.to rfl)
  · have hlen : ((es0 ++ [(⟨t0, s'⟩ : S33)]).length : Int) - 1 = (es0.length : Int) := by simp
    have hln : (es0 ++ [(⟨t0, s'⟩ : S33)]).length = es0.length + 1 := by simp
    refine Ev.ifp (by omega) ?_
    rw [w64 (x := ((es0 ++ [(⟨t0, s'⟩ : S33)]).length : Int) - 1) (by omega) (by omega), hlen, rd_last]
    refine Ev.ifp (by omega) (Ev.ifp (by omega) (Ev.bind h5.read (Ev.ifn (by show ¬ f.f5 < f0.f5; omega) ?_)))
    simp only [Option.bind_some]
    refine Ev.ifp (by simp; omega) ?_
    rw [hd]
    simp only [Option.bind_some]
    exact Ev.ifp (by simp; omega) (Ev.to (by simp))
/-- facts in the order in which they became known -/
def Rising (x : Int) : List S48 → Prop
  | [] => True
  | f :: r => x ≤ f.f5 ∧ Rising f.f5 r
theorem journal_l0 (G : List S48) (hG : G.length ≤ 19) (hg : ∀ f ∈ G, Good f) (hb : Ev (fun k => mootkeep1_books.f k) true) (n : Nat) : ∀ (i : Nat) (E : List S33) (s x : Int), G.length - i = n → i ≤ G.length → Chain 0 0 (G.take i) E s x → Rising x (G.drop i) →
    ∃ E' s' x', Chain 0 0 G E' s' x' ∧ Ev (fun k => mootkeep1_journal.l0 k G E G (G.length : Int) (i : Int)) (E', G, true) := by
  induction n with
  | zero =>
    intro i E s x hn hi h hr
    obtain rfl : i = G.length := by omega
    rw [List.take_length] at h
    refine ⟨E, s, x, h, Ev.step (f := fun k => (mootkeep1_books.f k).bind fun t => some (E, G, t)) (fun k => ?_) (Ev.bind hb (Ev.now _))⟩
    simp only [mootkeep1_journal.l0]
    rw [if_neg (by omega)]
  | succ n ih =>
    intro i E s x hn hi h hr
    have hlt : i < G.length := by omega
    obtain ⟨f, hf⟩ : ∃ f, f = rd_T48 G (i : Int) := ⟨_, rfl⟩
    have hdr := drop_fact G i hlt
    rw [← hf] at hdr
    rw [hdr] at hr
    have hmem : f ∈ G := List.mem_of_mem_drop (i := i) (by rw [hdr]; exact List.mem_cons_self ..)
    have hEl := h.len
    rw [List.length_take] at hEl
    obtain ⟨t, ht⟩ := textOf (hg f hmem)
    obtain ⟨d, hd⟩ := dig_of s ht.len
    have hadd := add_of (l := E) (by omega) h hr.1 ht hd
    have hsn := h.snoc (hg f hmem) hr.1 ht hd
    have htk : G.take (i + 1) = G.take i ++ [f] := by
      rw [List.take_add_one, List.getElem?_eq_getElem hlt]
      have : f = G[i] := by rw [hf]; unfold rd_T48; simp [List.getD, hlt]
      rw [this]; rfl
    rw [← htk] at hsn
    obtain ⟨E', s', x', h1, h2⟩ := ih (i + 1) (E ++ [⟨t, d⟩]) d f.f5 (by omega) (by omega) hsn hr.2
    refine ⟨E', s', x', h1, Ev.step (f := fun k => (book_Add.f k E f.f0 f.f1 f.f2.f0 f.f2.f1 f.f3 f.f4 f.f5).bind fun bt => (if bt.2 = 0 then (if (bt.1.length : Int) = ((E.length + 1 : Nat) : Int) then (mootkeep1_journal.l0 k G bt.1 G (G.length : Int) ((i + 1 : Nat) : Int)) else none) else none)) (fun k => ?_) (Ev.bind hadd (Ev.ifp rfl (Ev.ifp (by simp) h2)))⟩
    simp only [mootkeep1_journal.l0]
    rw [if_pos (by omega), if_pos (by omega), if_pos (by omega), ← hf, w64_succ hlt (by omega), w64 (x := (E.length : Int) + 1) (by omega) (by omega)]
    rfl
/-! #### the stable sort -/
theorem lm_id {n : Int} (h0 : 0 ≤ n) (h1 : n ≤ 1048576) : fact_Stable.lm n = n := by unfold fact_Stable.lm mx mn; (repeat' split) <;> omega
theorem stab_swo : Go.Sort.SWO (ltOf fact_Stable.cf) where
  irrefl x := by unfold ltOf fact_Stable.cf; simp
  trans x y z h1 h2 := by unfold ltOf fact_Stable.cf at *; simp at *; omega
  ntrans x y z h1 h2 := by unfold ltOf fact_Stable.cf at *; simp at *; omega
theorem rising_of : ∀ (l : List S48) (x : Int), (∀ f ∈ l, x ≤ f.f5) → l.Pairwise (fun a b => a.f5 ≤ b.f5) → Rising x l
  | [], x, _, _ => trivial
  | f :: r, x, h, hp => ⟨h f (List.mem_cons_self ..), rising_of r f.f5 (fun g hg => (List.pairwise_cons.1 hp).1 g hg) (List.pairwise_cons.1 hp).2⟩
theorem stable_of {F : List S48} (hF : F.length ≤ 11) (hg : ∀ f ∈ F, Good f) : ∃ G, fact_Stable.f F = some G ∧ G.length = F.length ∧ (∀ f ∈ G, Good f) ∧ Rising 0 G := by
  by_cases h0 : F.length = 0
  · obtain rfl := List.eq_nil_of_length_eq_zero h0
    exact ⟨[], by unfold fact_Stable.f; rw [if_pos h0], rfl, hg, trivial⟩
  obtain ⟨hp, hs⟩ := Go.Sort.insertionSort_holds (lt := ltOf fact_Stable.cf) stab_swo F.toArray 0 F.length (Nat.zero_le _) (by simp)
  obtain ⟨D, hD⟩ : ∃ D, D = Go.Sort.insertionSort (ltOf fact_Stable.cf) F.toArray 0 F.length := ⟨_, rfl⟩
  rw [← hD] at hp hs
  obtain ⟨p1, p2, p3⟩ := hp
  have hDs : D.size = F.length := by rw [p1]; simp
  have hperm : D.toList.Perm F := by
    have e1 : D.extract 0 F.length = D := by rw [← hDs]; simp
    have e2 : F.toArray.extract 0 F.length = F.toArray := by simp
    rw [e1, e2] at p3
    simpa using p3
  have hgD : ∀ f ∈ D.toList, Good f := fun f hf => hg f (hperm.mem_iff.1 hf)
  have hnz : D.toList.map fact_Stable.nz = D.toList := by
    refine (List.map_congr_left fun f hf => ?_).trans (List.map_id _)
    have hgf := hgD f hf
    have := hgf.known0; have := hgf.known1
    unfold fact_Stable.nz
    rw [lm_id (by omega) (by omega)]; rfl
  have hall : F.length ≤ 19 ∧ (F.all fun s => decide (fact_Stable.lm s.f5 = s.f5)) = true := ⟨by omega, List.all_eq_true.2 fun f hf => decide_eq_true (lm_id (hg f hf).known0 (by have := (hg f hf).known1; omega))⟩
  refine ⟨D.toList, ?_, by rw [Array.length_toList, hDs], hgD, rising_of _ _ (fun f hf => (hgD f hf).known0) ?_⟩
  · unfold fact_Stable.f
    rw [if_neg h0, if_pos hall]
    unfold fact_Stable.srt
    rw [← hD, hnz]
  · refine List.pairwise_iff_getElem.2 fun i j hi hj hij => ?_
    have hh := hs i j (Nat.zero_le _) hij (by simpa [hDs] using hj)
    have hi' : i < D.size := by simpa using hi
    have hj' : j < D.size := by simpa using hj
    rw [getElem!_pos D i hi', getElem!_pos D j hj'] at hh
    have g1 := hgD _ (List.getElem_mem hi); have g2 := hgD _ (List.getElem_mem hj)
    have := g1.known0; have := g1.known1; have := g2.known0; have := g2.known1
    unfold ltOf fact_Stable.cf at hh
    simp only [Array.getElem_toList] at *
    rw [lm_id (by omega) (by omega), lm_id (by omega) (by omega)] at hh
    simp at hh; omega
theorem journal_of (l : List Int) (hb : Ev (fun k => mootkeep1_books.f k) true) : ∃ E G s x, Chain 0 0 G E s x ∧ G.length ≤ 11 ∧ Ev (fun k => mootkeep1_journal.f k l) (E, G, true) := by
  obtain ⟨F, hF, hl, hg⟩ := facts_of l
  obtain ⟨G, h1, h2, h3, h4⟩ := stable_of hl (fun f hf => (hg f hf).1)
  obtain ⟨E, s, x, h5, h6⟩ := journal_l0 G (by omega) h3 hb _ 0 [] 0 0 rfl (by omega) (.nil _ _) h4
  refine ⟨E, G, s, x, h5, by omega, ?_⟩
  simp only [mootkeep1_journal.f]
  refine Ev.bind hF ?_
  rw [h1, ← h2]
  exact h6
theorem books_of : Ev (fun k => mootkeep1_books.f k) true := by
  have d3 : Go.Lib.decDigits 3 = [51] := Go.Lib.decDigits_one (by decide)
  have d5 : Go.Lib.decDigits 5 = [53] := Go.Lib.decDigits_one (by decide)
  have d10 : Go.Lib.decDigits 10 = [49, 48] := Go.Lib.decDigits_two (by decide) (by decide)
  have d20 : Go.Lib.decDigits 20 = [50, 48] := Go.Lib.decDigits_two (by decide) (by decide)
  have hone : Ev (fun k => fact_One.f k 3 (⟨#[105, 110, 99, 111, 109, 101]⟩ : ByteArray) 2 1250 10 20 5) 0 := by
    simp only [fact_One.f]
    rw [show fact_Name.f (⟨#[105, 110, 99, 111, 109, 101]⟩ : ByteArray) = some true by decide, (check_of (c := 2) (x := 1250) ⟨_, _, rfl, by decide, by decide⟩ (by omega) (by omega)).1]
    simp only [Option.bind_some]
    refine Ev.ifn (by omega) (Ev.ifp trivial (Ev.ifp trivial (Ev.ifn (by omega) (Ev.ifn (by omega) ?_))))
    refine Ev.step (f := fun _ => some 0) (fun k => ?_) (Ev.now _)
    simp only [fact_One.j0]
    rw [if_neg (by simp), if_neg (by omega), if_neg (by omega)]
  have htx := money_of
  simp only [mootkeep1_books.f, book_Text.f]
  refine Ev.bind (a := (bs [53, 32, 51, 32, 105, 110, 99, 111, 109, 101, 32, 49, 48, 32, 50, 48, 32, 49, 50, 46, 53, 48], 0)) ?_ (Ev.ifp rfl (Ev.to (by rw [bs_toList]; rfl)))
  refine Ev.bind hone (Ev.ifp rfl ?_)
  rw [itoa_nn (n := 5) (by omega) (by omega), itoa_nn (n := 3) (by omega) (by omega), itoa_nn (n := 10) (by omega) (by omega), itoa_nn (n := 20) (by omega) (by omega)]
  simp only [Option.bind_some]
  refine Ev.bind htx ?_
  have q5 : dec 5 = [53] := d5
  have q3 : dec 3 = [51] := d3
  have q10 : dec 10 = [49, 48] := d10
  have q20 : dec 20 = [50, 48] := d20
  rw [q5, q3, q10, q20]
  have hj := bjoin (a := [53]) (b := [51]) (c := [105, 110, 99, 111, 109, 101]) (d := [49, 48]) (e := [50, 48]) (g := [49, 50, 46, 53, 48]) (by decide)
  rw [show (⟨#[105, 110, 99, 111, 109, 101]⟩ : ByteArray) = bs [105, 110, 99, 111, 109, 101] from rfl, hj]
  exact Ev.to rfl
/-! #### what a journal tells -/
theorem head_of {l : List S33} {s' x' : Int} {fs : List S48} (hl : l.length ≤ 500) (h : Chain 0 0 fs l s' x') : Ev (fun k => book_Head.f k l) ((l.length : Int), s', 0) := by
  simp only [book_Head.f]
  refine Ev.bind (bcheck_of hl h) (Ev.ifp rfl ?_)
  rcases h.last with ⟨rfl, rfl, rfl⟩ | ⟨es0, t0, f0, rfl, h5, h6⟩
  · exact Ev.ifp rfl (Ev.to rfl)
  · have hln : (es0 ++ [(⟨t0, s'⟩ : S33)]).length = es0.length + 1 := by simp
    refine Ev.ifn (by omega) ?_
    rw [w64 (by omega) (by omega), show ((es0 ++ [(⟨t0, s'⟩ : S33)]).length : Int) - 1 = (es0.length : Int) from by omega, rd_last]
    exact Ev.ifp (by omega) (Ev.ifp (by omega) (Ev.now _))
/-! #### a digest tells its bytes -/
def U64 (s : Int) : Prop := 0 ≤ s ∧ s < 18446744073709551616
theorem dgOne_bv (s c : Int) : dgOne s c = (((BitVec.ofInt 64 s ^^^ BitVec.ofInt 64 c) * 1099511628211#64).toNat : Int) := by
  obtain ⟨X, hX⟩ : ∃ X, X = BitVec.ofInt 64 s ^^^ BitVec.ofInt 64 c := ⟨_, rfl⟩
  have h1 : bits .xor .u64 s c = IntKind.u64.wrap (X.toNat : Int) := by rw [hX]; rfl
  have hw : ∀ x : Int, IntKind.u64.wrap x = x % 18446744073709551616 := fun x => by simp [IntKind.wrap, IntKind.signed, IntKind.bits]
  have hlt := X.isLt
  unfold dgOne
  rw [h1, hw, hw, ← hX, BitVec.toNat_mul]
  have e : (1099511628211#64).toNat = 1099511628211 := by decide
  rw [e]
  omega
theorem dgOne_u (s c : Int) : U64 (dgOne s c) := by
  rw [dgOne_bv]
  have := ((BitVec.ofInt 64 s ^^^ BitVec.ofInt 64 c) * 1099511628211#64).isLt
  unfold U64; omega
theorem mulP_inj {x y : BitVec 64} (h : x * 1099511628211#64 = y * 1099511628211#64) : x = y := by
  have h1 := congrArg (· * 14886173955864302971#64) h
  simp only [BitVec.mul_assoc] at h1
  have e : (1099511628211#64 * 14886173955864302971#64 : BitVec 64) = 1#64 := by decide
  rw [e] at h1
  simpa using h1
theorem ofInt_inj {a b : Int} (ha : U64 a) (hb : U64 b) (h : BitVec.ofInt 64 a = BitVec.ofInt 64 b) : a = b := by
  have h1 := congrArg BitVec.toNat h
  simp only [BitVec.toNat_ofInt] at h1
  unfold U64 at ha hb
  have : ((2 ^ 64 : Nat) : Int) = 18446744073709551616 := by decide
  omega
theorem xor_can {x y c : BitVec 64} (h : x ^^^ c = y ^^^ c) : x = y := by
  have h1 := congrArg (· ^^^ c) h
  simpa [BitVec.xor_assoc] using h1
theorem dgOne_inj_s {s s' c : Int} (h1 : U64 s) (h2 : U64 s') (h : dgOne s c = dgOne s' c) : s = s' := by
  rw [dgOne_bv, dgOne_bv] at h
  have h' : ((BitVec.ofInt 64 s ^^^ BitVec.ofInt 64 c) * 1099511628211#64).toNat = ((BitVec.ofInt 64 s' ^^^ BitVec.ofInt 64 c) * 1099511628211#64).toNat := by omega
  exact ofInt_inj h1 h2 (xor_can (mulP_inj (BitVec.eq_of_toNat_eq h')))
theorem dgOne_inj_c {s c c' : Int} (h1 : U64 c) (h2 : U64 c') (h : dgOne s c = dgOne s c') : c = c' := by
  rw [dgOne_bv, dgOne_bv] at h
  have h' : ((BitVec.ofInt 64 s ^^^ BitVec.ofInt 64 c) * 1099511628211#64).toNat = ((BitVec.ofInt 64 s ^^^ BitVec.ofInt 64 c') * 1099511628211#64).toNat := by omega
  have h3 := mulP_inj (BitVec.eq_of_toNat_eq h')
  rw [BitVec.xor_comm, BitVec.xor_comm (BitVec.ofInt 64 s)] at h3
  exact ofInt_inj h1 h2 (xor_can h3)
theorem dgFrom_u (t : ByteArray) : ∀ (k : Nat) (i s : Int), U64 s → U64 (dgFrom t k i s)
  | 0, _, _, h => h
  | k + 1, i, s, _ => dgFrom_u t k (i + 1) _ (dgOne_u _ _)
theorem dgFrom_ne_s (t t' : ByteArray) : ∀ (k : Nat) (i s s' : Int), (∀ j : Int, i ≤ j → rd (bytesOf t) j = rd (bytesOf t') j) → U64 s → U64 s' → s ≠ s' → dgFrom t k i s ≠ dgFrom t' k i s'
  | 0, _, _, _, _, _, _, h => h
  | k + 1, i, s, s', hj, h1, h2, h => by
    unfold dgFrom
    refine dgFrom_ne_s t t' k (i + 1) _ _ (fun j h => hj j (by omega)) (dgOne_u _ _) (dgOne_u _ _) fun e => h ?_
    rw [hj i (by omega)] at e
    exact dgOne_inj_s h1 h2 e
theorem dgFrom_ne (t t' : ByteArray) (p : Int) (hp : U64 (rd (bytesOf t) p)) (hp' : U64 (rd (bytesOf t') p)) (hne : rd (bytesOf t) p ≠ rd (bytesOf t') p) (hj : ∀ j : Int, 0 ≤ j → j ≠ p → rd (bytesOf t) j = rd (bytesOf t') j) :
    ∀ (k : Nat) (i s : Int), 0 ≤ i → i ≤ p → p < i + k → dgFrom t k i s ≠ dgFrom t' k i s
  | 0, i, s, _, h1, h2 => by omega
  | k + 1, i, s, h0, h1, h2 => by
    unfold dgFrom
    by_cases hi : i = p
    · subst hi
      exact dgFrom_ne_s t t' k (i + 1) _ _ (fun j h => hj j (by omega) (by omega)) (dgOne_u _ _) (dgOne_u _ _) fun e => hne (dgOne_inj_c hp hp' e)
    · rw [hj i h0 hi]
      exact dgFrom_ne t t' p hp hp' hne hj k (i + 1) _ (by omega) (by omega) (by omega)
/-! #### a byte changed -/
def xset (l : List UInt8) (p : Nat) : List UInt8 := l.set p (l.getD p 0 ^^^ 1)
theorem xset_len (l : List UInt8) (p : Nat) : (xset l p).length = l.length := by unfold xset; simp
theorem xset_left {X Y : List UInt8} {p : Nat} (h : p < X.length) : xset (X ++ Y) p = xset X p ++ Y := by
  unfold xset
  rw [List.set_append_left _ _ h]
  simp [List.getD, List.getElem?_append_left h]
theorem xset_mid {X Y : List UInt8} {c : UInt8} : xset (X ++ c :: Y) X.length = X ++ (c ^^^ 1) :: Y := by
  unfold xset
  rw [List.set_append_right _ _ (Nat.le_refl _)]
  simp [List.getD]
theorem xset_right {X Y : List UInt8} {c : UInt8} {p : Nat} (h : X.length < p) : xset (X ++ c :: Y) p = X ++ c :: xset Y (p - X.length - 1) := by
  unfold xset
  obtain ⟨q, rfl⟩ : ∃ q, p = X.length + (q + 1) := ⟨p - X.length - 1, by omega⟩
  rw [List.set_append_right _ _ (by omega)]
  simp [List.getD, List.getElem?_append_right, show X.length + (q + 1) - X.length = q + 1 from by omega]
theorem bytes_rd (l : List UInt8) (j : Int) (h : 0 ≤ j) : rd (bytesOf (bs l)) j = ((l.getD j.toNat 0).toNat : Int) := by
  unfold rd bytesOf bs
  simp only [List.getD_eq_getElem?_getD, List.getElem?_map]
  cases l[j.toNat]? <;> rfl
theorem x1_ne (b : UInt8) : b ^^^ 1 ≠ b := by
  intro h
  have h1 := congrArg (b ^^^ ·) h
  simp [← UInt8.xor_assoc] at h1
theorem dig_forged {s : Int} {A : List UInt8} {p : Nat} (h : A.length ≤ 300) (hp : p < A.length) {d d' : Int} (hd : book_Digest.f s (bs A) = some d) (hd' : book_Digest.f s (bs (xset A p)) = some d') (hs : U64 s) : d ≠ d' := by
  unfold book_Digest.f at hd hd'
  rw [if_pos (by rw [bs_size]; omega), bs_size] at hd
  rw [if_pos (by rw [bs_size, xset_len]; omega), bs_size, xset_len] at hd'
  obtain rfl := Option.some.inj hd
  obtain rfl := Option.some.inj hd'
  have hb : ∀ b : UInt8, U64 (b.toNat : Int) := fun b => by have := b.toNat_lt; unfold U64; omega
  intro e
  have e2 := dgOne_inj_s (dgFrom_u _ _ _ _ hs) (dgFrom_u _ _ _ _ hs) e
  refine dgFrom_ne (bs A) (bs (xset A p)) (p : Int) ?_ ?_ ?_ ?_ A.length 0 s (by omega) (by omega) (by omega) e2
  · rw [bytes_rd _ _ (by omega)]; exact hb _
  · rw [bytes_rd _ _ (by omega)]; exact hb _
  · rw [bytes_rd _ _ (by omega), bytes_rd _ _ (by omega), Int.toNat_natCast]
    intro h
    have h2 : A.getD p 0 = (xset A p).getD p 0 := UInt8.toNat_inj.1 (by omega)
    unfold xset at h2
    simp only [List.getD_eq_getElem?_getD] at h2
    rw [List.getElem?_set_self hp] at h2
    exact x1_ne _ (by simpa using h2.symm)
  · intro j h0 hj
    rw [bytes_rd _ _ h0, bytes_rd _ _ h0]
    unfold xset
    simp only [List.getD_eq_getElem?_getD]
    rw [List.getElem?_set_ne (by omega)]
/-! #### the forged text's form -/
theorem first_hit {c : UInt8} : ∀ {L : List UInt8}, c ∈ L → ∃ A B, L = A ++ c :: B ∧ ∀ b ∈ A, b ≠ c
  | [], h => by cases h
  | x :: L, h => by
    by_cases hx : x = c
    · subst hx; exact ⟨[], L, rfl, fun b hb => by cases hb⟩
    · obtain ⟨A, B, e, hA⟩ := first_hit (L := L) ((List.mem_cons.1 h).resolve_left fun e => hx e.symm)
      refine ⟨x :: A, B, by rw [e]; rfl, fun b hb => ?_⟩
      rcases List.mem_cons.1 hb with rfl | hb
      · exact hx
      · exact hA b hb
theorem splitB_count (c : UInt8) : ∀ (n : Nat) (L : List UInt8), (Go.Lib.splitB (bs [c]) 0 n (bs L)).length ≤ L.count c + 1
  | 0, L => by rw [Go.Lib.splitB_zero]; simp
  | n + 1, L => by
    by_cases h : c ∈ L
    · obtain ⟨A, B, rfl, hA⟩ := first_hit h
      rw [split_step n hA]
      have := splitB_count c n B
      rw [List.count_append, List.count_cons, count_no hA]
      simp only [List.length_cons, beq_self_eq_true, if_true]
      omega
    · rw [Go.Lib.splitB_miss _ _ _ _ (by rw [indexB_bs, index_none (c := c) fun b hb e => h (e ▸ hb)])]
      simp
/-- a field, or a field with a byte changed -/
def Seg (X X' : List UInt8) : Prop := X' = X ∨ ∃ p, p < X.length ∧ X' = xset X p
theorem Seg.len {X X' : List UInt8} (h : Seg X X') : X'.length = X.length := by
  rcases h with rfl | ⟨p, _, rfl⟩
  · rfl
  · exact xset_len _ _
theorem x1_dg {b : UInt8} (h : dg1 b) : dg1 (b ^^^ 1) := by
  unfold dg1 at h ⊢
  have e : (b ^^^ 1).toNat = b.toNat ^^^ 1 := by simp
  obtain ⟨n, hn⟩ : ∃ n, n = b.toNat := ⟨_, rfl⟩
  rw [e, ← hn]
  rw [← hn] at h
  have : ∀ m : Fin 58, 48 ≤ m.val → 48 ≤ m.val ^^^ 1 ∧ m.val ^^^ 1 ≤ 57 := by decide
  exact this ⟨n, by omega⟩ h.1
theorem Seg.digs {X X' : List UInt8} (h : Seg X X') (hd : Digs X) : Digs X' := by
  rcases h with rfl | ⟨p, hp, rfl⟩
  · exact hd
  · intro b hb
    unfold xset at hb
    rcases List.mem_or_eq_of_mem_set hb with hb | rfl
    · exact hd b hb
    · have : X.getD p 0 ∈ X := by
        rw [List.getD_eq_getElem?_getD, List.getElem?_eq_getElem hp]; exact List.getElem_mem hp
      exact x1_dg (hd _ this)
theorem sep_step {X Y : List UInt8} {p : Nat} (h : p < (X ++ 32 :: Y).length) :
    (p < X.length ∧ xset (X ++ 32 :: Y) p = xset X p ++ 32 :: Y) ∨ xset (X ++ 32 :: Y) p = X ++ 33 :: Y ∨ ∃ q, q < Y.length ∧ xset (X ++ 32 :: Y) p = X ++ 32 :: xset Y q := by
  rcases Nat.lt_trichotomy p X.length with h1 | h1 | h1
  · exact .inl ⟨h1, xset_left h1⟩
  · subst h1; exact .inr (.inl xset_mid)
  · refine .inr (.inr ⟨p - X.length - 1, ?_, xset_right h1⟩)
    simp only [List.length_append, List.length_cons] at h
    omega
def J6 (a b c d e g : List UInt8) : List UInt8 := a ++ 32 :: (b ++ 32 :: (c ++ 32 :: (d ++ 32 :: (e ++ 32 :: g))))
theorem forged_shape {a b c d e g : List UInt8} (ha : ∀ x ∈ a, x ≠ 32) (hb : ∀ x ∈ b, x ≠ 32) (hc : ∀ x ∈ c, x ≠ 32) (hd : ∀ x ∈ d, x ≠ 32) (he : ∀ x ∈ e, x ≠ 32) (hg : ∀ x ∈ g, x ≠ 32) {p : Nat} (hp : p < (J6 a b c d e g).length) :
    (∃ a' b' c' d' e' g', Seg a a' ∧ Seg b b' ∧ Seg c c' ∧ Seg d d' ∧ Seg e e' ∧ Seg g g' ∧ xset (J6 a b c d e g) p = J6 a' b' c' d' e' g') ∨ (xset (J6 a b c d e g) p).count 32 ≤ 4 := by
  have na := count_no ha; have nb := count_no hb; have nc := count_no hc; have nd := count_no hd; have ne := count_no he; have ng := count_no hg
  unfold J6 at hp ⊢
  have r : ∀ X, Seg X X := fun X => .inl rfl
  have e33 : ((33 : UInt8) == 32) = false := by decide
  rcases sep_step hp with ⟨h1, h2⟩ | h2 | ⟨q, hq, h2⟩
  · exact .inl ⟨_, _, _, _, _, _, .inr ⟨_, h1, rfl⟩, r _, r _, r _, r _, r _, h2⟩
  · right; rw [h2]; simp [List.count_append, List.count_cons, *]
  rw [h2]
  rcases sep_step hq with ⟨h1, h3⟩ | h3 | ⟨q, hq, h3⟩
  · exact .inl ⟨_, _, _, _, _, _, r _, .inr ⟨_, h1, rfl⟩, r _, r _, r _, r _, by rw [h3]⟩
  · right; rw [h3]; simp [List.count_append, List.count_cons, *]
  rw [h3]
  rcases sep_step hq with ⟨h1, h4⟩ | h4 | ⟨q, hq, h4⟩
  · exact .inl ⟨_, _, _, _, _, _, r _, r _, .inr ⟨_, h1, rfl⟩, r _, r _, r _, by rw [h4]⟩
  · right; rw [h4]; simp [List.count_append, List.count_cons, *]
  rw [h4]
  rcases sep_step hq with ⟨h1, h5⟩ | h5 | ⟨q, hq, h5⟩
  · exact .inl ⟨_, _, _, _, _, _, r _, r _, r _, .inr ⟨_, h1, rfl⟩, r _, r _, by rw [h5]⟩
  · right; rw [h5]; simp [List.count_append, List.count_cons, *]
  rw [h5]
  rcases sep_step hq with ⟨h1, h6⟩ | h6 | ⟨q, hq, h6⟩
  · exact .inl ⟨_, _, _, _, _, _, r _, r _, r _, r _, .inr ⟨_, h1, rfl⟩, r _, by rw [h6]⟩
  · right; rw [h6]; simp [List.count_append, List.count_cons, *]
  rw [h6]
  exact .inl ⟨_, _, _, _, _, _, r _, r _, r _, r _, r _, .inr ⟨_, hq, rfl⟩, rfl⟩
/-! #### a forged text is read to some end -/
/-- some answer, with enough rounds -/
def Tot {α : Type} (f : Nat → Option α) : Prop := ∃ r, Ev f r
theorem Tot.ite {α : Type} {c : Prop} [Decidable c] {f g : Nat → Option α} (hf : c → Tot f) (hg : ¬ c → Tot g) : Tot (fun k => if c then f k else g k) := by
  by_cases h : c
  · obtain ⟨r, hr⟩ := hf h; exact ⟨r, Ev.ifp h hr⟩
  · obtain ⟨r, hr⟩ := hg h; exact ⟨r, Ev.ifn h hr⟩
theorem Tot.now {α : Type} (a : α) : Tot (fun _ => some a) := ⟨a, Ev.now a⟩
theorem Tot.bind {α β : Type} {f : Nat → Option α} {g : Nat → α → Option β} {a : α} (h : Ev f a) (hg : Tot (fun k => g k a)) : Tot (fun k => (f k).bind (g k)) := by
  obtain ⟨r, hr⟩ := hg; exact ⟨r, Ev.bind h hr⟩
theorem Tot.step {α : Type} {f g : Nat → Option α} (h : ∀ k, g (k + 1) = f k) (hf : Tot f) : Tot g := by
  obtain ⟨r, hr⟩ := hf; exact ⟨r, Ev.step h hr⟩
theorem decFrom_digs : ∀ {D : List UInt8} (acc : Nat), Digs D → ∃ v, Go.Lib.decFrom acc D = some v ∧ v < (acc + 1) * 10 ^ D.length
  | [], acc, _ => ⟨acc, rfl, by simp⟩
  | x :: D, acc, h => by
    have hx := h x (List.mem_cons_self ..)
    unfold dg1 at hx
    have hv : Go.Lib.digitVal x = some (x.toNat - 48) := by unfold Go.Lib.digitVal; rw [if_pos (by omega)]
    obtain ⟨v, h1, h2⟩ := decFrom_digs (D := D) (acc * 10 + (x.toNat - 48)) (fun b hb => h b (List.mem_cons_of_mem _ hb))
    refine ⟨v, ?_, ?_⟩
    · simp only [Go.Lib.decFrom, hv]; exact h1
    · rw [List.length_cons, Nat.pow_succ]
      have h3 : (acc * 10 + (x.toNat - 48) + 1) * 10 ^ D.length ≤ ((acc + 1) * 10) * 10 ^ D.length := Nat.mul_le_mul_right _ (by omega)
      have h4 : (acc + 1) * (10 ^ D.length * 10) = ((acc + 1) * 10) * 10 ^ D.length := by
        rw [Nat.mul_comm (10 ^ D.length) 10, Nat.mul_assoc]
      omega
theorem Fld.num {D : List UInt8} (h : Fld D) : ∃ v : Int, Go.Lib.atoi D = some v ∧ 0 ≤ v ∧ v ≤ 99999 := by
  obtain ⟨v, h1, h2⟩ := decFrom_digs 0 h.digs
  have h3 : 10 ^ D.length ≤ 10 ^ 5 := Nat.pow_le_pow_right (by decide) h.len
  exact ⟨v, atoi_digs h.digs h.ne h1, by omega, by omega⟩
theorem Fld.seg {D D' : List UInt8} (h : Fld D) (hs : Seg D D') : Fld D' := ⟨hs.digs h.digs, fun e => h.ne (List.eq_nil_of_length_eq_zero (by rw [← hs.len, e]; rfl)), by rw [hs.len]; exact h.len⟩
theorem fld_dec {n : Int} (h0 : 0 ≤ n) (h1 : n ≤ 10000) : Fld (dec n) := ⟨dec_digs n, dec_ne _, dec_len h0 h1⟩
theorem itoa_tot {n : Int} (h0 : 0 ≤ n) (h1 : n ≤ 99999) : ∃ A : List UInt8, strconv_Itoa.f n = some (bs A) ∧ A.length ≤ 20 := by
  refine ⟨sgn n ++ Go.Lib.decDigits n.natAbs, itoa_of (by omega) (by omega), ?_⟩
  have h2 := sgn_len n; have h3 := dlen (n := n.natAbs) (by omega)
  simp only [List.length_append]; omega
/-- a value that is read, or none -/
def UR (g : List UInt8) : Prop := ∃ r : Int × Int × Int, Ev (fun k => unit_Read.f k (bs g)) r ∧ (r.2.2 = 0 → (∃ A, Reads r.1 r.2.1 A) ∧ unit_Check.f r.1 r.2.1 = some 0)
theorem ur_digs {D : List UInt8} (h : Fld D) : UR D := by
  obtain ⟨v, hv, v0, v1⟩ := h.num
  have hl := h.len
  have hd := h.digs
  have hn := h.ne
  have n46 : ∀ b ∈ D, b ≠ 46 := ne_of_digs hd (by decide)
  have n1 : ∀ (s : List UInt8) {d : UInt8}, ¬ dg1 d → strings_HasSuffix.f (bs D) (bs (s ++ [d])) = some false := fun s d hdd => by
    have := ends_no (X := []) hd hn (by simp; omega) (s := s) hdd
    simpa using this
  have hnum : Numeral D := by
    cases D with
    | nil => exact absurd rfl hn
    | cons c r => exact ⟨c, r, rfl, .inr (hd c (List.mem_cons_self ..))⟩
  have hform : unit_form.f (bs D) = some 5 := by
    have e1 : strings_HasSuffix.f (bs D) (⟨#[37]⟩ : ByteArray) = some false := n1 [] (by decide)
    have e2 : strings_HasSuffix.f (bs D) (⟨#[32, 100, 97, 121, 115]⟩ : ByteArray) = some false := n1 [32, 100, 97, 121] (by decide)
    have e3 : strings_Contains.f (bs D) (⟨#[46]⟩ : ByteArray) = some false := by rw [lit46, con_of _ _ (by omega), contains_no n46]
    have e4 : strings_Count.f (bs D) (⟨#[45]⟩ : ByteArray) = some ((0 : Nat) : Int) := by rw [lit45, cnt_of, count_no (ne_of_digs hd (by decide))]
    unfold unit_form.f
    rw [if_neg (hnum.ne (by decide) (by decide)), if_neg (hnum.ne (by decide) (by decide)), if_neg (hnum.ne (by decide) (by decide)), e1, e2, e3, e4]
    simp only [Option.bind_some]
    rw [if_neg (by decide), if_neg (by decide), if_neg (by decide), if_neg (by omega)]
  have hnb : unit_number.f 5 (bs D) = some (v, true) := by
    have e1 : strings_TrimSuffix.f (bs D) (⟨#[37]⟩ : ByteArray) = some (bs D) := ts_no (n1 [] (by decide))
    have e2 : strings_TrimSuffix.f (bs D) (⟨#[32, 100, 97, 121, 115]⟩ : ByteArray) = some (bs D) := ts_no (n1 [32, 100, 97, 121] (by decide))
    have h3 := cut_of D 46 (by omega)
    rw [cut_no n46] at h3
    have e3 : strings_Cut.f (bs D) (⟨#[46]⟩ : ByteArray) = some (bs D, bs [], false) := h3
    unfold unit_number.f
    rw [if_neg (by omega), if_neg (by omega), if_neg (by omega), e1]
    simp only [Option.bind_some]
    rw [e2]
    simp only [Option.bind_some]
    rw [e3]
    simp only [Option.bind_some, bs_append, bs_size]
    rw [if_neg (by omega), if_pos (by simp only [List.length_nil]; omega), atoi_of (by rw [List.append_nil]; omega) (by rw [List.append_nil]; exact hv)]
    rfl
  have hck := (check_of (c := 5) (x := v) ⟨-1048576, 1048576, rfl, by omega, by omega⟩ (by omega) (by omega)).1
  obtain ⟨A, hA⟩ := reads5 (x := v) v0 (by omega)
  have hev : ∀ r, Ev (fun k => if (bs A).toList = (bs D).toList then (some ((5 : Int), v, (0 : Int))) else (some (0, 0, 14))) r → Ev (fun k => unit_Read.f k (bs D)) r := fun r hr => by
    unfold unit_Read.f
    rw [hform]; simp only [Option.bind_some]
    rw [hnb]; simp only [Option.bind_some]
    refine Ev.ifn (by rw [bs_size]; omega) (Ev.ifp trivial ?_)
    simp only [hck, Option.bind_some]
    exact Ev.ifp trivial (Ev.bind hA.text hr)
  by_cases e : (bs A).toList = (bs D).toList
  · exact ⟨_, hev _ (Ev.ifp e (Ev.now _)), fun _ => ⟨⟨A, hA⟩, hck⟩⟩
  · exact ⟨_, hev _ (Ev.ifn e (Ev.now _)), fun h => absurd h (by decide)⟩
theorem ur_none : UR [110, 111, 110, 101] := by
  have hr : Reads 0 0 [110, 111, 110, 101] := ⟨by decide, ⟨0, fun k _ => rfl⟩, by decide +kernel, rfl⟩
  have hck := (check_of (c := 0) (x := 0) ⟨0, 0, rfl, by omega, by omega⟩ (by omega) (by omega)).1
  exact ⟨_, read_of hr hck, fun _ => ⟨⟨_, hr⟩, hck⟩⟩
theorem ur_bad {g : List UInt8} (hl : g.length ≤ 40) (h1 : unit_form.f (bs g) = some 5) (h2 : unit_number.f 5 (bs g) = some (0, false)) : UR g := by
  refine ⟨(0, 0, 14), ?_, fun h => absurd h (by decide)⟩
  unfold unit_Read.f
  rw [h1]; simp only [Option.bind_some]
  rw [h2]; simp only [Option.bind_some]
  exact Ev.ifn (by rw [bs_size]; omega) (Ev.ifn (by decide) (Ev.now _))
theorem ValText.len {A : List UInt8} (h : ValText A) : A.length ≤ 5 := by
  rcases h with rfl | h
  · decide
  · exact h.len
theorem ValText.ur {A A' : List UInt8} (h : ValText A) (hs : Seg A A') : UR A' := by
  rcases h with rfl | h
  · rcases hs with rfl | ⟨p, hp, rfl⟩
    · exact ur_none
    · have : p = 0 ∨ p = 1 ∨ p = 2 ∨ p = 3 := by simp at hp; omega
      rcases this with rfl | rfl | rfl | rfl <;> exact ur_bad (by decide) (by decide +kernel) (by decide +kernel)
  · exact ur_digs (h.seg hs)
theorem text_tot {f0 f3 f4 f5 c n : Int} {at_ A : List UInt8} (hf0 : 0 ≤ f0 ∧ f0 ≤ 99999) (hf3 : 0 ≤ f3 ∧ f3 ≤ 99999) (hf4 : 0 ≤ f4 ∧ f4 ≤ 99999) (hf5 : 0 ≤ f5 ∧ f5 ≤ 99999) (ha : at_.length ≤ 5) (hA : Reads c n A) (hck : unit_Check.f c n = some 0) :
    Tot (fun k => book_Text.f k f0 (bs at_) c n f3 f4 f5) := by
  have hone : Tot (fun k => fact_One.f k f0 (bs at_) c n f3 f4 f5) := by
    unfold fact_One.f
    have hnm : fact_Name.f (bs at_) = some (nameOk (bs at_)) := rfl
    rw [hnm, hck]
    simp only [Option.bind_some]
    have hj : ∀ b, Tot (fun k => fact_One.j0 k b f0 (bs at_) c n f3 f4 f5) := fun b => by
      refine Tot.step (f := fun k => if b = true then (some 9) else (if f5 < 0 then (some 1) else (if f5 > 1048575 then (some 1) else (some 0)))) (fun k => rfl) ?_
      exact Tot.ite (fun _ => .now _) (fun _ => .ite (fun _ => .now _) (fun _ => .ite (fun _ => .now _) (fun _ => .now _)))
    exact Tot.ite (fun _ => .now _) (fun _ => .ite (fun _ => .ite (fun _ => .ite (fun _ => hj _) (fun _ => .ite (fun _ => hj _) (fun _ => hj _))) (fun _ => .now _)) (fun _ => .now _))
  obtain ⟨e, he⟩ := hone
  obtain ⟨A5, h5, l5⟩ := itoa_tot hf5.1 hf5.2
  obtain ⟨A0, h0, l0⟩ := itoa_tot hf0.1 hf0.2
  obtain ⟨A3, h3, l3⟩ := itoa_tot hf3.1 hf3.2
  obtain ⟨A4, h4, l4⟩ := itoa_tot hf4.1 hf4.2
  have lA := hA.len
  unfold book_Text.f
  refine Tot.bind he (Tot.ite (fun _ => ?_) (fun _ => .now _))
  rw [h5, h0, h3, h4]
  simp only [Option.bind_some]
  refine Tot.bind hA.text ?_
  rw [bjoin (by omega)]
  exact .now _
theorem read_tot {a b c d e g : List UInt8} (ha : Fld a) (hb : Fld b) (hc : c.length ≤ 5) (hc32 : ∀ x ∈ c, x ≠ 32) (hd : Fld d) (he : Fld e) (hg : UR g) (lg : g.length ≤ 40) : Tot (fun k => book_Read.f k (bs (J6 a b c d e g))) := by
  have la := ha.len; have lb := hb.len; have ld := hd.len; have le := he.len
  have pa : 1 ≤ a.length := List.length_pos_iff.2 ha.ne
  have hl : (J6 a b c d e g).length ≤ 100 ∧ 5 ≤ (J6 a b c d e g).length := by unfold J6; simp only [List.length_append, List.length_cons]; omega
  have hsp : strings_SplitN.f (bs (J6 a b c d e g)) (⟨#[32]⟩ : ByteArray) 6 = some [bs a, bs b, bs c, bs d, bs e, bs g] := by
    unfold strings_SplitN.f
    rw [if_pos ⟨by rw [bs_size]; omega, by decide, by omega, by omega⟩, bs_size, show min (6 : Int).toNat ((J6 a b c d e g).length + 1) - 1 = 0 + 1 + 1 + 1 + 1 + 1 from by have : (6 : Int).toNat = 6 := rfl; omega]
    have n1 : ∀ {D : List UInt8}, Digs D → ∀ b ∈ D, b ≠ 32 := fun h => ne_of_digs h (by decide)
    unfold J6
    rw [show (⟨#[32]⟩ : ByteArray) = bs [32] from rfl, split_step _ (n1 ha.digs), split_step _ (n1 hb.digs), split_step _ hc32, split_step _ (n1 hd.digs), split_step _ (n1 he.digs), Go.Lib.splitB_zero]
  obtain ⟨v5, a5, p5, q5⟩ := ha.num
  obtain ⟨v0, a0, p0, q0⟩ := hb.num
  obtain ⟨v3, a3, p3, q3⟩ := hd.num
  obtain ⟨v4, a4, p4, q4⟩ := he.num
  obtain ⟨r, hr, hok⟩ := hg
  have e1 := atoi_of (A := a) (by omega) a5
  have e2 := atoi_of (A := b) (by omega) a0
  have e3 := atoi_of (A := d) (by omega) a3
  have e4 := atoi_of (A := e) (by omega) a4
  obtain ⟨P1, hP1⟩ : ∃ P, P = bs a := ⟨_, rfl⟩
  obtain ⟨P2, hP2⟩ : ∃ P, P = bs b := ⟨_, rfl⟩
  obtain ⟨P3, hP3⟩ : ∃ P, P = bs d := ⟨_, rfl⟩
  obtain ⟨P4, hP4⟩ : ∃ P, P = bs e := ⟨_, rfl⟩
  obtain ⟨PC, hPC⟩ : ∃ P, P = bs c := ⟨_, rfl⟩
  obtain ⟨PA, hPA⟩ : ∃ P, P = bs g := ⟨_, rfl⟩
  obtain ⟨TT, hTT⟩ : ∃ P, P = bs (J6 a b c d e g) := ⟨_, rfl⟩
  have htx : ∀ k n A, Reads k n A → unit_Check.f k n = some 0 → Tot (fun q => book_Text.f q v0 PC k n v3 v4 v5) := fun k n A hA hk => by rw [hPC]; exact text_tot ⟨p0, q0⟩ ⟨p3, q3⟩ ⟨p4, q4⟩ ⟨p5, q5⟩ hc hA hk
  rw [← hP1] at e1; rw [← hP2] at e2; rw [← hP3] at e3; rw [← hP4] at e4; rw [← hPA] at hr
  rw [← hP1, ← hP2, ← hP3, ← hP4, ← hPA, ← hPC, ← hTT] at hsp
  rw [← hTT]
  unfold book_Read.f
  rw [hsp]
  simp only [Option.bind_some]
  obtain ⟨L, hLL⟩ : ∃ L, L = [P1, P2, PC, P3, P4, PA] := ⟨_, rfl⟩
  have hL6 : (L.length : Int) = 6 := by rw [hLL]; rfl
  have a2' : rdOf ByteArray.empty L 2 = PC := by rw [hLL]; rfl
  have a5' : rdOf ByteArray.empty L 5 = PA := by rw [hLL]; rfl
  have a0' : rdOf ByteArray.empty L 0 = P1 := by rw [hLL]; rfl
  have a1' : rdOf ByteArray.empty L 1 = P2 := by rw [hLL]; rfl
  have a3' : rdOf ByteArray.empty L 3 = P3 := by rw [hLL]; rfl
  have a4' : rdOf ByteArray.empty L 4 = P4 := by rw [hLL]; rfl
  rw [← hLL]
  rw [a0', a1', a3', a4']
  have up : ∀ {α : Type} {c : Prop} [Decidable c] {f g : Nat → Option α}, c → Tot f → Tot (fun k => if c then f k else g k) := fun h hf => .ite (fun _ => hf) (fun n => absurd h n)
  have un : ∀ {α : Type} {c : Prop} [Decidable c] {f g : Nat → Option α}, ¬ c → Tot g → Tot (fun k => if c then f k else g k) := fun h hf => .ite (fun n => absurd n h) (fun _ => hf)
  refine un (by omega) (up (by omega) (up (by omega) (up (by omega) (up (by omega) (up (by omega) ?_)))))
  show Tot (fun k => book_Read.l0 k TT L [0, 0, 0, 0] [P1, P2, P3, P4] 4 0)
  have g0 : strconv_Atoi.f (rdOf ByteArray.empty [P1, P2, P3, P4] 0) = some (v5, none) := e1
  have g1 : strconv_Atoi.f (rdOf ByteArray.empty [P1, P2, P3, P4] 1) = some (v0, none) := e2
  have g2 : strconv_Atoi.f (rdOf ByteArray.empty [P1, P2, P3, P4] 2) = some (v3, none) := e3
  have g3 : strconv_Atoi.f (rdOf ByteArray.empty [P1, P2, P3, P4] 3) = some (v4, none) := e4
  have hn : (none : Option Int).isNone = true := rfl
  refine Tot.step (f := fun k => book_Read.l0 k TT L [v5, 0, 0, 0] [P1, P2, P3, P4] 4 1) (fun k => ?_) ?_
  · simp only [book_Read.l0]
    rw [if_pos (by omega), if_pos (by omega), if_pos (by simp), g0]
    simp only [Option.bind_some]
    rw [if_pos hn, if_pos (by simp), w64 (by omega) (by omega)]
    rfl
  refine Tot.step (f := fun k => book_Read.l0 k TT L [v5, v0, 0, 0] [P1, P2, P3, P4] 4 2) (fun k => ?_) ?_
  · simp only [book_Read.l0]
    rw [if_pos (by omega), if_pos (by omega), if_pos (by simp), g1]
    simp only [Option.bind_some]
    rw [if_pos hn, if_pos (by simp), w64 (by omega) (by omega)]
    rfl
  refine Tot.step (f := fun k => book_Read.l0 k TT L [v5, v0, v3, 0] [P1, P2, P3, P4] 4 3) (fun k => ?_) ?_
  · simp only [book_Read.l0]
    rw [if_pos (by omega), if_pos (by omega), if_pos (by simp), g2]
    simp only [Option.bind_some]
    rw [if_pos hn, if_pos (by simp), w64 (by omega) (by omega)]
    rfl
  refine Tot.step (f := fun k => book_Read.l0 k TT L [v5, v0, v3, v4] [P1, P2, P3, P4] 4 4) (fun k => ?_) ?_
  · simp only [book_Read.l0]
    rw [if_pos (by omega), if_pos (by omega), if_pos (by simp), g3]
    simp only [Option.bind_some]
    rw [if_pos hn, if_pos (by simp), w64 (by omega) (by omega)]
    rfl
  have r0 : rd [v5, v0, v3, v4] 0 = v5 := rfl
  have r1 : rd [v5, v0, v3, v4] 1 = v0 := rfl
  have r2 : rd [v5, v0, v3, v4] 2 = v3 := rfl
  have r3 : rd [v5, v0, v3, v4] 3 = v4 := rfl
  refine Tot.step (f := fun k => (unit_Read.f k PA).bind fun bt => if bt.2.2 = 0 then ((book_Text.f k v0 PC bt.1 bt.2.1 v3 v4 v5).bind fun bt' => (if bt'.2 = 0 then (if bt'.1.toList = TT.toList then (some (v0, PC, bt.1, bt.2.1, v3, v4, v5, 0)) else (some (0, (⟨#[]⟩ : ByteArray), 0, 0, 0, 0, 0, 14))) else (some (0, (⟨#[]⟩ : ByteArray), 0, 0, 0, 0, 0, 14)))) else (some (0, (⟨#[]⟩ : ByteArray), 0, 0, 0, 0, 0, 14))) (fun k => ?_) ?_
  · simp only [book_Read.l0]
    rw [if_neg (by omega), if_pos (by omega), a5']
    congr 1
    funext bt
    rw [if_pos (by simp), if_pos (by simp), if_pos (by omega), if_pos (by simp), if_pos (by simp), r0, r1, r2, r3, a2']
  refine Tot.bind hr (Tot.ite (fun h => ?_) (fun _ => .now _))
  obtain ⟨⟨A, hA⟩, hk⟩ := hok h
  obtain ⟨tx, htx'⟩ := htx _ _ A hA hk
  exact Tot.bind htx' (.ite (fun _ => .ite (fun _ => .now _) (fun _ => .now _)) (fun _ => .now _))
theorem read_few {L : List UInt8} (hl : L.length ≤ 1000) (h : L.count 32 ≤ 4) : Tot (fun k => book_Read.f k (bs L)) := by
  unfold book_Read.f
  have hs := splitB_count 32 (min (6 : Int).toNat (L.length + 1) - 1) L
  have hsp : strings_SplitN.f (bs L) (⟨#[32]⟩ : ByteArray) 6 = some (Go.Lib.splitB (bs [32]) 0 (min (6 : Int).toNat (L.length + 1) - 1) (bs L)) := by
    unfold strings_SplitN.f
    rw [if_pos ⟨by rw [bs_size]; omega, by decide, by omega, by omega⟩, bs_size]; rfl
  rw [hsp]
  simp only [Option.bind_some]
  exact ⟨_, Ev.ifp (by omega) (Ev.now _)⟩
theorem forged_tot {f : S48} (h : Good f) {A : List UInt8} (hA : ValText A) {p : Nat} (hp : p < (btext f A).length) : Tot (fun k => book_Read.f k (bs (xset (btext f A) p))) := by
  have := h.from0; have := h.from1; have := h.to0; have := h.to1; have := h.known0; have := h.known1; have hw := h.who
  have d5 := fld_dec (n := f.f5) (by omega) (by omega); have d0 := fld_dec (n := f.f0) (by omega) (by omega); have d3 := fld_dec (n := f.f3) (by omega) (by omega); have d4 := fld_dec (n := f.f4) (by omega) (by omega)
  have n32 : ∀ {D : List UInt8}, Digs D → ∀ b ∈ D, b ≠ 32 := fun h => ne_of_digs h (by decide)
  have hA32 : ∀ b ∈ A, b ≠ 32 := by
    rcases hA with rfl | hA
    · decide
    · exact n32 hA.digs
  have hat : ∀ c', Seg f.f1.data.toList c' → c'.length ≤ 5 ∧ ∀ b ∈ c', b ≠ 32 := fun c' hs => by
    refine ⟨by rw [hs.len, attr_len h.attr]; decide, ?_⟩
    rcases hs with rfl | ⟨q, hq, rfl⟩
    · exact attr_ne h.attr
    · rw [attr_len h.attr] at hq
      obtain rfl : q = 0 := by omega
      rcases h.attr with e | e <;> rw [e] <;> decide
  have lA := hA.len
  have hbt : btext f A = J6 (dec f.f5) (dec f.f0) f.f1.data.toList (dec f.f3) (dec f.f4) A := rfl
  have hlen : (btext f A).length ≤ 1000 := by
    have l1 := d5.len; have l2 := d0.len; have l3 := d3.len; have l4 := d4.len; have l5 := attr_len h.attr
    rw [hbt]; unfold J6; simp only [List.length_append, List.length_cons]; omega
  rw [hbt] at hp ⊢
  rcases forged_shape (n32 d5.digs) (n32 d0.digs) (attr_ne h.attr) (n32 d3.digs) (n32 d4.digs) hA32 hp with ⟨a', b', c', d', e', g', sa, sb, sc, sd, se, sg, e⟩ | hc
  · rw [e]
    exact read_tot (d5.seg sa) (d0.seg sb) (hat c' sc).1 (hat c' sc).2 (d3.seg sd) (d4.seg se) (hA.ur sg) (by rw [sg.len]; omega)
  · exact read_few (by rw [xset_len, ← hbt]; exact hlen) hc
/-! #### what a forged journal tells -/
def Bad (s x : Int) (t : ByteArray) (d : Int) : Prop := ∃ r, Ev (fun k => book_Read.f k t) r ∧ (r.2.2.2.2.2.2.2 = 0 → r.2.2.2.2.2.2.1 < x ∨ ∃ d0, book_Digest.f s t = some d0 ∧ d0 ≠ d)
inductive ChainBad : Int → Int → List S33 → Prop
  | bad (s x : Int) (t : ByteArray) (d : Int) (es : List S33) : Bad s x t d → ChainBad s x (⟨t, d⟩ :: es)
  | cons (s x : Int) (f : S48) (t : ByteArray) (d : Int) (es : List S33) : x ≤ f.f5 → TextOf f t → book_Digest.f s t = some d → ChainBad d f.f5 es → ChainBad s x (⟨t, d⟩ :: es)
theorem check_bad_l0 (l : List S33) (hl : l.length ≤ 500) (n : Nat) : ∀ (i : Nat) (s x : Int), l.length - i = n → ChainBad s x (l.drop i) → ∃ j e, e ≠ 0 ∧ Ev (fun k => book_Check.l0 k s x l (l.length : Int) (i : Int)) (j, e) := by
  induction n with
  | zero =>
    intro i s x hn h
    rw [List.drop_eq_nil_of_le (by omega)] at h
    cases h
  | succ n ih =>
    intro i s x hn h
    have hlt : i < l.length := by omega
    obtain ⟨e, he0⟩ : ∃ e, e = rd_T33 l (i : Int) := ⟨_, rfl⟩
    rw [drop_ent l i hlt, ← he0] at h
    have st : ∀ (t : ByteArray) (d : Int), (⟨t, d⟩ : S33) = rd_T33 l (i : Int) → ∀ r, Ev (fun k => (book_Read.f k t).bind fun bt => (if bt.2.2.2.2.2.2.2 = 0 then (if bt.2.2.2.2.2.2.1 < x then (some ((i : Int), 9)) else ((book_Digest.f s t).bind fun t251 => (if t251 = d then (book_Check.l0 k d bt.2.2.2.2.2.2.1 l (l.length : Int) ((i + 1 : Nat) : Int)) else (some ((i : Int), 12))))) else (some ((i : Int), bt.2.2.2.2.2.2.2)))) r → Ev (fun k => book_Check.l0 k s x l (l.length : Int) (i : Int)) r := fun t d hd r hr => by
      refine Ev.step (fun k => ?_) hr
      simp only [book_Check.l0]
      rw [if_pos (by omega), if_pos (by omega), if_pos (by omega), ← hd, w64_succ hlt (by omega)]
    cases h with
    | bad _ _ t d es hb =>
      obtain ⟨r, hr, hbad⟩ := hb
      by_cases h0 : r.2.2.2.2.2.2.2 = 0
      · by_cases h1 : r.2.2.2.2.2.2.1 < x
        · exact ⟨_, 9, by decide, st t d he0 _ (Ev.bind hr (Ev.ifp h0 (Ev.ifp h1 (Ev.now _))))⟩
        · rcases hbad h0 with h2 | ⟨d0, h2, h3⟩
          · exact absurd h2 h1
          · refine ⟨(i : Int), 12, by decide, st t d he0 _ (Ev.bind hr (Ev.ifp h0 (Ev.ifn h1 ?_)))⟩
            rw [h2]; simp only [Option.bind_some]; exact Ev.ifn h3 (Ev.now _)
      · exact ⟨_, _, h0, st t d he0 _ (Ev.bind hr (Ev.ifn h0 (Ev.now _)))⟩
    | cons _ _ f t d es h1 h2 h3 h4 =>
      obtain ⟨j, e', he', hev⟩ := ih (i + 1) d f.f5 (by omega) h4
      refine ⟨j, e', he', st t d he0 _ (Ev.bind h2.read (Ev.ifp rfl (Ev.ifn (by show ¬ f.f5 < x; omega) ?_)))⟩
      rw [h3]; simp only [Option.bind_some]; exact Ev.ifp trivial hev
theorem check_bad {l : List S33} (hl : l.length ≤ 500) (h : ChainBad 0 0 l) : ∃ j e, e ≠ 0 ∧ Ev (fun k => book_Check.f k l) (j, e) := by
  obtain ⟨j, e, he, hev⟩ := check_bad_l0 l hl _ 0 0 0 rfl (by simpa using h)
  refine ⟨j, e, he, ?_⟩
  simp only [book_Check.f]
  exact Ev.ifn (by omega) hev
theorem dig_u {s : Int} {t : ByteArray} {d : Int} (h : book_Digest.f s t = some d) : U64 d := by
  unfold book_Digest.f at h
  split at h
  · obtain rfl := Option.some.inj h; exact dgOne_u _ _
  · cases h
theorem Chain.entry {s x s' x' : Int} {fs : List S48} {es : List S33} (h : Chain s x fs es s' x') : U64 s → ∀ n, n < es.length → ∃ (s1 x1 : Int) (f : S48) (t : ByteArray) (d : Int), U64 s1 ∧ Good f ∧ x1 ≤ f.f5 ∧ TextOf f t ∧ book_Digest.f s1 t = some d ∧ es[n]? = some ⟨t, d⟩ ∧ (∀ E, ChainBad s1 x1 E → ChainBad s x (es.take n ++ E)) ∧ (n = 0 → s1 = s) ∧ (∀ m, n = m + 1 → ∃ t0, es[m]? = some ⟨t0, s1⟩) := by
  induction h with
  | nil s x => intro _ n hn; exact absurd hn (by simp)
  | cons s x f t d fs es s' x' h1 h2 h3 h4 _ ih =>
    intro hs n hn
    cases n with
    | zero => exact ⟨s, x, f, t, d, hs, h1, h2, h3, h4, rfl, fun E h => h, fun _ => rfl, fun m hm => absurd hm (by omega)⟩
    | succ n =>
      obtain ⟨s1, x1, f', t', d', g0, g1, g2, g3, g4, g5, g6, g7, g8⟩ := ih (dig_u h4) n (by simpa using hn)
      refine ⟨s1, x1, f', t', d', g0, g1, g2, g3, g4, by simpa using g5, fun E hE => .cons _ _ f t d _ h2 h3 h4 (g6 E hE), fun h => absurd h (by omega), fun m hm => ?_⟩
      obtain rfl : m = n := by omega
      cases m with
      | zero => exact ⟨t, by rw [g7 rfl]; rfl⟩
      | succ m =>
        obtain ⟨t0, h0⟩ := g8 m rfl
        exact ⟨t0, by simpa using h0⟩
theorem set_split {α : Type} (l : List α) (n : Nat) (a : α) (h : n < l.length) : l.set n a = l.take n ++ a :: l.drop (n + 1) := by
  rw [List.set_eq_take_append_cons_drop, if_pos h]
theorem rd_at {l : List S33} {n : Nat} {e : S33} (h : l[n]? = some e) : rd_T33 l (n : Int) = e := by
  unfold rd_T33
  simp [List.getD, h]
theorem u8_back (b : UInt8) : UInt8.ofNat ((b.toNat : Int)).toNat = b := by rw [Int.toNat_natCast]; exact UInt8.ofNat_toNat
theorem u8_xor (b : UInt8) : UInt8.ofNat (bits .xor .u8 (b.toNat : Int) 1).toNat = b ^^^ 1 := by
  have h : ∀ n : Fin 256, UInt8.ofNat (bits .xor .u8 (n.val : Int) 1).toNat = UInt8.ofNat n.val ^^^ 1 := by decide +kernel
  have := h ⟨b.toNat, b.toNat_lt⟩
  rw [this]; congr 1; exact UInt8.ofNat_toNat
theorem str_forged (A : List UInt8) (p : Nat) : strOfNums ((bytesOf (bs A)).set p (bits .xor .u8 (rd (bytesOf (bs A)) (p : Int)) 1)) = bs (xset A p) := by
  rw [bytes_rd _ _ (by omega), Int.toNat_natCast]
  unfold strOfNums bs bytesOf xset
  congr 2
  rw [List.map_set, u8_xor]
  congr 1
  show (A.map fun b => (b.toNat : Int)).map (fun n => UInt8.ofNat n.toNat) = A
  rw [List.map_map]
  exact (List.map_congr_left fun b _ => u8_back b).trans (List.map_id _)
theorem bad_fin {L : List S33} (hl : L.length ≤ 500) (h : ChainBad 0 0 L) : Ev (fun k => (book_Check.f k L).bind fun bt => some (bt.2 != 0)) true := by
  obtain ⟨j, e, he, hev⟩ := check_bad hl h
  exact Ev.bind hev (Ev.to (by simpa using he))
theorem clone_of (L : List S33) (h : L.length ≤ 500) : book_Clone.f L = some L := by
  unfold book_Clone.f
  simp only [Option.bind_some]
  rw [if_pos (by simp; omega)]; rfl
theorem Ev.succ {α : Type} {f : Nat → Option α} {r : α} (h : Ev (fun k => f (k + 1)) r) : Ev f r := Ev.step (f := fun k => f (k + 1)) (fun _ => rfl) h
theorem short_of {l : List S33} {s' x' : Int} {fs : List S48} (hl : l.length ≤ 500) (h : Chain 0 0 fs l s' x') (m : Int) (n : Nat) (hm : (n : Int) < m) (hn : n ≤ l.length) (d : Int) : Ev (fun k => book_Extends.f k (l.take n) m d) (false, 0) := by
  obtain ⟨s'', x'', ht⟩ := h.take n
  have hlt : (l.take n).length = n := by rw [List.length_take]; omega
  simp only [book_Extends.f]
  exact Ev.bind (bcheck_of (by omega) ht) (Ev.ifp rfl (Ev.ifn (by omega) (Ev.ifn (by omega) (Ev.ifn (by omega) (Ev.now _)))))
theorem BookForged : mootkeep1_BookForged.Pure := by
  intro l a1 a2 a3
  intros
  obtain ⟨E, G, s, x, hC, hl, hj⟩ := journal_of l books_of
  have hEl := hC.len
  have hE : E.length ≤ 11 := by omega
  refine Ev.rounds (g := fun k => mootkeep1_BookForged.f k l a1 a2 a3) ?_
  simp only [mootkeep1_BookForged.f]
  refine Ev.bind hj (Ev.ifp rfl (Ev.bind (head_of (l := E) (by omega) hC) (Ev.ifp rfl ?_)))
  refine Ev.succ ?_
  simp only [mootkeep1_BookForged.j0]
  by_cases h0 : E.length = 0
  · exact Ev.ifp (by simp [h0]) (Ev.ifp trivial (Ev.to (by simp [h0])))
  have hb0 : ((E.length : Int) == 0) = false := beq_eq_false_iff_ne.2 (by omega)
  refine Ev.ifn (by rw [hb0]; decide) ?_
  rw [clone_of E (by omega)]
  simp only [Option.bind_some]
  have hb := below_range a1 (E.length : Int) (by omega)
  obtain ⟨n, hn⟩ : ∃ n : Nat, (n : Int) = a1 % (E.length : Int) := ⟨(a1 % (E.length : Int)).toNat, by omega⟩
  have h4 := below_range a3 4 (by omega)
  rw [below_of _ _ (by omega) (by omega), ← hn]
  simp only [Option.bind_some]
  rw [below_of _ _ (by omega) (by omega)]
  simp only [Option.bind_some]
  have hnl : n < E.length := by omega
  obtain ⟨s1, x1, f, t, d, g0, g1, g2, g3, g4, g5, g6, g7, g8⟩ := hC.entry (by unfold U64; omega) n hnl
  have hrd := rd_at g5
  obtain ⟨A, hA, rfl⟩ := g3.shape
  have hTl : (btext f A).length ≤ 300 := by have := g3.len; rwa [bs_size] at this
  have hTp : 5 ≤ (btext f A).length := by unfold btext; simp only [List.length_append, List.length_cons]; omega
  have hbl : (bytesOf (bs (btext f A))).length = (btext f A).length := by rw [bytesOf_length, bs_size]
  by_cases c0 : a3 % 4 = 0
  · refine Ev.ifp c0 (Ev.ifp (by omega) (Ev.ifp (by omega) ?_))
    rw [hrd]
    refine Ev.ifp (by show ([] : List Int).length + (bs (btext f A)).size < _; rw [bs_size]; simp only [List.length_nil]; omega) ?_
    simp only [Option.bind_some, List.nil_append]
    refine Ev.ifn (by omega) ?_
    have hp := below_range a2 ((bytesOf (bs (btext f A))).length : Int) (by omega)
    obtain ⟨p, hpn⟩ : ∃ p : Nat, (p : Int) = a2 % ((bytesOf (bs (btext f A))).length : Int) := ⟨(a2 % ((bytesOf (bs (btext f A))).length : Int)).toNat, by omega⟩
    rw [below_of _ _ (by omega) (by omega), ← hpn]
    simp only [Option.bind_some]
    refine Ev.ifp (by omega) (Ev.ifp (by omega) ?_)
    rw [Int.toNat_natCast, Int.toNat_natCast, str_forged, set_split _ _ _ hnl]
    refine bad_fin (by simp; omega) (g6 _ (.bad _ _ _ _ _ ?_))
    obtain ⟨r, hr⟩ := forged_tot g1 hA (p := p) (by omega)
    obtain ⟨d', hd'⟩ := dig_of s1 (t := bs (xset (btext f A) p)) (by rw [bs_size, xset_len]; exact hTl)
    exact ⟨r, hr, fun _ => .inr ⟨d', hd', (dig_forged hTl (by omega) g4 hd' g0).symm⟩⟩
  refine Ev.ifn c0 ?_
  by_cases c1 : a3 % 4 = 1
  · refine Ev.ifp c1 (Ev.ifp (by omega) (Ev.ifp (by omega) ?_))
    have hp := below_range a2 1000 (by omega)
    rw [below_of _ _ (by omega) (by omega), hrd]
    simp only [Option.bind_some]
    rw [Int.toNat_natCast, set_split _ _ _ hnl]
    refine bad_fin (by simp; omega) (g6 _ (.bad _ _ _ _ _ ?_))
    refine ⟨_, g3.read, fun _ => .inr ⟨d, g4, ?_⟩⟩
    have hw : ∀ x : Int, IntKind.u64.wrap x = x % 18446744073709551616 := fun x => by simp [IntKind.wrap, IntKind.signed, IntKind.bits]
    have hu := dig_u g4
    unfold U64 at hu
    rw [hw, hw, hw]
    omega
  refine Ev.ifn c1 ?_
  by_cases c2 : a3 % 4 = 2
  · refine Ev.ifp c2 ?_
    have hj1 : ∀ b, (b = false → 0 < n) → Ev (fun k => mootkeep1_BookForged.j1 k (n : Int) E b) true := fun b hb0 => by
      refine Ev.succ ?_
      simp only [mootkeep1_BookForged.j1]
      cases b with
      | true => exact Ev.ifp rfl (Ev.now _)
      | false =>
        refine Ev.ifn (by decide) ?_
        obtain ⟨m, rfl⟩ : ∃ m, n = m + 1 := ⟨n - 1, by have := hb0 rfl; omega⟩
        obtain ⟨s2, x2, f2, t2, d2, q0, q1, q2, q3, q4, q5, q6, q7, q8⟩ := hC.entry (by unfold U64; omega) m (by omega)
        have hrd2 := rd_at q5
        have hm : ((m + 1 : Nat) : Int) - 1 = (m : Int) := by omega
        have hj2 : Ev (fun k => mootkeep1_BookForged.j2 k ((m + 1 : Nat) : Int) E s2) true := by
          refine Ev.succ ?_
          simp only [mootkeep1_BookForged.j2]
          refine Ev.ifp (by omega) (Ev.ifp (by omega) ?_)
          rw [hrd]
          obtain ⟨d0, hd0⟩ := dig_of s2 (t := bs (btext f A)) g3.len
          rw [hd0]
          simp only [Option.bind_some]
          rw [w64 (by omega) (by omega), hm, hrd2]
          refine Ev.ifp (by omega) (Ev.ifp (by omega) ?_)
          by_cases e : d0 = d2
          · exact Ev.ifp e (Ev.now _)
          refine Ev.ifn e ?_
          rw [Int.toNat_natCast, Int.toNat_natCast]
          have hr : rd_T33 (E.set (m + 1) ⟨t2, d⟩) (m : Int) = ⟨t2, d2⟩ := by
            refine rd_at ?_
            rw [List.getElem?_set_ne (by omega)]; exact q5
          rw [hr, set_split _ m _ (by simp; omega), List.take_set_of_le (by omega)]
          exact bad_fin (by simp; omega) (q6 _ (.bad _ _ _ _ _ ⟨_, g3.read, fun _ => .inr ⟨d0, hd0, e⟩⟩))
        by_cases hm1 : m = 0
        · subst hm1
          obtain rfl := q7 rfl
          exact Ev.ifn (by omega) hj2
        · obtain ⟨j, rfl⟩ : ∃ j, m = j + 1 := ⟨m - 1, by omega⟩
          obtain ⟨t0, h3⟩ := q8 j rfl
          refine Ev.ifp (by omega) ?_
          rw [w64 (by omega) (by omega), show ((j + 1 + 1 : Nat) : Int) - 2 = (j : Int) from by omega, rd_at h3]
          exact Ev.ifp (by omega) (Ev.ifp (by omega) hj2)
    by_cases hn0 : (n : Int) = 0
    · exact Ev.ifp hn0 (hj1 true (fun h => absurd h (by decide)))
    · refine Ev.ifn hn0 (Ev.ifp (by omega) (Ev.ifp (by omega) ?_))
      rw [w64 (by omega) (by omega)]
      exact Ev.ifp (by omega) (Ev.ifp (by omega) (hj1 _ (fun _ => by omega)))
  · refine Ev.ifn c2 (Ev.ifp (by omega) (Ev.ifp (by omega) ?_))
    rw [Int.toNat_natCast]
    exact Ev.bind (short_of (by omega) hC _ n (by omega) (by omega) _) (Ev.ifp rfl (Ev.to rfl))
end Go.Proofs.YtkjneemcledfjaaGreatDoor.Pure
