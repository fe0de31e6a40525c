/-
The facts of a case, entered in a journal as they became known, are the same facts for any day and any day of knowledge when the journal is replayed, for every two lists and every two numbers.
-/
import Derived.Test.YtkjneemcledfjaaGreatDoorPBookCasesx19
import Derived.Test.YtkjneemcledfjaaGreatDoorStrA
set_option linter.unusedVariables false
set_option linter.unusedVariables false
set_option linter.unusedSimpArgs false
set_option maxHeartbeats 8000000
set_option maxRecDepth 100000
namespace Go.Proofs.YtkjneemcledfjaaGreatDoor.Pure
open Go.RowKit Go.Proofs.YtkjneemcledfjaaGreatDoor.PBookCases Go.Proofs.YtkjneemcledfjaaGreatDoorW.PrintWords Go.Proofs.YtkjneemcledfjaaGreatDoorW.PrintLast
theorem w64 {x : Int} (h1 : -9223372036854775808 ≤ x) (h2 : x ≤ 9223372036854775807) : wrap64 x = x := by unfold wrap64; omega
theorem tdivnn {a b : Int} (h : 0 ≤ a) : Int.tdiv a b = a / b := Int.tdiv_eq_ediv_of_nonneg h
theorem tmodnn {a b : Int} (h : 0 ≤ a) : Int.tmod a b = a % b := Int.tmod_eq_emod_of_nonneg h
theorem Ev.ifp {α : Type} {c : Prop} [Decidable c] {a b : Nat → Option α} {r : α} (h : c) (k : Ev a r) : Ev (fun n => if c then a n else b n) r := Ev.congr (fun n => by rw [if_pos h]) k
theorem Ev.ifn {α : Type} {c : Prop} [Decidable c] {a b : Nat → Option α} {r : α} (h : ¬ c) (k : Ev b r) : Ev (fun n => if c then a n else b n) r := Ev.congr (fun n => by rw [if_neg h]) k
theorem Ev.to {α : Type} {a b : α} (h : a = b) : Ev (fun _ => some a) b := h ▸ Ev.now a
theorem below_of (x n : Int) (h0 : 0 < n) (h1 : n ≤ 4611686018427387904) : mootmake_Below.f x n = some (x % n) := by
 have hr := Int.emod_nonneg x (show n ≠ 0 by omega); have hl := Int.emod_lt_of_pos x h0; unfold mootmake_Below.f; rw [if_neg (by omega), Int.tmod_eq_emod]; by_cases h : 0 ≤ x ∨ n ∣ x
 ·rw [if_pos h, show x % n - ((0 : Nat) : Int) = x % n from by omega, if_neg (by omega)]
 ·have h3 : x % n ≠ 0 := fun e => h (.inr (Int.dvd_of_emod_eq_zero e)); rw [if_neg h, if_pos (by omega), w64 (by omega) (by omega)]; congr 1; omega
theorem below_range (x n : Int) (h0 : 0 < n) : 0 ≤ x % n ∧ x % n < n := ⟨Int.emod_nonneg x (by omega), Int.emod_lt_of_pos x h0⟩
theorem drop_rd (l : List Int) (i : Nat) (h : i < l.length) : l.drop i = rd l (i : Int) :: l.drop (i + 1) := by
 rw [List.drop_eq_getElem_cons h]; unfold rd; simp [List.getD, h]
theorem w64_succ {i n : Nat} (h : i < n) (hn : n ≤ 9223372036854775807) : wrap64 ((i : Int) + 1) = ((i + 1 : Nat) : Int) := by
 rw [w64 (by omega) (by omega)]; omega
theorem le_ev {α : Type} {f : Nat → Option α} (hm : ∀ k, LeO (f k) (f (k + 1))) {r : α} (K : Nat) (h : f K = some r) : Ev f r := by
 refine ⟨K, fun k hk => ?_⟩; obtain ⟨n, rfl⟩ : ∃ n, k = K + n := ⟨k - K, by omega⟩; induction n with
 | zero => exact h
 | succ n ih => exact hm (K + n) r (ih (by omega))
def uLo (c : Int) : Int := if c = 2 then -1099511627776 else if c = 3 then -1048576 else if c = 4 then 0 else if c = 5 then -1048576 else -1000000000
def uHi (c : Int) : Int := if c = 2 then 1099511627776 else if c = 3 then 1048576 else if c = 4 then 1048575 else if c = 5 then 1048576 else 1000000000
theorem range_of {c : Int} (h0 : 2 ≤ c) (h1 : c ≤ 6) : unit_Range.f c = some (uLo c, uHi c) ∧ uLo c ≤ 0 ∧ 0 ≤ uHi c ∧ -1099511627776 ≤ uLo c ∧ uHi c ≤ 1099511627776 := by
 have : c = 2 ∨ c = 3 ∨ c = 4 ∨ c = 5 ∨ c = 6 := by omega
 rcases this with rfl | rfl | rfl | rfl | rfl <;> exact ⟨rfl, by decide, by decide, by decide, by decide⟩
theorem fit_of {c : Int} (h0 : 2 ≤ c) (h1 : c ≤ 6) (x : Int) : unit_Fit.f c x = some (c, mx (uLo c) (mn x (uHi c))) := by
 unfold unit_Fit.f unit_known.f; rw [if_pos (by omega)]; simp only [Option.bind_some]; rw [if_pos (decide_eq_true (by omega)), (range_of h0 h1).1]; rfl
theorem fit_in {c : Int} (h0 : 2 ≤ c) (h1 : c ≤ 6) {x : Int} (hl : uLo c ≤ x) (hh : x ≤ uHi c) : unit_Fit.f c x = some (c, x) := by
 rw [fit_of h0 h1]; congr 2; unfold mx mn; repeat' split <;> omega
open Go.Proofs.YtkjneemcledfjaaGreatDoor.StrLaw
theorem lit46 : (⟨#[46]⟩ : ByteArray) = bs [46] := rfl
theorem lit45 : (⟨#[45]⟩ : ByteArray) = bs [45] := rfl
theorem lit37 : (⟨#[37]⟩ : ByteArray) = bs [37] := rfl
theorem litD : (⟨#[32, 100, 97, 121, 115]⟩ : ByteArray) = bs [32, 100, 97, 121, 115] := rfl
theorem rep0 {m : Int} (h0 : 0 ≤ m) (h1 : m ≤ 1000) : strings_Repeat.f (⟨#[48]⟩ : ByteArray) m = some (bs (List.replicate m.toNat 48)) := by
 unfold strings_Repeat.f; rw [if_pos ⟨h0, h1, by decide⟩]; congr 1; show bs (Go.Lib.repeatL [48] m.toNat) = _; rw [show ([48] : List UInt8) = List.replicate 1 48 from rfl, Go.Lib.repeatL_replicate, Nat.mul_one]
theorem itoa_of {n : Int} (h0 : -9223372036854775808 ≤ n) (h1 : n ≤ 9223372036854775807) : strconv_Itoa.f n = some (bs (sgn n ++ Go.Lib.decDigits n.natAbs)) := by
 unfold strconv_Itoa.f; rw [if_pos ⟨h0, h1⟩, itoa_sgn]; rfl
theorem dlen {n : Nat} (h : n < 10000000000000000) : (Go.Lib.decDigits n).length ≤ 16 := dec_len_le (k := 15) (by omega)
theorem pad_of {n d : Int} (h0 : 0 ≤ n) (h1 : n < 10000000000000000) (d0 : 0 ≤ d) (d1 : d ≤ 20) : unit_pad.f n d = some (bs (padL n.toNat d.toNat)) := by
 unfold unit_pad.f; have hl := dlen (n := n.toNat) (by omega); have hl1 := dec_len_pos n.toNat; rw [itoa_of (by omega) (by omega), show sgn n = [] from by unfold sgn; rw [if_neg (by omega)], List.nil_append, show n.natAbs = n.toNat from by omega]; simp only [Option.bind_some, bs_size]; rw [w64 (by omega) (by omega), rep0 (by unfold mx; split <;> omega) (by unfold mx; split <;> omega)]; simp only [Option.bind_some, bs_size, bs_append]; rw [if_pos (by simp; unfold mx; split <;> omega)]; unfold padL; congr 4; unfold mx; split <;> omega
theorem fin_of (S W T : List UInt8) (h : S.length + W.length + T.length ≤ 1000) :
  (if (bs T).toList = ([] : List UInt8) then (if (bs S).size + (bs W).size ≤ 9223372036854775807 then (if (bs S ++ bs W).size + (bs T).size ≤ 9223372036854775807 then (some ((bs S ++ bs W) ++ bs T)) else (none)) else (none)) else (if 1 + (bs T).size ≤ 9223372036854775807 then (if (bs S).size + (bs W).size ≤ 9223372036854775807 then (if (bs S ++ bs W).size + ((⟨#[46]⟩ : ByteArray) ++ bs T).size ≤ 9223372036854775807 then (some ((bs S ++ bs W) ++ ((⟨#[46]⟩ : ByteArray) ++ bs T))) else (none)) else (none)) else (none))) = some (bs (S ++ W ++ (if T = [] then [] else 46 :: T))) := by
 rw [lit46]; simp only [bs_append, bs_size, bs_toList]; by_cases hT : T = []
 ·rw [if_pos hT, if_pos (by omega), if_pos (by simp only [List.length_append]; omega), if_pos hT, hT]
 ·rw [if_neg hT, if_pos (by omega), if_pos (by omega), if_pos (by simp only [List.length_append, List.length_singleton]; omega), if_neg hT]; rfl
theorem strip {m : Int} (S W : List UInt8) (hS : S.length + W.length ≤ 100) (hm : 0 ≤ m) : ∀ (n : Nat) (T : List UInt8), T.length = n → n ≤ 100 → m ≤ T.length → ∃ T' j, T = T' ++ List.replicate j 48 ∧ m ≤ T'.length ∧ Ev (fun k => unit_point.l0 k m (bs S) (bs W) (bs T)) (bs (S ++ W ++ (if T' = [] then [] else 46 :: T'))) := by
 intro n; induction n with
 | zero =>
  intro T hn h1 h2; refine ⟨T, 0, by simp, h2, Ev.step (f := fun _ => some _) (fun k => ?_) (Ev.now _)⟩; simp only [unit_point.l0]; rw [if_neg (by rw [bs_size]; omega), fin_of S W T (by omega)]
 | succ n ih =>
  intro T hn h1 h2; by_cases hlt : m < T.length
  ·obtain ⟨A, c, rfl⟩ : ∃ A c, T = A ++ [c] := by
    rcases List.eq_nil_or_concat T with h | ⟨A, c, h⟩
    ·rw [h] at hn; simp at hn
    ·exact ⟨A, c, by rw [h]; simp⟩
   have hAn : A.length = n := by simp at hn; omega
   have hTl : (A ++ [c]).length = A.length + 1 := by simp
   have hw : wrap64 (((bs (A ++ [c])).size : Int) - 1) = (A.length : Int) := by rw [bs_size, hTl, w64 (by omega) (by omega)]; omega
   have hb : bt (bs (A ++ [c])) (A.length : Int) = (c.toNat : Int) := by
    unfold bt; rw [dif_pos (by rw [bs_size, hTl]; simp)]; congr 2; show (A ++ [c]).toArray[(A.length : Int).toNat]'_ = c; simp
   by_cases hc : c = 48
   ·obtain ⟨T', j, e, hl, hev⟩ := ih A hAn (by omega) (by omega); refine ⟨T', j + 1, ?_, hl, Ev.step (fun k => ?_) hev⟩
    ·rw [e, hc, List.replicate_succ', List.append_assoc]
    ·simp only [unit_point.l0]; rw [hw, hb, if_pos (by rw [bs_size]; omega), if_pos (by omega), if_pos (by rw [bs_size, hTl]; omega), if_pos (by rw [hc]; rfl), if_pos (by rw [bs_size, hTl]; omega), bs_extract]; congr 2; simp
   ·refine ⟨A ++ [c], 0, by simp, h2, Ev.step (f := fun _ => some _) (fun k => ?_) (Ev.now _)⟩; simp only [unit_point.l0]; rw [hw, hb, if_pos (by rw [bs_size]; omega), if_pos (by omega), if_pos (by rw [bs_size, hTl]; omega), if_neg (fun e => hc (UInt8.toNat_inj.1 (by simpa using Int.ofNat.inj e))), fin_of S W _ (by omega)]
  ·refine ⟨T, 0, by simp, h2, Ev.step (f := fun _ => some _) (fun k => ?_) (Ev.now _)⟩; simp only [unit_point.l0]; rw [if_neg (by rw [bs_size]; omega), fin_of S W T (by omega)]
theorem point_of {n p m : Int} (hn : n.natAbs ≤ 1100000000000) (hp0 : 1 ≤ p) (hp1 : p ≤ 10) (hm0 : 0 ≤ m) (hm1 : m ≤ p) : ∃ W T T' : List UInt8, ∃ j : Nat, W ≠ [] ∧ W ++ T = padL n.natAbs (p + 1).toNat ∧ (T.length : Int) = p ∧ T = T' ++ List.replicate j 48 ∧ m ≤ T'.length ∧ W.length ≤ 16 ∧ Ev (fun k => unit_point.f k n p m) (bs (sgn n ++ W ++ (if T' = [] then [] else 46 :: T'))) := by
 obtain ⟨L, hL⟩ : ∃ L, L = padL n.natAbs (p + 1).toNat := ⟨_, rfl⟩; have hlen := padL_len n.natAbs (p + 1).toNat; have hd := dlen (n := n.natAbs) (by omega); rw [← hL] at hlen; have hT : (L.drop (L.length - p.toNat)).length = p.toNat := by rw [List.length_drop]; omega
 have hW : (L.take (L.length - p.toNat)).length = L.length - p.toNat := by rw [List.length_take]; omega
 obtain ⟨T', j, e, hl, hev⟩ := strip (m := m) (sgn n) (L.take (L.length - p.toNat)) (by have := sgn_len n; omega) hm0 _ (L.drop (L.length - p.toNat)) rfl (by omega) (by omega); refine ⟨L.take (L.length - p.toNat), L.drop (L.length - p.toNat), T', j, fun h => by rw [h] at hW; simp at hW; omega, by rw [List.take_append_drop, hL], by omega, e, hl, by omega, ?_⟩; have key : ∀ x : Int, x = (n.natAbs : Int) → Ev (fun k => unit_point.j0 k x p m (bs (sgn n))) (bs (sgn n ++ L.take (L.length - p.toNat) ++ (if T' = [] then [] else 46 :: T'))) := by
  intro x hx; refine Ev.step (fun k => ?_) hev; simp only [unit_point.j0]; rw [w64 (x := p + 1) (by omega) (by omega), pad_of (by omega) (by omega) (by omega) (by omega), show x.toNat = n.natAbs from by omega, ← hL]; simp only [Option.bind_some, bs_size]; rw [w64 (x := (L.length : Int) - p) (by omega) (by omega), if_pos (by omega), if_pos (by omega), bs_extract, bs_extract, show ((L.length : Int) - p).toNat = L.length - p.toNat from by omega]; simp
 unfold unit_point.f; by_cases h : n < 0
 ·refine Ev.ifp h ?_; have e : (⟨#[45]⟩ : ByteArray) = bs (sgn n) := by rw [show sgn n = [45] from by unfold sgn; rw [if_pos h]]; rfl
  rw [e]; exact key _ (by rw [w64 (by omega) (by omega)]; omega)
 ·refine Ev.ifn h ?_; have e : (⟨#[]⟩ : ByteArray) = bs (sgn n) := by rw [show sgn n = [] from by unfold sgn; rw [if_neg h]]; rfl
  rw [e]; exact key _ (by omega)
theorem hs_of (A s : List UInt8) (h : A.length ≤ 1000) (hs : s.length ≤ A.length) : strings_HasSuffix.f (bs A) (bs s) = some (A.drop (A.length - s.length) == s) := by
 unfold strings_HasSuffix.f stringslite_HasSuffix.f; simp only [bs_size]; rw [w64 (by omega) (by omega), if_pos (by omega), if_pos (by omega), if_pos (by omega), bs_extract, bs_toList, bs_toList, show ((A.length : Int) - (s.length : Int)).toNat = A.length - s.length from by omega]; simp
theorem hs_short (A s : List UInt8) (hs : A.length < s.length) : strings_HasSuffix.f (bs A) (bs s) = some false := by
 unfold strings_HasSuffix.f stringslite_HasSuffix.f; simp only [bs_size]; rw [if_neg (by omega)]; rfl
theorem hs_yes (A s : List UInt8) (h : (A ++ s).length ≤ 1000) : strings_HasSuffix.f (bs (A ++ s)) (bs s) = some true := by
 rw [hs_of _ _ h (by simp), suf_yes]
theorem hs_no {A s : List UInt8} {c d : UInt8} (hc : c ≠ d) (h : (A ++ [c]).length ≤ 1000) : strings_HasSuffix.f (bs (A ++ [c])) (bs (s ++ [d])) = some false := by
 by_cases hl : (s ++ [d]).length ≤ (A ++ [c]).length
 ·rw [hs_of _ _ h hl, suf_no hc hl]
 ·exact hs_short _ _ (by omega)
theorem ts_no {A s : List UInt8} (h : strings_HasSuffix.f (bs A) (bs s) = some false) : strings_TrimSuffix.f (bs A) (bs s) = some (bs A) := by
 unfold strings_TrimSuffix.f stringslite_TrimSuffix.f; unfold strings_HasSuffix.f at h; have h' : stringslite_HasSuffix.f (bs A) (bs s) = some false := by
  cases hh : stringslite_HasSuffix.f (bs A) (bs s) with
  | none => rw [hh] at h; cases h
  | some b => rw [hh] at h; simpa using h
 rw [h']; rfl
theorem ts_yes {A s : List UInt8} (h : (A ++ s).length ≤ 1000) : strings_TrimSuffix.f (bs (A ++ s)) (bs s) = some (bs A) := by
 have h0 := hs_yes A s h; unfold strings_TrimSuffix.f stringslite_TrimSuffix.f; unfold strings_HasSuffix.f at h0; have h' : stringslite_HasSuffix.f (bs (A ++ s)) (bs s) = some true := by
  cases hh : stringslite_HasSuffix.f (bs (A ++ s)) (bs s) with
  | none => rw [hh] at h0; cases h0
  | some b => rw [hh] at h0; simpa using h0
 have hl : (A ++ s).length = A.length + s.length := by simp
 rw [h']; simp only [Option.bind_some, if_true, bs_size]; rw [w64 (by omega) (by omega), if_pos (by omega), if_pos (by omega), bs_extract]; simp only [Option.bind_some]; congr 2; rw [show (((A ++ s).length : Int) - (s.length : Int)).toNat = A.length from by omega]; simp
theorem con_of (A : List UInt8) (c : UInt8) (h : A.length ≤ 1000) : strings_Contains.f (bs A) (bs [c]) = some (Go.Lib.contains A [c]) := by
 unfold strings_Contains.f; rw [if_pos (by rw [bs_size]; omega)]; rfl
theorem cnt_of (A : List UInt8) (c : UInt8) : strings_Count.f (bs A) (bs [c]) = some ((A.count c : Nat) : Int) := by
 unfold strings_Count.f; rw [if_pos (by rw [bs_size]; rfl)]; rfl
theorem cut_of (A : List UInt8) (c : UInt8) (h : A.length ≤ 1000) : strings_Cut.f (bs A) (bs [c]) = some (bs (Go.Lib.cut A [c]).1, bs (Go.Lib.cut A [c]).2.1, (Go.Lib.cut A [c]).2.2) := by
 unfold strings_Cut.f; rw [if_pos (by rw [bs_size]; omega)]; rfl
theorem atoi_of {A : List UInt8} {n : Int} (h : A.length ≤ 18) (e : Go.Lib.atoi A = some n) : strconv_Atoi.f (bs A) = some (n, none) := by
 unfold strconv_Atoi.f; rw [if_pos (by rw [bs_size]; omega), bs_data, e]; rfl
theorem last_of {A : List UInt8} (h : Digs A) (hn : A ≠ []) : ∃ B c, A = B ++ [c] ∧ dg1 c := by
 rcases List.eq_nil_or_concat A with e | ⟨B, c, e⟩
 ·exact absurd e hn
 ·exact ⟨B, c, by rw [e]; simp, h c (by rw [e]; simp)⟩
theorem dg1_ne {c d : UInt8} (h : dg1 c) (hd : ¬ dg1 d) : c ≠ d := fun e => hd (e ▸ h)
instance (c : UInt8) : Decidable (dg1 c) := inferInstanceAs (Decidable (48 ≤ c.toNat ∧ c.toNat ≤ 57))
def Numeral (A : List UInt8) : Prop := ∃ c r, A = c :: r ∧ (c = 45 ∨ dg1 c)
theorem numeral_of {n : Int} {W r : List UInt8} (hW : W ≠ []) (hd : Digs W) : Numeral (sgn n ++ W ++ r) := by
 unfold sgn; split
 ·exact ⟨45, W ++ r, by simp, Or.inl rfl⟩
 ·cases W with
  | nil => exact absurd rfl hW
  | cons c W => exact ⟨c, W ++ r, by simp, Or.inr (hd c (List.mem_cons_self ..))⟩
theorem Numeral.ne {A : List UInt8} (h : Numeral A) {d : UInt8} {r : List UInt8} (h1 : d ≠ 45) (h2 : ¬ dg1 d) : (bs A).toList ≠ d :: r := by
 obtain ⟨c, r', rfl, hc⟩ := h; rw [bs_toList]; intro e; injection e with e1 e2; rcases hc with rfl | hc
 ·exact h1 e1.symm
 ·exact h2 (e1 ▸ hc)
theorem form_num {A : List UInt8} (h : Numeral A) {r : Int} (hr : ((strings_HasSuffix.f (bs A) (⟨#[37]⟩ : ByteArray)).bind fun t144 => (if t144 = true then (some 6) else ((strings_HasSuffix.f (bs A) (⟨#[32, 100, 97, 121, 115]⟩ : ByteArray)).bind fun t145 => (if t145 = true then (some 3) else ((strings_Contains.f (bs A) (⟨#[46]⟩ : ByteArray)).bind fun t146 => (if t146 = true then (some 2) else ((strings_Count.f (bs A) (⟨#[45]⟩ : ByteArray)).bind fun t147 => (if t147 = 2 then (some 4) else (some (5 : Int)))))))))) = some r) : Ev (fun k => unit_form.f k (bs A)) r := by
 unfold unit_form.f; refine Ev.ifn (h.ne (by decide) (by decide)) (Ev.step (f := fun _ => some r) (fun k => ?_) (Ev.now _)); simp only [unit_form.j0]; rw [if_neg (by rw [beq_eq_false_iff_ne.2 (h.ne (by decide) (by decide))]; decide), if_neg (h.ne (by decide) (by decide))]; exact hr
def bg (y : Int) : Int := 365 * (y - 1) + (y - 1) / 4 - (y - 1) / 100 + (y - 1) / 400
def leap (y : Int) : Prop := y % 4 = 0 ∧ (y % 100 = 0 → y % 400 = 0)
instance (y : Int) : Decidable (leap y) := inferInstanceAs (Decidable (_ ∧ _))
def szs (y : Int) : List Int := if leap y then [31, 29, 31, 30, 31, 30, 31, 31, 30, 31, 30, 31] else [31, 28, 31, 30, 31, 30, 31, 31, 30, 31, 30, 31]
theorem bg_of {y : Int} (h0 : 1 ≤ y) (h1 : y ≤ 4000) : unit_begins.f y = some (bg y) := by
 unfold unit_begins.f bg; rw [w64 (x := y - 1) (by omega) (by omega), tdivnn (by omega), tdivnn (by omega), tdivnn (by omega)]; simp only [wrap64]; congr 1; omega
theorem szs_of {y : Int} (h0 : 1 ≤ y) (h1 : y ≤ 4000) : unit_sizes.f y = some (szs y) := by
 have hl : unit_leap.f y = some (decide (leap y)) := by
  unfold unit_leap.f; rw [tmodnn (by omega), tmodnn (by omega), tmodnn (by omega)]; by_cases a : y % 4 = 0
  ·rw [if_pos a]; by_cases b : y % 100 = 0
   ·rw [if_pos b]; by_cases c : y % 400 = 0
    ·rw [decide_eq_true (show leap y from ⟨a, fun _ => c⟩)]; simp [c]
    ·rw [decide_eq_false (show ¬ leap y from fun h => c (h.2 b))]; simp [c]
   ·rw [if_neg b, decide_eq_true (show leap y from ⟨a, fun h => absurd h b⟩)]
  ·rw [if_neg a, decide_eq_false (show ¬ leap y from fun h => a h.1)]
 unfold unit_sizes.f szs; rw [hl]; simp only [Option.bind_some, decide_eq_true_eq]; split
 ·rfl
 ·rfl
theorem szs_len (y : Int) : (szs y).length = 12 := by unfold szs; split <;> rfl
theorem szs_mem (y : Int) : ∀ x ∈ szs y, 28 ≤ x ∧ x ≤ 31 := by unfold szs; split <;> decide
theorem szs_sum {y : Int} (h0 : 1 ≤ y) : bg (y + 1) = bg y + (szs y).sum := by
 unfold szs bg; by_cases h : leap y
 ·rw [if_pos h]; obtain ⟨a, b⟩ := h; simp only [List.sum_cons, List.sum_nil]; omega
 ·rw [if_neg h]; unfold leap at h; simp only [List.sum_cons, List.sum_nil]; omega
def dtext (y m r : Int) : List UInt8 := padL y.toNat 4 ++ 45 :: (padL (m + 1).toNat 2 ++ 45 :: padL (r + 1).toNat 2)
theorem date_l1 {y : Int} (h0 : 1 ≤ y) (h1 : y ≤ 4000) (L : List Int) (hL : L.length = 12) (hm : ∀ x ∈ L, 28 ≤ x ∧ x ≤ 31) : ∀ (n i : Nat) (x4 : Int), i + n = 12 → 0 ≤ x4 → x4 ≤ 400 → x4 < (L.drop i).sum → ∃ (m : Nat) (r : Int), m < 12 ∧ 0 ≤ r ∧ r < 31 ∧ r + (L.take m).sum = x4 + (L.take i).sum ∧ Ev (fun k => unit_date.l1 k y x4 (i : Int) L) (bs (dtext y m r)) := by
 intro n; induction n with
 | zero =>
  intro i x4 hi a b c; rw [List.drop_eq_nil_of_le (by omega)] at c; simp at c; omega
 | succ n ih =>
  intro i x4 hi a b c; have hil : i < L.length := by omega
  have hr : 28 ≤ rd L (i : Int) ∧ rd L (i : Int) ≤ 31 := by
   have : rd L (i : Int) = L[i] := by unfold rd; simp [List.getD, hil]
   rw [this]; exact hm _ (List.getElem_mem hil)
  rw [drop_rd L i hil, List.sum_cons] at c; by_cases hx : rd L (i : Int) ≤ x4
  ·obtain ⟨m, r, m1, r0, r1, e, hev⟩ := ih (i + 1) (x4 - rd L (i : Int)) (by omega) (by omega) (by omega) (by omega); refine ⟨m, r, m1, r0, r1, ?_, Ev.step (fun k => ?_) hev⟩
   ·rw [e]; have ht : L.take (i + 1) = L.take i ++ [rd L (i : Int)] := by
     rw [List.take_add_one, List.getElem?_eq_getElem hil]; have : rd L (i : Int) = L[i] := by unfold rd; simp [List.getD, hil]
     rw [this]; rfl
    rw [ht, List.sum_append, List.sum_singleton]; omega
   ·simp only [unit_date.l1]; rw [if_pos (by omega), if_pos (by omega), if_pos hx, w64 (x := x4 - _) (by omega) (by omega), w64_succ hil (by omega)]
  ·refine ⟨i, x4, by omega, a, by omega, rfl, Ev.step (f := fun _ => some (bs (dtext y i x4))) (fun k => ?_) (Ev.now _)⟩; simp only [unit_date.l1]; have d1 := dlen (n := y.toNat) (by omega); have d2 := dlen (n := ((i : Int) + 1).toNat) (by omega); have d3 := dlen (n := (x4 + 1).toNat) (by omega); have p1 := padL_len y.toNat 4; have p2 := padL_len ((i : Int) + 1).toNat 2; have p3 := padL_len (x4 + 1).toNat 2; have q1 : unit_pad.f y 4 = some (bs (padL y.toNat 4)) := pad_of (by omega) (by omega) (by omega) (by omega); have q2 : unit_pad.f ((i : Int) + 1) 2 = some (bs (padL ((i : Int) + 1).toNat 2)) := pad_of (by omega) (by omega) (by omega) (by omega); have q3 : unit_pad.f (x4 + 1) 2 = some (bs (padL (x4 + 1).toNat 2)) := pad_of (by omega) (by omega) (by omega) (by omega); rw [if_pos (by omega), if_pos (by omega), if_neg hx, w64 (x := (i : Int) + 1) (by omega) (by omega), w64 (x := x4 + 1) (by omega) (by omega), q1, q2, q3, lit45]; simp only [Option.bind_some, bs_size, bs_append]; rw [if_pos (by omega), if_pos (by simp only [List.length_append, List.length_singleton]; omega), if_pos (by simp only [List.length_append, List.length_singleton]; omega), if_pos (by simp only [List.length_append, List.length_singleton]; omega)]; refine congrArg (fun l => some (bs l)) ?_; unfold dtext; simp only [List.append_assoc, List.cons_append, List.nil_append]
theorem bg_le {y : Int} (h0 : 1 ≤ y) (h1 : y ≤ 2875) : 365 * (y - 1) ≤ bg y := by unfold bg; omega
theorem date_l0 (d : Int) (h1 : d ≤ 1048575) : ∀ (n : Nat) (y : Int), 1 ≤ y → y + n = 2875 → bg y ≤ d → ∃ (Y : Int) (m : Nat) (r : Int), 1 ≤ Y ∧ Y ≤ 2880 ∧ m < 12 ∧ 0 ≤ r ∧ r < 31 ∧ bg Y + ((szs Y).take m).sum + r = d ∧ Ev (fun k => unit_date.l0 k d y) (bs (dtext Y m r)) := by
 intro n; induction n with
 | zero =>
  intro y h0 hy hb; obtain rfl : y = 2875 := by omega
  exact absurd hb (by unfold bg; omega)
 | succ n ih =>
  intro y h0 hy hb; have hs := szs_sum h0; by_cases hx : bg (y + 1) ≤ d
  ·obtain ⟨Y, m, r, a1, a2, a3, a4, a5, a6, hev⟩ := ih (y + 1) (by omega) (by omega) hx; refine ⟨Y, m, r, a1, a2, a3, a4, a5, a6, Ev.step (fun k => ?_) hev⟩; simp only [unit_date.l0]; rw [w64 (x := y + 1) (by omega) (by omega), bg_of (by omega) (by omega)]; simp only [Option.bind_some]; rw [if_pos hx]
  ·have hbb := bg_le (y := y) (by omega) (by omega); have hss : (szs y).sum ≤ 366 := by unfold szs; split <;> decide
   obtain ⟨m, r, a1, a2, a3, a4, hev⟩ := date_l1 h0 (by omega) (szs y) (szs_len y) (szs_mem y) 12 0 (d - bg y) (by omega) (by omega) (by omega) (by rw [List.drop_zero]; omega); refine ⟨y, m, r, h0, by omega, a1, a2, a3, by simp at a4; omega, Ev.step (fun k => ?_) hev⟩; simp only [unit_date.l0]; rw [w64 (x := y + 1) (by omega) (by omega), bg_of (by omega) (by omega), bg_of (by omega) (by omega), szs_of (by omega) (by omega)]; simp only [Option.bind_some]; rw [if_neg hx, w64 (x := d - bg y) (by omega) (by omega)]; rfl
theorem date_of {d : Int} (h0 : 0 ≤ d) (h1 : d ≤ 1048575) : ∃ (Y : Int) (m : Nat) (r : Int), 1 ≤ Y ∧ Y ≤ 2880 ∧ m < 12 ∧ 0 ≤ r ∧ r < 31 ∧ bg Y + ((szs Y).take m).sum + r = d ∧ Ev (fun k => unit_date.f k d) (bs (dtext Y m r)) := by
 obtain ⟨Y, m, r, a1, a2, a3, a4, a5, a6, hev⟩ := date_l0 d h1 (2875 - (d / 366 + 1)).toNat (d / 366 + 1) (by omega) (by omega) (by unfold bg; omega); refine ⟨Y, m, r, a1, a2, a3, a4, a5, a6, Ev.congr (fun k => ?_) hev⟩; unfold unit_date.f; rw [tdivnn h0, w64 (x := d / 366) (by omega) (by omega), w64 (by omega) (by omega)]
theorem dated_l1 (S : List Int) (X : List Int) (hX : ∀ x ∈ X, 0 ≤ x ∧ x ≤ 31) (hl : X.length ≤ 12) : ∀ (n i : Nat) (x9 : Int), i + n = X.length → 0 ≤ x9 → x9 ≤ 2000000 + 31 * i → Ev (fun k => unit_dated.l1 k x9 S X (X.length : Int) (i : Int)) (x9 + (X.drop i).sum, true) := by
 intro n; induction n with
 | zero =>
  intro i x9 hi a b; refine Ev.step (f := fun _ => some _) (fun k => ?_) (Ev.now _); simp only [unit_dated.l1]; rw [if_neg (by omega), List.drop_eq_nil_of_le (by omega)]; simp
 | succ n ih =>
  intro i x9 hi a b; have hil : i < X.length := by omega
  have hr : 0 ≤ rd X (i : Int) ∧ rd X (i : Int) ≤ 31 := by
   have : rd X (i : Int) = X[i] := by unfold rd; simp [List.getD, hil]
   rw [this]; exact hX _ (List.getElem_mem hil)
  have ih' := ih (i + 1) (x9 + rd X (i : Int)) (by omega) (by omega) (by omega); rw [drop_rd X i hil, List.sum_cons, show x9 + (rd X (i : Int) + (X.drop (i + 1)).sum) = x9 + rd X (i : Int) + (X.drop (i + 1)).sum from by omega]; refine Ev.step (fun k => ?_) ih'; simp only [unit_dated.l1]; rw [if_pos (by omega), if_pos (by omega), if_pos (by omega), w64 (x := x9 + _) (by omega) (by omega), w64_succ hil (by omega)]
theorem padL_ne (n d : Nat) : padL n d ≠ [] := fun h => by have := padL_len n d; rw [h] at this; have := dec_len_pos n; simp at *; omega
theorem pad_atoi {n : Nat} {d : Nat} (hn : n < 10000000000000000) (hd : d ≤ 16) : strconv_Atoi.f (bs (padL n d)) = some ((n : Int), none) :=
 atoi_of (by have := padL_len n d; have := dlen hn; omega) (atoi_digs (padL_digs n d) (padL_ne n d) (padL_val n d))
theorem dated_of {Y : Int} {m : Nat} {r : Int} (a1 : 1 ≤ Y) (a2 : Y ≤ 2880) (a3 : m < 12) (a4 : 0 ≤ r) (a5 : r < 31) : Ev (fun k => unit_dated.f k (bs (dtext Y m r))) (bg Y + ((szs Y).take m).sum + r, true) := by
 have hlen : (dtext Y m r).length ≤ 50 := by
  have d1 := dlen (n := Y.toNat) (by omega); have d2 := dlen (n := ((m : Int) + 1).toNat) (by omega); have d3 := dlen (n := (r + 1).toNat) (by omega); have p1 := padL_len Y.toNat 4; have p2 := padL_len ((m : Int) + 1).toNat 2; have p3 := padL_len (r + 1).toNat 2; unfold dtext; simp only [List.length_append, List.length_cons]; omega
 have hs : strings_Split.f (bs (dtext Y m r)) (⟨#[45]⟩ : ByteArray) = some [bs (padL Y.toNat 4), bs (padL ((m : Int) + 1).toNat 2), bs (padL (r + 1).toNat 2)] := by
  unfold strings_Split.f; rw [lit45, if_pos ⟨by rw [bs_size]; omega, by rw [bs_size]; decide⟩]; congr 1; exact split3 (ne_of_digs (padL_digs _ _) (by decide)) (ne_of_digs (padL_digs _ _) (by decide)) (ne_of_digs (padL_digs _ _) (by decide))
 have e1 := pad_atoi (n := Y.toNat) (d := 4) (by omega) (by omega); have e2 := pad_atoi (n := ((m : Int) + 1).toNat) (d := 2) (by omega) (by omega); have e3 := pad_atoi (n := (r + 1).toNat) (d := 2) (by omega) (by omega); rw [show ((Y.toNat : Nat) : Int) = Y from by omega] at e1; rw [show ((((m : Int) + 1).toNat : Nat) : Int) = (m : Int) + 1 from by omega] at e2; rw [show (((r + 1).toNat : Nat) : Int) = r + 1 from by omega] at e3; have hm : ∀ x ∈ (szs Y).take m, 0 ≤ x ∧ x ≤ 31 := fun x hx => by have := szs_mem Y x (List.mem_of_mem_take hx); omega
 have htl : ((szs Y).take m).length = m := by rw [List.length_take, szs_len]; omega
 have hbb : 0 ≤ bg Y ∧ bg Y ≤ 1500000 := by unfold bg; omega
 have hsum : bg Y + r + ((szs Y).take m).sum = bg Y + ((szs Y).take m).sum + r := by omega
 have hfin := dated_l1 (szs Y) ((szs Y).take m) hm (by omega) m 0 (bg Y + r) (by omega) (by omega) (by omega); rw [List.drop_zero, hsum] at hfin; unfold unit_dated.f; rw [hs]; simp only [Option.bind_some]; obtain ⟨P1, hP1⟩ : ∃ P, P = bs (padL Y.toNat 4) := ⟨_, rfl⟩; obtain ⟨P2, hP2⟩ : ∃ P, P = bs (padL ((m : Int) + 1).toNat 2) := ⟨_, rfl⟩; obtain ⟨P3, hP3⟩ : ∃ P, P = bs (padL (r + 1).toNat 2) := ⟨_, rfl⟩; rw [← hP1] at e1 ⊢; rw [← hP2] at e2 ⊢; rw [← hP3] at e3 ⊢; have g1 : strconv_Atoi.f (rdOf ByteArray.empty [P1, P2, P3] 0) = some (Y, none) := e1; have g2 : strconv_Atoi.f (rdOf ByteArray.empty [P1, P2, P3] 1) = some ((m : Int) + 1, none) := e2; have g3 : strconv_Atoi.f (rdOf ByteArray.empty [P1, P2, P3] 2) = some (r + 1, none) := e3; show Ev (fun k => unit_dated.l0 k [] [P1, P2, P3] 3 0) _; refine Ev.step (f := fun k => unit_dated.l0 k [Y] [P1, P2, P3] 3 1) (fun k => ?_) ?_
 ·simp only [unit_dated.l0]; rw [if_pos (by decide), if_pos (by decide), if_pos (by simp), g1]; simp only [Option.bind_some]; rw [if_pos (show (none : Option Int).isNone = true from rfl), if_pos (by simp), w64 (by omega) (by omega)]; rfl
 refine Ev.step (f := fun k => unit_dated.l0 k [Y, (m : Int) + 1] [P1, P2, P3] 3 2) (fun k => ?_) ?_
 ·simp only [unit_dated.l0]; rw [if_pos (by decide), if_pos (by decide), if_pos (by simp), g2]; simp only [Option.bind_some]; rw [if_pos (show (none : Option Int).isNone = true from rfl), if_pos (by simp), w64 (by omega) (by omega)]; rfl
 refine Ev.step (f := fun k => unit_dated.l0 k [Y, (m : Int) + 1, r + 1] [P1, P2, P3] 3 3) (fun k => ?_) ?_
 ·simp only [unit_dated.l0]; rw [if_pos (by decide), if_pos (by decide), if_pos (by simp), g3]; simp only [Option.bind_some]; rw [if_pos (show (none : Option Int).isNone = true from rfl), if_pos (by simp), w64 (by omega) (by omega)]; rfl
 have r0 : rd [Y, (m : Int) + 1, r + 1] 0 = Y := rfl; have r1 : rd [Y, (m : Int) + 1, r + 1] 1 = (m : Int) + 1 := rfl; have r2 : rd [Y, (m : Int) + 1, r + 1] 2 = r + 1 := rfl; refine Ev.step (f := fun k => unit_dated.j1 k [Y, (m : Int) + 1, r + 1] false) (fun k => ?_) ?_
 ·simp only [unit_dated.l0]; rw [if_neg (by decide), if_pos (by simp), r0, r1, if_neg (by omega), if_neg (by omega), if_pos (by simp), if_neg (by omega), decide_eq_false (by omega)]
 refine Ev.step (fun k => ?_) hfin; simp only [unit_dated.j1]; rw [if_neg (by decide), if_pos (by simp), r0, r1, r2, bg_of (by omega) (by omega), szs_of (by omega) (by omega)]; simp only [Option.bind_some]; rw [if_pos (by simp), if_pos (by simp), w64 (x := (m : Int) + 1 - 1) (by omega) (by omega), if_pos (by omega), if_pos (by rw [szs_len]; omega), show ((m : Int) + 1 - 1).toNat = m from by omega,
  w64 (x := bg Y + (r + 1)) (by omega) (by omega), w64 (by omega) (by omega), show bg Y + (r + 1) - 1 = bg Y + r from by omega]
 rfl
theorem ends_no {X D : List UInt8} (hD : Digs D) (hn : D ≠ []) (h : (X ++ D).length ≤ 1000) {s : List UInt8} {d : UInt8} (hd : ¬ dg1 d) : strings_HasSuffix.f (bs (X ++ D)) (bs (s ++ [d])) = some false := by
 obtain ⟨B, c, rfl, hc⟩ := last_of hD hn; rw [← List.append_assoc] at h ⊢; exact hs_no (dg1_ne hc hd) h
structure Reads (c x : Int) (A : List UInt8) : Prop where
 len : A.length ≤ 40
 text : Ev (fun k => unit_Text.f k c x) (bs A)
 form : Ev (fun k => unit_form.f k (bs A)) c
 number : Ev (fun k => unit_number.f k c (bs A)) (x, true)
theorem number_cut {c : Int} (h : c = 2 ∨ c = 3 ∨ c = 5 ∨ c = 6) {A A1 A2 X Y : List UInt8} {b : Bool} {n : Int} (h1 : strings_TrimSuffix.f (bs A) (bs ([] ++ [37])) = some (bs A1)) (h2 : strings_TrimSuffix.f (bs A1) (bs ([32, 100, 97, 121] ++ [115])) = some (bs A2)) (h3 : Go.Lib.cut A2 [46] = (X, Y, b)) (h5 : A2.length ≤ 1000)
  (h4 : (c = 6 ∧ Y.length ≤ 4 ∧ X.length ≤ 14 ∧ Go.Lib.atoi (X ++ (Y ++ List.replicate (4 - Y.length) 48)) = some n) ∨ (c ≠ 6 ∧ X.length + Y.length ≤ 18 ∧ Go.Lib.atoi (X ++ Y) = some n)) : Ev (fun k => unit_number.f k c (bs A)) (n, true) := by
 have h3' := cut_of A2 46 h5; rw [h3] at h3'; have e1 : strings_TrimSuffix.f (bs A) (⟨#[37]⟩ : ByteArray) = some (bs A1) := h1; have e2 : strings_TrimSuffix.f (bs A1) (⟨#[32, 100, 97, 121, 115]⟩ : ByteArray) = some (bs A2) := h2; have e3 : strings_Cut.f (bs A2) (⟨#[46]⟩ : ByteArray) = some (bs X, bs Y, b) := h3'; unfold unit_number.f; refine Ev.ifn (by omega) (Ev.ifn (by omega) (Ev.ifn (by omega) ?_)); rw [e1]; simp only [Option.bind_some]; rw [e2]; simp only [Option.bind_some]; rw [e3]; simp only [Option.bind_some]; rcases h4 with ⟨hc, hY, hX, ha⟩ | ⟨hc, hl, ha⟩
 ·refine Ev.ifp hc (Ev.step (f := fun _ => some (n, true)) (fun k => ?_) (Ev.now _)); simp only [unit_number.j0]; rw [if_pos (by rw [bs_size]; exact decide_eq_true (by omega)), bs_size, w64 (x := 4 - (Y.length : Int)) (by omega) (by omega), rep0 (by omega) (by omega), show ((4 : Int) - (Y.length : Int)).toNat = 4 - Y.length from by omega]; simp only [Option.bind_some, bs_append, bs_size]; have hl : (List.replicate (4 - Y.length) (48 : UInt8)).length = 4 - Y.length := List.length_replicate; rw [if_pos (by omega), if_pos (by rw [List.length_append]; omega), atoi_of (by simp only [List.length_append]; omega) ha]; rfl
 ·refine Ev.ifn hc (Ev.step (f := fun _ => some (n, true)) (fun k => ?_) (Ev.now _)); simp only [unit_number.j0]; simp only [bs_append, bs_size]; rw [if_neg (by decide), if_pos (by omega), atoi_of (by rw [List.length_append]; omega) ha]; rfl
theorem sgn_ne46 (x : Int) : ∀ b ∈ sgn x, b ≠ 46 := by unfold sgn; split <;> simp
theorem app_ne {A B : List UInt8} {c : UInt8} (h : ∀ b ∈ A, b ≠ c) (h' : ∀ b ∈ B, b ≠ c) : ∀ b ∈ A ++ B, b ≠ c := fun b hb => (List.mem_append.1 hb).elim (h b) (h' b)
theorem reads2 {x : Int} (h0 : uLo 2 ≤ x) (h1 : x ≤ uHi 2) : ∃ A, Reads 2 x A := by
 have hf := fit_in (c := 2) (by omega) (by omega) h0 h1; have l0 : -1099511627776 ≤ x := h0; have l1 : x ≤ 1099511627776 := h1; obtain ⟨W, T, T', j, hW, hWT, hT, hTT, hTl, hWl, hev⟩ := point_of (n := x) (p := 2) (m := 2) (by omega) (by omega) (by omega) (by omega) (by omega); have hj : j = 0 := by have := congrArg List.length hTT; simp at this; omega
 subst hj; obtain rfl : T = T' := by simpa using hTT
 have hTn : T ≠ [] := fun h => by rw [h] at hT; simp at hT
 rw [if_neg hTn] at hev; have hd : Digs (W ++ T) := hWT ▸ padL_digs _ _; have hlen : (W ++ T).length ≤ 16 := by
  rw [hWT, padL_len]; have := dlen (n := x.natAbs) (by omega); omega
 have hl2 : W.length + T.length ≤ 16 := by rw [← List.length_append]; exact hlen
 have hs := sgn_len x; have hA : (sgn x ++ W ++ 46 :: T).length ≤ 40 := by simp only [List.length_append, List.length_cons]; omega
 have hA' : sgn x ++ W ++ 46 :: T = (sgn x ++ W ++ [46]) ++ T := by simp
 have n1 : ∀ (s : List UInt8) {d : UInt8}, ¬ dg1 d → strings_HasSuffix.f (bs (sgn x ++ W ++ 46 :: T)) (bs (s ++ [d])) = some false := fun s d hd' => by
  rw [hA'] at hA ⊢; exact ends_no hd.right hTn (by omega) hd'
 have n46 : ∀ b ∈ sgn x ++ W, b ≠ 46 := app_ne (sgn_ne46 x) (ne_of_digs hd.left (by decide)); refine ⟨sgn x ++ W ++ 46 :: T, hA, ?_, form_num (numeral_of hW hd.left) ?_, ?_⟩
 ·unfold unit_Text.f; rw [hf]; simp only [Option.bind_some]; refine Ev.ifn (by decide) (Ev.ifp (by first | trivial | rfl) (Ev.bind hev (Ev.now _)))
 ·have e1 : strings_HasSuffix.f (bs (sgn x ++ W ++ 46 :: T)) (⟨#[37]⟩ : ByteArray) = some false := n1 [] (by decide); have e2 : strings_HasSuffix.f (bs (sgn x ++ W ++ 46 :: T)) (⟨#[32, 100, 97, 121, 115]⟩ : ByteArray) = some false := n1 [32, 100, 97, 121] (by decide); have e3 : strings_Contains.f (bs (sgn x ++ W ++ 46 :: T)) (⟨#[46]⟩ : ByteArray) = some true := by rw [lit46, con_of _ _ (by omega), Go.Proofs.YtkjneemcledfjaaGreatDoor.StrLaw.contains_yes n46]
  rw [e1, e2, e3]; rfl
 ·refine number_cut (Or.inl rfl) (ts_no (n1 [] (by decide))) (ts_no (n1 [32, 100, 97, 121] (by decide))) (cut_yes n46) (by omega) (Or.inr ⟨by decide, by rw [List.length_append]; omega, ?_⟩); rw [List.append_assoc]; exact atoi_sgn hd (by simp [hW]) (by rw [hWT, padL_val])
theorem reads6 {x : Int} (h0 : uLo 6 ≤ x) (h1 : x ≤ uHi 6) : ∃ A, Reads 6 x A := by
 have hf := fit_in (c := 6) (by omega) (by omega) h0 h1; have l0 : -1000000000 ≤ x := h0; have l1 : x ≤ 1000000000 := h1; obtain ⟨W, T, T', j, hW, hWT, hT, hTT, hTl, hWl, hev⟩ := point_of (n := x) (p := 4) (m := 0) (by omega) (by omega) (by omega) (by omega) (by omega); have hd : Digs (W ++ T) := hWT ▸ padL_digs _ _; have hd' : Digs T' := by have := hd.right; rw [hTT] at this; exact this.left
 have hj : T'.length + j = 4 := by have := congrArg List.length hTT; simp at this; omega
 have hlen : (W ++ T).length ≤ 12 := by
  rw [hWT, padL_len]; have := dec_len_le (u := x.natAbs) (k := 11) (by omega); omega
 have hl2 : W.length + T.length ≤ 12 := by rw [← List.length_append]; exact hlen
 have hs := sgn_len x; have n46 : ∀ b ∈ sgn x ++ W, b ≠ 46 := app_ne (sgn_ne46 x) (ne_of_digs hd.left (by decide)); obtain ⟨P, hP⟩ : ∃ P, P = (if T' = [] then [] else 46 :: T') := ⟨_, rfl⟩; rw [← hP] at hev; have hPl : P.length ≤ 5 := by rw [hP]; split <;> simp; omega
 have hB : (sgn x ++ W ++ P).length ≤ 30 := by simp only [List.length_append]; omega
 have n1 : ∀ (s : List UInt8) {d : UInt8}, ¬ dg1 d → strings_HasSuffix.f (bs (sgn x ++ W ++ P)) (bs (s ++ [d])) = some false := fun s d hdd => by
  by_cases hT' : T' = []
  ·rw [hP, if_pos hT', List.append_nil] at hB ⊢; exact ends_no hd.left hW (by omega) hdd
  ·rw [hP, if_neg hT', show sgn x ++ W ++ 46 :: T' = (sgn x ++ W ++ [46]) ++ T' by simp] at hB ⊢; exact ends_no hd' hT' (by omega) hdd
 have hcut : ∃ b, Go.Lib.cut (sgn x ++ W ++ P) [46] = (sgn x ++ W, T', b) := by
  by_cases hT' : T' = []
  ·rw [hP, if_pos hT', List.append_nil, hT']; exact ⟨_, cut_no n46⟩
  ·rw [hP, if_neg hT']; exact ⟨_, cut_yes n46⟩
 obtain ⟨b, hcut⟩ := hcut; have hA : (sgn x ++ W ++ P ++ [37]).length ≤ 40 := by simp only [List.length_append, List.length_singleton] at hB ⊢; omega
 refine ⟨sgn x ++ W ++ P ++ [37], hA, ?_, form_num (by rw [List.append_assoc]; exact numeral_of hW hd.left) ?_, ?_⟩
 ·unfold unit_Text.f; rw [hf]; simp only [Option.bind_some]; refine Ev.ifn (by decide) (Ev.ifn (by decide) (Ev.ifn (by decide) (Ev.ifn (by decide) (Ev.ifn (by decide) (Ev.ifp (by first | trivial | rfl) (Ev.bind hev ?_)))))); rw [lit37]; simp only [bs_append, bs_size]; exact Ev.ifp (by omega) (Ev.now _)
 ·have e1 : strings_HasSuffix.f (bs (sgn x ++ W ++ P ++ [37])) (⟨#[37]⟩ : ByteArray) = some true := hs_yes _ [37] (by omega); rw [e1]; rfl
 ·refine number_cut (Or.inr (Or.inr (Or.inr rfl))) (ts_yes (s := [37]) (by omega)) (ts_no (n1 [32, 100, 97, 121] (by decide))) hcut (by omega) (Or.inl ⟨rfl, by omega, by rw [List.length_append]; omega, ?_⟩); rw [show 4 - T'.length = j from by omega, ← hTT, List.append_assoc]; exact atoi_sgn hd (by simp [hW]) (by rw [hWT, padL_val])
theorem reads35 {c x : Int} (hc : c = 3 ∨ c = 5) (l0 : -1048576 ≤ x) (l1 : x ≤ 1048576) : ∃ A, Reads c x A := by
 have hf := fit_in (c := c) (by omega) (by omega) (x := x) (by rcases hc with rfl | rfl <;> exact l0) (by rcases hc with rfl | rfl <;> exact l1); obtain ⟨D, hD⟩ : ∃ D, D = Go.Lib.decDigits x.natAbs := ⟨_, rfl⟩; have hd : Digs D := hD ▸ digs_dec _; have hn : D ≠ [] := hD ▸ dec_ne _; have hl : D.length ≤ 16 := by rw [hD]; exact dlen (by omega)
 have hs := sgn_len x; have hB : (sgn x ++ D).length ≤ 17 := by simp only [List.length_append]; omega
 have n46 : ∀ b ∈ sgn x ++ D, b ≠ 46 := app_ne (sgn_ne46 x) (ne_of_digs hd (by decide)); have n1 : ∀ (s : List UInt8) {d : UInt8}, ¬ dg1 d → strings_HasSuffix.f (bs (sgn x ++ D)) (bs (s ++ [d])) = some false := fun s d hdd => ends_no hd hn (by omega) hdd; have hat : Go.Lib.atoi (sgn x ++ D ++ []) = some x := by rw [List.append_nil]; exact atoi_sgn hd hn (by rw [hD, decFrom_dec])
 have hit : strconv_Itoa.f x = some (bs (sgn x ++ D)) := by rw [itoa_of (by omega) (by omega), hD]
 rcases hc with rfl | rfl
 ·have hA : (sgn x ++ D ++ ([32, 100, 97, 121] ++ [115])).length ≤ 40 := by simp only [List.length_append, List.length_cons, List.length_nil] at hB ⊢; omega
  refine ⟨sgn x ++ D ++ ([32, 100, 97, 121] ++ [115]), hA, ?_, form_num (numeral_of hn hd) ?_, ?_⟩
  ·unfold unit_Text.f; rw [hf]; simp only [Option.bind_some, hit]; refine Ev.ifn (by decide) (Ev.ifn (by decide) (Ev.ifp (by first | trivial | rfl) ?_)); rw [litD]; simp only [bs_append, bs_size]; exact Ev.ifp (by omega) (Ev.now _)
  ·have e1 : strings_HasSuffix.f (bs (sgn x ++ D ++ ([32, 100, 97, 121] ++ [115]))) (⟨#[37]⟩ : ByteArray) = some false := by
    rw [← List.append_assoc] at hA ⊢; exact hs_no (s := []) (by decide) (by omega)
   have e2 : strings_HasSuffix.f (bs (sgn x ++ D ++ ([32, 100, 97, 121] ++ [115]))) (⟨#[32, 100, 97, 121, 115]⟩ : ByteArray) = some true := hs_yes _ _ (by omega); rw [e1, e2]; rfl
  ·refine number_cut (Or.inr (Or.inl rfl)) (A1 := sgn x ++ D ++ ([32, 100, 97, 121] ++ [115])) (ts_no ?_) (ts_yes (by omega)) (cut_no n46) (by omega) (Or.inr ⟨by decide, by simp only [List.length_nil]; omega, hat⟩); rw [← List.append_assoc] at hA ⊢; exact hs_no (s := []) (by decide) (by omega)
 ·refine ⟨sgn x ++ D, by omega, ?_, form_num (by rw [← List.append_nil (sgn x ++ D)]; exact numeral_of hn hd) ?_, ?_⟩
  ·unfold unit_Text.f; rw [hf]; simp only [Option.bind_some, hit]; exact Ev.ifn (by decide) (Ev.ifn (by decide) (Ev.ifn (by decide) (Ev.ifn (by decide) (Ev.ifp (by first | trivial | rfl) (Ev.now _)))))
  ·have e1 : strings_HasSuffix.f (bs (sgn x ++ D)) (⟨#[37]⟩ : ByteArray) = some false := n1 [] (by decide); have e2 : strings_HasSuffix.f (bs (sgn x ++ D)) (⟨#[32, 100, 97, 121, 115]⟩ : ByteArray) = some false := n1 [32, 100, 97, 121] (by decide); have e3 : strings_Contains.f (bs (sgn x ++ D)) (⟨#[46]⟩ : ByteArray) = some false := by rw [lit46, con_of _ _ (by omega), Go.Proofs.YtkjneemcledfjaaGreatDoor.StrLaw.contains_no n46]
   have e4 : strings_Count.f (bs (sgn x ++ D)) (⟨#[45]⟩ : ByteArray) = some (((sgn x).count 45 : Nat) : Int) := by rw [lit45, cnt_of, List.count_append, count_no (ne_of_digs hd (by decide)), Nat.add_zero]
   have h2 : (sgn x).count 45 ≤ 1 := Nat.le_trans List.count_le_length hs; rw [e1, e2, e3, e4]; simp only [Option.bind_some]; rw [if_neg (by decide), if_neg (by decide), if_neg (by decide), if_neg (by omega)]
  ·exact number_cut (Or.inr (Or.inr (Or.inl rfl))) (ts_no (n1 [] (by decide))) (ts_no (n1 [32, 100, 97, 121] (by decide))) (cut_no n46) (by omega) (Or.inr ⟨by decide, by simp only [List.length_nil]; omega, hat⟩)
theorem reads4 {x : Int} (l0 : 0 ≤ x) (l1 : x ≤ 1048575) : ∃ A, Reads 4 x A := by
 have hf := fit_in (c := 4) (by omega) (by omega) (x := x) l0 l1; obtain ⟨Y, m, r, a1, a2, a3, a4, a5, a6, hev⟩ := date_of l0 l1; have hdt := dated_of a1 a2 a3 a4 a5; rw [a6] at hdt; have d1 := dec_len_le (u := Y.toNat) (k := 3) (by omega); have d2 := dec_len_le (u := ((m : Int) + 1).toNat) (k := 1) (by omega); have d3 := dec_len_le (u := (r + 1).toNat) (k := 1) (by omega); have p1 := padL_len Y.toNat 4; have p2 := padL_len ((m : Int) + 1).toNat 2; have p3 := padL_len (r + 1).toNat 2; have g1 := padL_digs Y.toNat 4; have g2 := padL_digs ((m : Int) + 1).toNat 2; have g3 := padL_digs (r + 1).toNat 2; have q1 := padL_ne Y.toNat 4; have q3 := padL_ne (r + 1).toNat 2; have hA : (dtext Y m r).length ≤ 40 := by unfold dtext; simp only [List.length_append, List.length_cons]; omega
 have hA' : dtext Y m r = (padL Y.toNat 4 ++ 45 :: (padL ((m : Int) + 1).toNat 2 ++ [45])) ++ padL (r + 1).toNat 2 := by unfold dtext; simp
 have n1 : ∀ (s : List UInt8) {d : UInt8}, ¬ dg1 d → strings_HasSuffix.f (bs (dtext Y m r)) (bs (s ++ [d])) = some false := fun s d hdd => by
  rw [hA'] at hA ⊢; exact ends_no g3 q3 (by omega) hdd
 refine ⟨dtext Y m r, hA, ?_, form_num ?_ ?_, ?_⟩
 ·unfold unit_Text.f; rw [hf]; simp only [Option.bind_some]; exact Ev.ifn (by decide) (Ev.ifn (by decide) (Ev.ifn (by decide) (Ev.ifp (by first | trivial | rfl) (Ev.bind hev (Ev.now _)))))
 ·have := numeral_of (n := 0) (r := 45 :: (padL ((m : Int) + 1).toNat 2 ++ 45 :: padL (r + 1).toNat 2)) q1 g1; exact this
 ·have e1 : strings_HasSuffix.f (bs (dtext Y m r)) (⟨#[37]⟩ : ByteArray) = some false := n1 [] (by decide); have e2 : strings_HasSuffix.f (bs (dtext Y m r)) (⟨#[32, 100, 97, 121, 115]⟩ : ByteArray) = some false := n1 [32, 100, 97, 121] (by decide); have n46 : ∀ b ∈ dtext Y m r, b ≠ 46 := by
   have z : ∀ {l : List UInt8}, (∀ b ∈ l, b ≠ 46) → ∀ b ∈ (45 : UInt8) :: l, b ≠ 46 := fun h b hb => (List.mem_cons.1 hb).elim (fun e => by rw [e]; decide) (h b); exact app_ne (ne_of_digs g1 (by decide)) (z (app_ne (ne_of_digs g2 (by decide)) (z (ne_of_digs g3 (by decide)))))
  have e3 : strings_Contains.f (bs (dtext Y m r)) (⟨#[46]⟩ : ByteArray) = some false := by rw [lit46, con_of _ _ (by omega), Go.Proofs.YtkjneemcledfjaaGreatDoor.StrLaw.contains_no n46]
  have e4 : strings_Count.f (bs (dtext Y m r)) (⟨#[45]⟩ : ByteArray) = some 2 := by
   rw [lit45, cnt_of]; unfold dtext; rw [List.count_append, List.count_cons_self, List.count_append, List.count_cons_self, count_no (ne_of_digs g1 (by decide)), count_no (ne_of_digs g2 (by decide)), count_no (ne_of_digs g3 (by decide))]; rfl
  rw [e1, e2, e3, e4]; rfl
 ·unfold unit_number.f; exact Ev.ifn (by decide) (Ev.ifn (by decide) (Ev.ifp rfl (Ev.bind hdt (Ev.now _))))
theorem reads0 : ∃ A, Reads 0 0 A := ⟨[110, 111, 110, 101], by decide, ⟨0, fun k _ => rfl⟩, le_ev (f := fun k => unit_form.f k (bs [110, 111, 110, 101])) (unit_form.mono _) 1 (by decide +kernel), ⟨0, fun k _ => rfl⟩⟩
theorem reads1 {x : Int} (h : x = 0 ∨ x = 1) : ∃ A, Reads 1 x A := by
 rcases h with rfl | rfl
 ·exact ⟨[102, 97, 108, 115, 101], by decide, ⟨0, fun k _ => rfl⟩, le_ev (f := fun k => unit_form.f k (bs [102, 97, 108, 115, 101])) (unit_form.mono _) 1 (by decide +kernel), ⟨0, fun k _ => rfl⟩⟩
 ·exact ⟨[116, 114, 117, 101], by decide, ⟨0, fun k _ => rfl⟩, le_ev (f := fun k => unit_form.f k (bs [116, 114, 117, 101])) (unit_form.mono _) 1 (by decide +kernel), ⟨0, fun k _ => rfl⟩⟩
theorem check_of {c x : Int} (h : ∃ lo hi, unit_Range.f c = some (lo, hi) ∧ lo ≤ x ∧ x ≤ hi) (h0 : 0 ≤ c) (h1 : c ≤ 6) : unit_Check.f c x = some 0 ∧ unit_Fit.f c x = some (c, x) := by
 obtain ⟨lo, hi, hr, a, b⟩ := h; have hk : unit_known.f c = some true := by unfold unit_known.f; rw [if_pos h0, decide_eq_true h1]
 unfold unit_Check.f unit_Fit.f; rw [hr, hk]; simp only [Option.bind_some, if_true]; refine ⟨by rw [if_neg (by omega), if_neg (by omega)], ?_⟩; congr 2; unfold mx mn; repeat' split <;> omega
theorem read_of {c x : Int} {A : List UInt8} (h : Reads c x A) (hk : unit_Check.f c x = some 0) : Ev (fun k => unit_Read.f k (bs A)) (c, x, 0) := by
 unfold unit_Read.f; have := h.len; refine Ev.ifn (by rw [bs_size]; omega) (Ev.bind h.form (Ev.bind h.number (Ev.ifp rfl ?_))); simp only [hk, Option.bind_some]; exact Ev.ifp trivial (Ev.bind h.text (Ev.ifp rfl (Ev.now _)))
def okspan (s : S73) : Prop := 0 ≤ s.f0 ∧ s.f0 < s.f1 ∧ s.f1 ≤ 1048576 ∧ s.f2.f0 = 5 ∧ -1048576 ≤ s.f2.f1 ∧ s.f2.f1 ≤ 1048576
def follows (p s : S73) : Prop := p.f1 ≤ s.f0 ∧ ¬ (s.f0 = p.f1 ∧ s.f2.f0 = p.f2.f0 ∧ s.f2.f1 = p.f2.f1)
inductive Valid : List S73 → Prop
 | nil : Valid []
 | one (s : S73) : okspan s → Valid [s]
 | snoc (l : List S73) (p s : S73) : Valid (l ++ [p]) → okspan s → follows p s → Valid (l ++ [p] ++ [s])
theorem getD_app (l : List S73) (s : S73) (i : Nat) (z : S73) : (l ++ [s]).getD i z = if i < l.length then l.getD i z else if i = l.length then s else z := by
 simp only [List.getD_eq_getElem?_getD, List.getElem?_append]; split
 ·rfl
 ·split
  ·rename_i h; subst h; simp
  ·rename_i h h'; rw [List.getElem?_eq_none (by simp; omega)]; rfl
def atv : List S73 → Int → Int × Int
 | [], _ => (0, 0)
 | s :: l, d => if s.f0 ≤ d ∧ d < s.f1 then (s.f2.f0, s.f2.f1) else atv l d
def has (s : S73) (d : Int) : Prop := s.f0 ≤ d ∧ d < s.f1
instance (s : S73) (d : Int) : Decidable (has s d) := by unfold has; infer_instance
theorem Valid.hi {l : List S73} (h : Valid l) : ∀ p, l.getLast? = some p → ∀ t ∈ l, t.f1 ≤ p.f1 := by
 induction h with
 | nil => intro p hp; simp at hp
 | one s hs => intro p hp t ht; simp at hp; rw [List.mem_singleton.1 ht, hp]; omega
 | snoc l q s _ hs hf ih =>
  intro p hp t ht; rw [List.getLast?_append] at hp; simp at hp; subst hp; rcases List.mem_append.1 ht with ht | ht
  ·have := ih q (by simp) t ht; have := hf.1; have := hs.2.1; omega
  ·rw [List.mem_singleton.1 ht]; omega
def Upto (l : List S73) (m : Int) : Prop := ∀ t ∈ l, t.f1 ≤ m
theorem Upto.mono {l : List S73} {m m' : Int} (h : Upto l m) (hm : m ≤ m') : Upto l m' := fun t ht => Int.le_trans (h t ht) hm
def gro (l : List S73) (f t kd n : Int) : List S73 :=
 match l.getLast? with
 | none => l ++ [(⟨f, t, (⟨kd, n⟩ : S46)⟩ : S73)]
 | some p => if p.f1 = f ∧ p.f2.f0 = kd ∧ p.f2.f1 = n then l.dropLast ++ [(⟨p.f0, t, (⟨p.f2.f0, p.f2.f1⟩ : S46)⟩ : S73)] else l ++ [(⟨f, t, (⟨kd, n⟩ : S46)⟩ : S73)]
def tA : ByteArray := ⟨#[97]⟩
def tB : ByteArray := ⟨#[98]⟩
structure Good (f : S48) : Prop where
 who : f.f0 = 0 ∨ f.f0 = 1
 attr : f.f1 = tA ∨ f.f1 = tB
 val : (f.f2.f0 = 0 ∧ f.f2.f1 = 0) ∨ (f.f2.f0 = 5 ∧ 0 ≤ f.f2.f1 ∧ f.f2.f1 < 4)
 from0 : 0 ≤ f.f3
 from1 : f.f3 < 60
 to0 : f.f3 < f.f4
 to1 : f.f4 ≤ f.f3 + 30
 known0 : 0 ≤ f.f5
 known1 : f.f5 ≤ 30
def ofw (who : Int) (attr : ByteArray) (f : S48) : Bool := decide (f.f0 = who) && decide (f.f1.toList = attr.toList)
def hit (who : Int) (attr : ByteArray) (d known : Int) (f : S48) : Bool := ofw who attr f && !decide (f.f5 > known) && !decide (d < f.f3) && !decide (d ≥ f.f4)
def ste (h : S48 → Bool) (s : Int × Bool × Int × Int) (f : S48) : Int × Bool × Int × Int :=
 if h f = true then (if s.2.1 = true ∧ f.f5 < s.1 then s else (f.f5, true, f.f2.f0, f.f2.f1)) else s
def fin (s : Int × Bool × Int × Int) : Int × Int := if s.2.2.1 = 0 then (0, 0) else (s.2.2.1, s.2.2.2)
def atF (F : List S48) (who : Int) (attr : ByteArray) (d known : Int) : Int × Int := fin (F.foldl (ste (hit who attr d known)) (0, false, 0, 0))
theorem drop_fact (l : List S48) (i : Nat) (h : i < l.length) : l.drop i = rd_T48 l (i : Int) :: l.drop (i + 1) := by
 rw [List.drop_eq_getElem_cons h]; unfold rd_T48; simp [List.getD, h]
theorem factAt_l0 (who : Int) (attr : ByteArray) (d known : Int) (F : List S48) (hl : F.length ≤ 4398046511104) (n : Nat) : ∀ (i : Nat) (s : Int × Bool × Int × Int), i ≤ F.length → F.length - i = n →
  Ev (fun k => fact_At.l0 k who attr d known s.1 s.2.1 F (F.length : Int) (i : Int) s.2.2.1 s.2.2.2) (fin ((F.drop i).foldl (ste (hit who attr d known)) s)) := by
 induction n with
 | zero =>
  intro i s hi hn; obtain rfl : i = F.length := by omega
  rw [List.drop_length]; refine Ev.step (f := fun _ => some (fin s)) (fun k => ?_) (Ev.now _); simp only [fact_At.l0]; rw [if_neg (by omega)]; unfold fin; split <;> rfl
 | succ n ih =>
  intro i s hi hn; have hlt : i < F.length := by omega
  rw [drop_fact F i hlt, List.foldl_cons]; have skip : hit who attr d known (rd_T48 F (i : Int)) = false → ste (hit who attr d known) s (rd_T48 F (i : Int)) = s := fun h => by unfold ste; rw [if_neg (by rw [h]; decide)]
  have ih' := ih (i + 1); have hw := w64_succ hlt (by omega); by_cases h1 : (rd_T48 F (i : Int)).f0 = who
  ·by_cases h2 : (rd_T48 F (i : Int)).f1.toList = attr.toList
   ·by_cases h3 : (rd_T48 F (i : Int)).f5 > known
    ·rw [skip (by unfold hit; simp [h3])]; refine Ev.step (fun k => ?_) (ih' s (by omega) (by omega)); simp only [fact_At.l0]; rw [if_pos (by omega), if_pos (by omega), if_pos (by omega), if_pos h1, if_pos h2, if_pos h3, hw]
    ·by_cases h4 : d < (rd_T48 F (i : Int)).f3
     ·rw [skip (by unfold hit; simp [h4])]; refine Ev.step (fun k => ?_) (ih' s (by omega) (by omega)); simp only [fact_At.l0]; rw [if_pos (by omega), if_pos (by omega), if_pos (by omega), if_pos h1, if_pos h2, if_neg h3, if_pos h4, hw]
     ·by_cases h5 : d ≥ (rd_T48 F (i : Int)).f4
      ·rw [skip (by unfold hit; simp [h5])]; refine Ev.step (fun k => ?_) (ih' s (by omega) (by omega)); simp only [fact_At.l0]; rw [if_pos (by omega), if_pos (by omega), if_pos (by omega), if_pos h1, if_pos h2, if_neg h3, if_neg h4, if_pos h5, hw]
      ·have hh : hit who attr d known (rd_T48 F (i : Int)) = true := by unfold hit ofw; simp only [h1, h2]; simp; omega
       by_cases h6 : s.2.1 = true
       ·by_cases h7 : (rd_T48 F (i : Int)).f5 < s.1
        ·have e : ste (hit who attr d known) s (rd_T48 F (i : Int)) = s := by unfold ste; rw [if_pos hh, if_pos ⟨h6, h7⟩]
         rw [e]; refine Ev.step (fun k => ?_) (ih' s (by omega) (by omega)); simp only [fact_At.l0]; rw [if_pos (by omega), if_pos (by omega), if_pos (by omega), if_pos h1, if_pos h2, if_neg h3, if_neg h4, if_neg h5, if_pos h6, if_pos h7, hw]
        ·have e : ste (hit who attr d known) s (rd_T48 F (i : Int)) = ((rd_T48 F (i : Int)).f5, true, (rd_T48 F (i : Int)).f2.f0, (rd_T48 F (i : Int)).f2.f1) := by unfold ste; rw [if_pos hh, if_neg (fun h => h7 h.2)]
         rw [e]; refine Ev.step (fun k => ?_) (ih' _ (by omega) (by omega)); simp only [fact_At.l0]; rw [if_pos (by omega), if_pos (by omega), if_pos (by omega), if_pos h1, if_pos h2, if_neg h3, if_neg h4, if_neg h5, if_pos h6, if_neg h7, hw]
       ·have e : ste (hit who attr d known) s (rd_T48 F (i : Int)) = ((rd_T48 F (i : Int)).f5, true, (rd_T48 F (i : Int)).f2.f0, (rd_T48 F (i : Int)).f2.f1) := by unfold ste; rw [if_pos hh, if_neg (fun h => h6 h.1)]
        rw [e]; refine Ev.step (fun k => ?_) (ih' _ (by omega) (by omega)); simp only [fact_At.l0]; rw [if_pos (by omega), if_pos (by omega), if_pos (by omega), if_pos h1, if_pos h2, if_neg h3, if_neg h4, if_neg h5, if_neg h6, hw]
   ·rw [skip (by unfold hit ofw; simp [h2])]; refine Ev.step (fun k => ?_) (ih' s (by omega) (by omega)); simp only [fact_At.l0]; rw [if_pos (by omega), if_pos (by omega), if_pos (by omega), if_pos h1, if_neg h2, hw]
  ·rw [skip (by unfold hit ofw; simp [h1])]; refine Ev.step (fun k => ?_) (ih' s (by omega) (by omega)); simp only [fact_At.l0]; rw [if_pos (by omega), if_pos (by omega), if_pos (by omega), if_neg h1, hw]
theorem factAt_of (F : List S48) (who : Int) (attr : ByteArray) (d known : Int) (hl : F.length ≤ 4398046511104) : Ev (fun k => fact_At.f k F who attr d known) (atF F who attr d known) := by
 simp only [fact_At.f]; exact factAt_l0 who attr d known F hl _ 0 (0, false, 0, 0) (by omega) rfl
def days (l : List Int) : List Int := Lib.compact (l.mergeSort fun x y => decide (x ≤ y))
theorem days_len (l : List Int) : (days l).length ≤ l.length := by
 unfold days Lib.compact Lib.compactUpTo; rw [List.length_map]; refine Nat.le_trans (List.length_filter_le ..) ?_; rw [List.length_range, List.length_mergeSort]; exact Nat.le_refl _
theorem days_of (l : List Int) (h : l.length ≤ 1000000) : (slices_Sort_int_int.f l).bind (fun t => slices_Compact_int_int.f t) = some (days l) := by
 unfold slices_Sort_int_int.f slices_Compact_int_int.f; rw [if_pos h, Option.bind_some, if_pos (by rw [List.length_mergeSort]; exact h)]; rfl
def clamp (x : Int) : Int := mx 0 (mn x 1048576)
def endsOf (who : Int) (attr : ByteArray) : List S48 → List Int
 | [] => []
 | f :: F => if ofw who attr f = true then clamp f.f3 :: clamp f.f4 :: endsOf who attr F else endsOf who attr F
theorem endsOf_len (who : Int) (attr : ByteArray) (F : List S48) : (endsOf who attr F).length ≤ 2 * F.length := by
 induction F with
 | nil => simp [endsOf]
 | cons f F ih => unfold endsOf; split <;> simp <;> omega
theorem ends_l0 (who : Int) (attr : ByteArray) (known : Int) (F : List S48) (hl : F.length ≤ 1000) (r : List S73) (n : Nat) : ∀ (i : Nat) (acc : List Int), i ≤ F.length → F.length - i = n → acc.length ≤ 2 * i →
  Ev (fun k => fact_Line.l1 k F who attr known (days (acc ++ endsOf who attr (F.drop i))) [] 0) r → Ev (fun k => fact_Line.l0 k F who attr known acc F (F.length : Int) (i : Int)) r := by
 induction n with
 | zero =>
  intro i acc hi hn ha h; obtain rfl : i = F.length := by omega
  rw [List.drop_length, endsOf, List.append_nil] at h; refine Ev.step (fun k => ?_) h; simp only [fact_Line.l0]; rw [if_neg (by omega), ← Option.bind_assoc, days_of _ (by omega)]; rfl
 | succ n ih =>
  intro i acc hi hn ha h; have hlt : i < F.length := by omega
  rw [drop_fact F i hlt, endsOf] at h; have hw := w64_succ hlt (by omega); by_cases h1 : (rd_T48 F (i : Int)).f0 = who
  ·by_cases h2 : (rd_T48 F (i : Int)).f1.toList = attr.toList
   ·rw [if_pos (by unfold ofw; simp [h1, h2])] at h; refine Ev.step (fun k => ?_) (ih (i + 1) (acc ++ [clamp (rd_T48 F (i : Int)).f3, clamp (rd_T48 F (i : Int)).f4]) (by omega) (by omega) (by simp; omega) (by simpa using h)); simp only [fact_Line.l0]; rw [if_pos (by omega), if_pos (by omega), if_pos (by omega), if_pos h1, if_pos h2, Option.bind_some, if_pos (by simp; omega), hw]; rfl
   ·rw [if_neg (by unfold ofw; simp [h2])] at h; refine Ev.step (fun k => ?_) (ih (i + 1) acc (by omega) (by omega) (by omega) h); simp only [fact_Line.l0]; rw [if_pos (by omega), if_pos (by omega), if_pos (by omega), if_pos h1, if_neg h2, hw]
  ·rw [if_neg (by unfold ofw; simp [h1])] at h; refine Ev.step (fun k => ?_) (ih (i + 1) acc (by omega) (by omega) (by omega) h); simp only [fact_Line.l0]; rw [if_pos (by omega), if_pos (by omega), if_pos (by omega), if_neg h1, hw]
theorem gro_step (who : Int) (attr : ByteArray) (known : Int) (F : List S48) (E : List Int) (out : List S73) (i : Nat) (hi : i + 1 < E.length) (hE : E.length ≤ 2000) (hl : out.length ≤ 2000) (v : Int × Int) (hv : v.1 ≠ 0) (r : List S73)
  (hat : Ev (fun k => fact_At.f k F who attr (rd E (i : Int)) known) v) (h : Ev (fun k => fact_Line.l1 k F who attr known E (gro out (rd E (i : Int)) (rd E ((i + 1 : Nat) : Int)) v.1 v.2) ((i + 1 : Nat) : Int)) r) :
  Ev (fun k => fact_Line.l1 k F who attr known E out (i : Int)) r := by
 obtain ⟨a, b⟩ := v; have hw := w64_succ (i := i) (n := E.length) (by omega) (by omega); have hlw : wrap64 ((out.length : Int) - 1) = (out.length : Int) - 1 := w64 (by omega) (by omega); refine Ev.step (f := fun k => (fact_At.f k F who attr (rd E (i : Int)) known).bind fun bt171 => (if bt171.1 = 0 then (fact_Line.l1 k F who attr known E out ((i + 1 : Nat) : Int)) else (if (out.length : Int) - 1 ≥ 0 then (if 0 ≤ (out.length : Int) - 1 then (if (out.length : Int) - 1 < (out.length : Int) then (if ((rd_T73 out ((out.length : Int) - 1)).f1) = (rd E (i : Int)) then (fact_Line.j2 k F who attr known E out (i : Int) ((out.length : Int) - 1) (((rd_T73 out ((out.length : Int) - 1)).f2.f0) == bt171.1 && (((rd_T73 out ((out.length : Int) - 1)).f2.f1) == bt171.2)) (rd E (i : Int)) (rd E ((i + 1 : Nat) : Int)) bt171.1 bt171.2) else (fact_Line.j2 k F who attr known E out (i : Int) ((out.length : Int) - 1) false (rd E (i : Int)) (rd E ((i + 1 : Nat) : Int)) bt171.1 bt171.2)) else (none)) else (none)) else (fact_Line.j2 k F who attr known E out (i : Int) ((out.length : Int) - 1) false (rd E (i : Int)) (rd E ((i + 1 : Nat) : Int)) bt171.1 bt171.2)))) (fun k => ?_) ?_
 ·simp only [fact_Line.l1, hw, hlw]; rw [if_pos (by omega), if_pos (by omega), if_pos (by omega), if_pos (by omega)]
 refine Ev.bind hat (Ev.ifn hv ?_); have happ : gro out (rd E (i : Int)) (rd E ((i + 1 : Nat) : Int)) a b = out ++ [(⟨rd E (i : Int), rd E ((i + 1 : Nat) : Int), (⟨a, b⟩ : S46)⟩ : S73)] → ∀ q : Int, Ev (fun k => fact_Line.j2 k F who attr known E out (i : Int) q false (rd E (i : Int)) (rd E ((i + 1 : Nat) : Int)) a b) r := by
  intro e q; rw [e] at h; refine Ev.step (fun k => ?_) h; simp only [fact_Line.j2]; rw [if_neg (by decide), if_pos (by omega), hw]
 rcases List.eq_nil_or_concat out with rfl | ⟨l', p, rfl⟩
 ·exact Ev.ifn (by decide) (happ rfl _)
 ·simp only [List.concat_eq_append] at *; have hrd : rd_T73 (l' ++ [p]) (((l' ++ [p]).length : Int) - 1) = p := by
   have e : ((l' ++ [p]).length : Int) - 1 = ((l'.length : Nat) : Int) := by simp
   rw [e]; show (l' ++ [p]).getD l'.length z73 = p; rw [getD_app, if_neg (by omega), if_pos rfl]
  have hlen : (0 : Int) ≤ ((l' ++ [p]).length : Int) - 1 := by simp
  refine Ev.ifp (by omega) (Ev.ifp hlen (Ev.ifp (by omega) ?_)); rw [hrd]; by_cases h1 : p.f1 = rd E (i : Int)
  ·refine Ev.ifp h1 ?_; by_cases h2 : p.f2.f0 = a ∧ p.f2.f1 = b
   ·rw [show (p.f2.f0 == a && p.f2.f1 == b) = true from by simp [h2]]; have e : gro (l' ++ [p]) (rd E (i : Int)) (rd E ((i + 1 : Nat) : Int)) a b = l' ++ [(⟨p.f0, rd E ((i + 1 : Nat) : Int), (⟨p.f2.f0, p.f2.f1⟩ : S46)⟩ : S73)] := by unfold gro; simp [h1, h2.1, h2.2]
    rw [e] at h; refine Ev.step (fun k => ?_) h; simp only [fact_Line.j2]; rw [if_pos trivial, if_pos hlen, if_pos (by omega), hrd, hw]; congr 1; have e : (((l' ++ [p]).length : Int) - 1).toNat = l'.length := by simp
    rw [e]; simp
   ·rw [show (p.f2.f0 == a && p.f2.f1 == b) = false from by simp only [Bool.and_eq_false_iff, beq_eq_false_iff_ne]; exact (Classical.not_and_iff_not_or_not.1 h2)]; refine happ ?_ _; unfold gro; simp only [List.getLast?_append, List.getLast?_singleton, Option.some_or]; rw [if_neg (fun hh => h2 hh.2)]
  ·refine Ev.ifn h1 (happ ?_ _); unfold gro; simp only [List.getLast?_append, List.getLast?_singleton, Option.some_or]; rw [if_neg (fun hh => h1 hh.1)]
theorem gro_skip (who : Int) (attr : ByteArray) (known : Int) (F : List S48) (E : List Int) (out : List S73) (i : Nat) (hi : i + 1 < E.length) (hE : E.length ≤ 2000) (hl : out.length ≤ 2000) (b : Int) (r : List S73)
  (hat : Ev (fun k => fact_At.f k F who attr (rd E (i : Int)) known) (0, b)) (h : Ev (fun k => fact_Line.l1 k F who attr known E out ((i + 1 : Nat) : Int)) r) :
  Ev (fun k => fact_Line.l1 k F who attr known E out (i : Int)) r := by
 have hw := w64_succ (i := i) (n := E.length) (by omega) (by omega); have hlw : wrap64 ((out.length : Int) - 1) = (out.length : Int) - 1 := w64 (by omega) (by omega); refine Ev.step (f := fun k => (fact_At.f k F who attr (rd E (i : Int)) known).bind fun bt171 => (if bt171.1 = 0 then (fact_Line.l1 k F who attr known E out ((i + 1 : Nat) : Int)) else (if (out.length : Int) - 1 ≥ 0 then (if 0 ≤ (out.length : Int) - 1 then (if (out.length : Int) - 1 < (out.length : Int) then (if ((rd_T73 out ((out.length : Int) - 1)).f1) = (rd E (i : Int)) then (fact_Line.j2 k F who attr known E out (i : Int) ((out.length : Int) - 1) (((rd_T73 out ((out.length : Int) - 1)).f2.f0) == bt171.1 && (((rd_T73 out ((out.length : Int) - 1)).f2.f1) == bt171.2)) (rd E (i : Int)) (rd E ((i + 1 : Nat) : Int)) bt171.1 bt171.2) else (fact_Line.j2 k F who attr known E out (i : Int) ((out.length : Int) - 1) false (rd E (i : Int)) (rd E ((i + 1 : Nat) : Int)) bt171.1 bt171.2)) else (none)) else (none)) else (fact_Line.j2 k F who attr known E out (i : Int) ((out.length : Int) - 1) false (rd E (i : Int)) (rd E ((i + 1 : Nat) : Int)) bt171.1 bt171.2)))) (fun k => ?_) ?_
 ·simp only [fact_Line.l1, hw, hlw]; rw [if_pos (by omega), if_pos (by omega), if_pos (by omega), if_pos (by omega)]
 exact Ev.bind hat (Ev.ifp rfl h)
def lin (A : Int → Int × Int) (E : List Int) : Nat → List S73 → Nat → List S73
 | 0, out, _ => out
 | n + 1, out, i => lin A E n (if (A (rd E (i : Int))).1 = 0 then out else gro out (rd E (i : Int)) (rd E ((i + 1 : Nat) : Int)) (A (rd E (i : Int))).1 (A (rd E (i : Int))).2) (i + 1)
theorem gro_len (l : List S73) (f t kd n : Int) : (gro l f t kd n).length ≤ l.length + 1 := by
 unfold gro; rcases List.eq_nil_or_concat l with rfl | ⟨l', p, rfl⟩
 ·simp
 ·simp only [List.concat_eq_append, List.getLast?_append, List.getLast?_singleton, Option.some_or]; split <;> simp
theorem lin_l1 (who : Int) (attr : ByteArray) (known : Int) (F : List S48) (hl : F.length ≤ 500) (E : List Int) (hE : E.length ≤ 1000) (n : Nat) : ∀ (i : Nat) (out : List S73), i < E.length → E.length - 1 - i = n → out.length ≤ i →
  Ev (fun k => fact_Line.l1 k F who attr known E out (i : Int)) (lin (fun d => atF F who attr d known) E n out i) := by
 induction n with
 | zero =>
  intro i out hi hn hlen; refine Ev.step (f := fun _ => some out) (fun k => ?_) (Ev.now _); simp only [fact_Line.l1]; rw [w64_succ hi (by omega), if_neg (by omega)]
 | succ n ih =>
  intro i out hi hn hlen; have hi1 : i + 1 < E.length := by omega
  have hA := factAt_of F who attr (rd E (i : Int)) known (by omega); obtain ⟨v, hv⟩ : ∃ v, v = atF F who attr (rd E (i : Int)) known := ⟨_, rfl⟩; simp only [lin, ← hv]; rw [← hv] at hA; obtain ⟨a, b⟩ := v; by_cases ha : a = 0
  ·subst ha; rw [if_pos rfl]; exact gro_skip who attr known F E out i hi1 (by omega) (by omega) _ _ hA (ih (i + 1) out hi1 (by omega) (by omega))
  ·rw [if_neg ha]; have hgl := gro_len out (rd E (i : Int)) (rd E ((i + 1 : Nat) : Int)) a b; exact gro_step who attr known F E out i hi1 (by omega) (by omega) (a, b) ha _ hA (ih (i + 1) (gro out (rd E (i : Int)) (rd E ((i + 1 : Nat) : Int)) a b) hi1 (by omega) (by omega))
theorem line_lin (who : Int) (attr : ByteArray) (known : Int) (F : List S48) (hl : F.length ≤ 500) : Ev (fun k => fact_Line.f k F who attr known) (lin (fun d => atF F who attr d known) (days (endsOf who attr F)) ((days (endsOf who attr F)).length - 1) [] 0) := by
 have hlen := days_len (endsOf who attr F); have hlen2 := endsOf_len who attr F; simp only [fact_Line.f]; refine ends_l0 who attr known F (by omega) _ _ 0 [] (by omega) rfl (by simp) ?_; rw [List.drop_zero, List.nil_append]; obtain ⟨E, hE⟩ : ∃ E, E = days (endsOf who attr F) := ⟨_, rfl⟩; rw [← hE] at hlen ⊢; by_cases h0 : E.length = 0
 ·rw [h0]; refine Ev.step (f := fun _ => some []) (fun k => ?_) (Ev.now _); simp only [fact_Line.l1]; rw [show wrap64 ((0 : Int) + 1) = 1 from by rw [w64 (by omega) (by omega)]; rfl, if_neg (by omega)]
 ·exact lin_l1 who attr known F hl E (by omega) _ 0 [] (by omega) rfl (by simp)
theorem lin_len (A : Int → Int × Int) (E : List Int) (n : Nat) : ∀ (out : List S73) (i : Nat), (lin A E n out i).length ≤ out.length + n := by
 induction n with
 | zero => intro out i; simp [lin]
 | succ n ih =>
  intro out i; simp only [lin]; refine Nat.le_trans (ih _ _) ?_; split
  ·omega
  ·have := gro_len out (rd E (i : Int)) (rd E ((i + 1 : Nat) : Int)) (A (rd E (i : Int))).1 (A (rd E (i : Int))).2; omega
theorem endsOf_append (who : Int) (attr : ByteArray) (A B : List S48) : endsOf who attr (A ++ B) = endsOf who attr A ++ endsOf who attr B := by
 induction A with
 | nil => rfl
 | cons f A ih =>
  simp only [List.cons_append, endsOf]; split
  ·rw [ih]; rfl
  ·exact ih
theorem days_perm {l m : List Int} (h : l.Perm m) : days l = days m := by
 unfold days; congr 1; have srt : ∀ k : List Int, (k.mergeSort fun x y => decide (x ≤ y)).Pairwise (fun x y => x ≤ y) := fun k =>
  (List.pairwise_mergeSort (le := fun x y : Int => decide (x ≤ y)) (fun a b c h1 h2 => by simp at *; omega) (fun a b => by simp; omega) k).imp (fun h => by simpa using h)
 exact List.Perm.eq_of_pairwise (le := fun x y : Int => x ≤ y) (fun a b _ _ h1 h2 => Int.le_antisymm h1 h2) (srt l) (srt m) ((List.mergeSort_perm l _).trans (h.trans (List.mergeSort_perm m _).symm))
theorem spans_same (x : List S73) (hl : x.length ≤ 100000) : Ev (fun k => fact_Span.f k x x) true := by
 have h : ∀ (n i : Nat), i ≤ x.length → x.length - i = n → Ev (fun k => fact_Span.l0 k x x (x.length : Int) (i : Int)) true := by
  intro n; induction n with
  | zero =>
   intro i hi hn; exact Ev.step (fun k => by rw [fact_Span.l0]) (Ev.ifn (by omega) (Ev.now _))
  | succ n ih =>
   intro i hi hn; refine Ev.step (fun k => by rw [fact_Span.l0]) (Ev.ifp (by omega) (Ev.ifp (by omega) (Ev.ifp (by omega) (Ev.ifp (by omega) (Ev.ifn (by simp) ?_))))); rw [w64_succ (i := i) (n := x.length) (by omega) (by omega)]; exact ih (i + 1) (by omega) (by omega)
 simp only [fact_Span.f]; exact Ev.ifp trivial (h _ 0 (by omega) rfl)
theorem attrs_of {s : ByteArray} (h : ∃ i : Int, 0 ≤ i ∧ i < 5 ∧ s = ⟨#[105, 110, 45]⟩ ++ Go.Utf8.encode (97 + i)) : s = ⟨#[105, 110, 45, 97]⟩ ∨ s = ⟨#[105, 110, 45, 98]⟩ ∨ s = ⟨#[105, 110, 45, 99]⟩ ∨ s = ⟨#[105, 110, 45, 100]⟩ ∨ s = ⟨#[105, 110, 45, 101]⟩ := by
 obtain ⟨i, h0, h1, rfl⟩ := h; rcases (show i = 0 ∨ i = 1 ∨ i = 2 ∨ i = 3 ∨ i = 4 by omega) with rfl | rfl | rfl | rfl | rfl
 ·exact .inl (by decide +kernel)
 ·exact .inr (.inl (by decide +kernel))
 ·exact .inr (.inr (.inl (by decide +kernel)))
 ·exact .inr (.inr (.inr (.inl (by decide +kernel))))
 ·exact .inr (.inr (.inr (.inr (by decide +kernel))))
theorem bname_of {s : ByteArray} (h : ∃ i : Int, 0 ≤ i ∧ i < 5 ∧ s = ⟨#[105, 110, 45]⟩ ++ Go.Utf8.encode (97 + i)) : fact_Name.f s = some true := by
 rcases attrs_of h with rfl | rfl | rfl | rfl | rfl <;> decide +kernel
theorem attr_ne {s : ByteArray} (h : ∃ i : Int, 0 ≤ i ∧ i < 5 ∧ s = ⟨#[105, 110, 45]⟩ ++ Go.Utf8.encode (97 + i)) : ∀ b ∈ s.data.toList, b ≠ 32 := by
 rcases attrs_of h with rfl | rfl | rfl | rfl | rfl <;> (intro b hb; revert b; decide)
theorem attr_len {s : ByteArray} (h : ∃ i : Int, 0 ≤ i ∧ i < 5 ∧ s = ⟨#[105, 110, 45]⟩ ++ Go.Utf8.encode (97 + i)) : s.data.toList.length = 4 := by
 rcases attrs_of h with rfl | rfl | rfl | rfl | rfl <;> rfl
theorem val_of {c x : Int} (h : (c = 0 ∧ x = 0) ∨ VOk c x) : unit_Check.f c x = some 0 ∧ ∃ A, Reads c x A := by
 rcases h with ⟨rfl, rfl⟩ | ⟨rfl, h⟩ | ⟨rfl, h⟩ | ⟨rfl, h⟩ | ⟨rfl, h⟩ | ⟨rfl, h⟩ | ⟨rfl, h⟩
 ·exact ⟨(check_of ⟨0, 0, rfl, by omega, by omega⟩ (by omega) (by omega)).1, reads0⟩
 ·exact ⟨(check_of ⟨0, 1, rfl, by omega, by omega⟩ (by omega) (by omega)).1, reads1 (by omega)⟩
 ·exact ⟨(check_of ⟨uLo 2, uHi 2, rfl, by have : uLo 2 ≤ -5000 := (by decide); omega, by have : (200000 : Int) ≤ uHi 2 := (by decide); omega⟩ (by omega) (by omega)).1, reads2 (by have : uLo 2 ≤ -5000 := (by decide); omega) (by have : (200000 : Int) ≤ uHi 2 := (by decide); omega)⟩
 ·exact ⟨(check_of ⟨-1048576, 1048576, rfl, by omega, by omega⟩ (by omega) (by omega)).1, reads35 (.inl rfl) (by omega) (by omega)⟩
 ·exact ⟨(check_of ⟨0, 1048575, rfl, by omega, by omega⟩ (by omega) (by omega)).1, reads4 (by omega) (by omega)⟩
 ·exact ⟨(check_of ⟨-1048576, 1048576, rfl, by omega, by omega⟩ (by omega) (by omega)).1, reads35 (.inr rfl) (by omega) (by omega)⟩
 ·exact ⟨(check_of ⟨uLo 6, uHi 6, rfl, by have : uLo 6 ≤ 0 := (by decide); omega, by have : (1000000 : Int) ≤ uHi 6 := (by decide); omega⟩ (by omega) (by omega)).1, reads6 (by have : uLo 6 ≤ 0 := (by decide); omega) (by have : (1000000 : Int) ≤ uHi 6 := (by decide); omega)⟩
theorem bone_of {f : S48} (h : FOk f) : Ev (fun k => fact_One.f k f.f0 f.f1 f.f2.f0 f.f2.f1 f.f3 f.f4 f.f5) 0 := by
 have := h.from0; have := h.from1; have := h.to0; have := h.to1; have := h.known0; have := h.known1; have hu := (val_of h.val).1; simp only [fact_One.f]; rw [bname_of h.attr, hu]; simp only [Option.bind_some]; refine Ev.ifn (by have := h.who; omega) (Ev.ifp trivial (Ev.ifp trivial (Ev.ifn (by omega) (Ev.ifn (by omega) ?_)))); refine Ev.step (f := fun _ => some 0) (fun k => ?_) (Ev.now _); simp only [fact_One.j0]; rw [if_neg (by simp; omega), if_neg (by omega), if_neg (by omega)]
def dec (n : Int) : List UInt8 := Go.Lib.decDigits n.natAbs
theorem dec_digs (n : Int) : Digs (dec n) := digs_dec _
theorem itoa_nn {n : Int} (h0 : 0 ≤ n) (h1 : n ≤ 1000000) : strconv_Itoa.f n = some (bs (dec n)) := by
 rw [itoa_of (by omega) (by omega), show sgn n = [] from by unfold sgn; rw [if_neg (by omega)]]; rfl
theorem dec_len {n : Int} (h0 : 0 ≤ n) (h1 : n ≤ 1000000) : (dec n).length ≤ 7 := dec_len_le (k := 6) (by omega)
theorem dec_atoi {n : Int} (h0 : 0 ≤ n) (h1 : n ≤ 1000000) : strconv_Atoi.f (bs (dec n)) = some (n, none) := by
 have := dec_len h0 h1; refine atoi_of (by omega) ?_; rw [atoi_digs (dec_digs n) (dec_ne _) (decFrom_dec _)]; congr 1; omega
def btext (f : S48) (A : List UInt8) : List UInt8 := dec f.f5 ++ 32 :: (dec f.f0 ++ 32 :: (f.f1.data.toList ++ 32 :: (dec f.f3 ++ 32 :: (dec f.f4 ++ 32 :: A))))
theorem join6 (a b c d e g : List UInt8) : Go.Lib.join [a, b, c, d, e, g] [32] = a ++ 32 :: (b ++ 32 :: (c ++ 32 :: (d ++ 32 :: (e ++ 32 :: g)))) := by
 simp [Go.Lib.join, List.intercalate, List.intersperse]
theorem bjoin {a b c d e g : List UInt8} (h : a.length + b.length + c.length + d.length + e.length + g.length ≤ 1000) : strings_Join.f ([bs a, bs b, bs c, bs d, bs e, bs g] : List ByteArray) (⟨#[32]⟩ : ByteArray) = some (bs (a ++ 32 :: (b ++ 32 :: (c ++ 32 :: (d ++ 32 :: (e ++ 32 :: g)))))) := by
 have hj := join6 a b c d e g; have e1 : ([bs a, bs b, bs c, bs d, bs e, bs g] : List ByteArray).map (·.data.toList) = [a, b, c, d, e, g] := rfl; have e2 : (⟨#[32]⟩ : ByteArray).data.toList = [32] := rfl; unfold strings_Join.f; rw [e1, e2, hj, if_pos ⟨by simp, by simp, by simp only [List.length_append, List.length_cons]; omega⟩]; rfl
theorem split_step {A B : List UInt8} {c : UInt8} (k : Nat) (h : ∀ b ∈ A, b ≠ c) : Go.Lib.splitB (bs [c]) 0 (k + 1) (bs (A ++ c :: B)) = bs A :: Go.Lib.splitB (bs [c]) 0 k (bs B) := by
 rw [Go.Lib.splitB_hit (bs [c]) 0 k _ A.length (by rw [indexB_bs, index_skip h])]; rw [bs_extract, bs_extract, bs_size, bs_size]; congr 2
 ·simp
 ·rw [List.take_of_length_le (Nat.le_refl _), show A ++ c :: B = (A ++ [c]) ++ B by simp, List.drop_append_of_le_length (by simp)]; congr 1; simp
theorem bsplit {f : S48} (h : FOk f) {A : List UInt8} (hA : A.length ≤ 40) : strings_SplitN.f (bs (btext f A)) (⟨#[32]⟩ : ByteArray) 6 = some [bs (dec f.f5), bs (dec f.f0), f.f1, bs (dec f.f3), bs (dec f.f4), bs A] := by
 have := h.from0; have := h.from1; have := h.to0; have := h.to1; have := h.known0; have := h.known1; have hw := h.who; have ha := attr_len h.attr; have l1 := dec_len (n := f.f5) (by omega) (by omega); have l2 := dec_len (n := f.f0) (by omega) (by omega); have l3 := dec_len (n := f.f3) (by omega) (by omega); have l4 := dec_len (n := f.f4) (by omega) (by omega); have m1 := dec_len_pos f.f5.natAbs; have hl : (btext f A).length ≤ 100 ∧ 5 ≤ (btext f A).length := by unfold btext; simp only [List.length_append, List.length_cons]; omega
 unfold strings_SplitN.f; rw [if_pos ⟨by rw [bs_size]; omega, by decide, by omega, by omega⟩, bs_size, show min (6 : Int).toNat ((btext f A).length + 1) - 1 = 0 + 1 + 1 + 1 + 1 + 1 from by have : (6 : Int).toNat = 6 := rfl; omega]; have n1 : ∀ n, ∀ b ∈ dec n, b ≠ 32 := fun n => ne_of_digs (dec_digs n) (by decide); unfold btext; rw [show (⟨#[32]⟩ : ByteArray) = bs [32] from rfl, split_step _ (n1 _), split_step _ (n1 _), split_step _ (attr_ne h.attr), split_step _ (n1 _), split_step _ (n1 _), Go.Lib.splitB_zero, ← bs_of f.f1]
structure TextOf (f : S48) (t : ByteArray) : Prop where
 len : t.size ≤ 300
 text : Ev (fun k => book_Text.f k f.f0 f.f1 f.f2.f0 f.f2.f1 f.f3 f.f4 f.f5) (t, 0)
 read : Ev (fun k => book_Read.f k t) (f.f0, f.f1, f.f2.f0, f.f2.f1, f.f3, f.f4, f.f5, 0)
theorem textOf {f : S48} (h : FOk f) : ∃ t, TextOf f t := by
 have := h.from0; have := h.from1; have := h.to0; have := h.to1; have := h.known0; have := h.known1; have hw := h.who; have ha := attr_len h.attr; obtain ⟨hck, A, hA⟩ := val_of h.val; have l0 := hA.len; have l1 := dec_len (n := f.f5) (by omega) (by omega); have l2 := dec_len (n := f.f0) (by omega) (by omega); have l3 := dec_len (n := f.f3) (by omega) (by omega); have l4 := dec_len (n := f.f4) (by omega) (by omega); have hl : (btext f A).length ≤ 100 := by unfold btext; simp only [List.length_append, List.length_cons]; omega
 have ht : Ev (fun k => book_Text.f k f.f0 f.f1 f.f2.f0 f.f2.f1 f.f3 f.f4 f.f5) (bs (btext f A), 0) := by
  simp only [book_Text.f]; refine Ev.bind (bone_of h) (Ev.ifp rfl ?_); rw [itoa_nn (n := f.f5) (by omega) (by omega), itoa_nn (n := f.f0) (by omega) (by omega), itoa_nn (n := f.f3) (by omega) (by omega), itoa_nn (n := f.f4) (by omega) (by omega)]; simp only [Option.bind_some]; refine Ev.bind hA.text ?_; have hj := bjoin (a := dec f.f5) (b := dec f.f0) (c := f.f1.data.toList) (d := dec f.f3) (e := dec f.f4) (g := A) (by omega); rw [← bs_of f.f1] at hj; rw [hj]; exact Ev.now _
 refine ⟨bs (btext f A), by rw [bs_size]; omega, ht, ?_⟩; simp only [book_Read.f]; rw [bsplit h (by omega)]; simp only [Option.bind_some]; obtain ⟨P1, hP1⟩ : ∃ P, P = bs (dec f.f5) := ⟨_, rfl⟩; obtain ⟨P2, hP2⟩ : ∃ P, P = bs (dec f.f0) := ⟨_, rfl⟩; obtain ⟨P3, hP3⟩ : ∃ P, P = bs (dec f.f3) := ⟨_, rfl⟩; obtain ⟨P4, hP4⟩ : ∃ P, P = bs (dec f.f4) := ⟨_, rfl⟩; have e1 := dec_atoi (n := f.f5) (by omega) (by omega); have e2 := dec_atoi (n := f.f0) (by omega) (by omega); have e3 := dec_atoi (n := f.f3) (by omega) (by omega); have e4 := dec_atoi (n := f.f4) (by omega) (by omega); rw [← hP1] at e1; rw [← hP2] at e2; rw [← hP3] at e3; rw [← hP4] at e4; rw [← hP1, ← hP2, ← hP3, ← hP4]; obtain ⟨PA, hPA⟩ : ∃ P, P = bs A := ⟨_, rfl⟩; have er := read_of hA hck; rw [← hPA] at er ⊢; obtain ⟨TT, hTT⟩ : ∃ P, P = bs (btext f A) := ⟨_, rfl⟩; rw [← hTT] at ht ⊢; obtain ⟨L, hLL⟩ : ∃ L, L = [P1, P2, f.f1, P3, P4, PA] := ⟨_, rfl⟩; have hL6 : (L.length : Int) = 6 := by rw [hLL]; rfl
 have a2 : rdOf ByteArray.empty L 2 = f.f1 := by rw [hLL]; rfl
 have a5 : rdOf ByteArray.empty L 5 = PA := by rw [hLL]; rfl
 have a0 : rdOf ByteArray.empty L 0 = P1 := by rw [hLL]; rfl
 have a1 : rdOf ByteArray.empty L 1 = P2 := by rw [hLL]; rfl
 have a3 : rdOf ByteArray.empty L 3 = P3 := by rw [hLL]; rfl
 have a4 : rdOf ByteArray.empty L 4 = P4 := by rw [hLL]; rfl
 rw [← hLL]; rw [a0, a1, a3, a4]; refine Ev.ifn (by omega) (Ev.ifp (by omega) (Ev.ifp (by omega) (Ev.ifp (by omega) (Ev.ifp (by omega) (Ev.ifp (by omega) ?_))))); show Ev (fun k => book_Read.l0 k TT L [0, 0, 0, 0] [P1, P2, P3, P4] 4 0) _; have g0 : strconv_Atoi.f (rdOf ByteArray.empty [P1, P2, P3, P4] 0) = some (f.f5, none) := e1; have g1 : strconv_Atoi.f (rdOf ByteArray.empty [P1, P2, P3, P4] 1) = some (f.f0, none) := e2; have g2 : strconv_Atoi.f (rdOf ByteArray.empty [P1, P2, P3, P4] 2) = some (f.f3, none) := e3; have g3 : strconv_Atoi.f (rdOf ByteArray.empty [P1, P2, P3, P4] 3) = some (f.f4, none) := e4; have hn : (none : Option Int).isNone = true := rfl; refine Ev.step (f := fun k => book_Read.l0 k TT L [f.f5, 0, 0, 0] [P1, P2, P3, P4] 4 1) (fun k => ?_) ?_
 ·simp only [book_Read.l0]; rw [if_pos (by omega), if_pos (by omega), if_pos (by simp), g0]; simp only [Option.bind_some]; rw [if_pos hn, if_pos (by simp), w64 (by omega) (by omega)]; rfl
 refine Ev.step (f := fun k => book_Read.l0 k TT L [f.f5, f.f0, 0, 0] [P1, P2, P3, P4] 4 2) (fun k => ?_) ?_
 ·simp only [book_Read.l0]; rw [if_pos (by omega), if_pos (by omega), if_pos (by simp), g1]; simp only [Option.bind_some]; rw [if_pos hn, if_pos (by simp), w64 (by omega) (by omega)]; rfl
 refine Ev.step (f := fun k => book_Read.l0 k TT L [f.f5, f.f0, f.f3, 0] [P1, P2, P3, P4] 4 3) (fun k => ?_) ?_
 ·simp only [book_Read.l0]; rw [if_pos (by omega), if_pos (by omega), if_pos (by simp), g2]; simp only [Option.bind_some]; rw [if_pos hn, if_pos (by simp), w64 (by omega) (by omega)]; rfl
 refine Ev.step (f := fun k => book_Read.l0 k TT L [f.f5, f.f0, f.f3, f.f4] [P1, P2, P3, P4] 4 4) (fun k => ?_) ?_
 ·simp only [book_Read.l0]; rw [if_pos (by omega), if_pos (by omega), if_pos (by simp), g3]; simp only [Option.bind_some]; rw [if_pos hn, if_pos (by simp), w64 (by omega) (by omega)]; rfl
 have r0 : rd [f.f5, f.f0, f.f3, f.f4] 0 = f.f5 := rfl; have r1 : rd [f.f5, f.f0, f.f3, f.f4] 1 = f.f0 := rfl; have r2 : rd [f.f5, f.f0, f.f3, f.f4] 2 = f.f3 := rfl; have r3 : rd [f.f5, f.f0, f.f3, f.f4] 3 = f.f4 := rfl; refine Ev.step (f := fun k => (unit_Read.f k PA).bind fun bt => if bt.2.2 = 0 then ((book_Text.f k f.f0 f.f1 bt.1 bt.2.1 f.f3 f.f4 f.f5).bind fun bt' => (if bt'.2 = 0 then (if bt'.1.toList = TT.toList then (some (f.f0, f.f1, bt.1, bt.2.1, f.f3, f.f4, f.f5, 0)) else none) else none)) else none) (fun k => ?_) ?_
 ·simp only [book_Read.l0]; rw [if_neg (by omega), if_pos (by omega), a5]; congr 1; funext bt; rw [if_pos (by simp), if_pos (by simp), if_pos (by omega), if_pos (by simp), if_pos (by simp), r0, r1, r2, r3, a2]
 refine Ev.bind er (Ev.ifp rfl (Ev.bind ht (Ev.ifp rfl (Ev.ifp rfl (Ev.now _)))))
theorem dig_of (s : Int) {t : ByteArray} (h : t.size ≤ 300) : ∃ d, book_Digest.f s t = some d := by
 unfold book_Digest.f; rw [if_pos (by omega)]; exact ⟨_, rfl⟩
inductive Chain : Int → Int → List S48 → List S33 → Int → Int → Prop
 | nil (s x : Int) : Chain s x [] [] s x
 | cons (s x : Int) (f : S48) (t : ByteArray) (d : Int) (fs : List S48) (es : List S33) (s' x' : Int) : FOk f → x ≤ f.f5 → TextOf f t → book_Digest.f s t = some d → Chain d f.f5 fs es s' x' → Chain s x (f :: fs) (⟨t, d⟩ :: es) s' x'
theorem Chain.len {s x s' x' : Int} {fs : List S48} {es : List S33} (h : Chain s x fs es s' x') : es.length = fs.length := by
 induction h with
 | nil => rfl
 | cons _ _ _ _ _ _ _ _ _ _ _ _ _ _ ih => simp [ih]
theorem Chain.snoc {s x s' x' : Int} {fs : List S48} {es : List S33} (h : Chain s x fs es s' x') {f : S48} {t : ByteArray} {d : Int} (hg : FOk f) (hx : x' ≤ f.f5) (ht : TextOf f t) (hd : book_Digest.f s' t = some d) : Chain s x (fs ++ [f]) (es ++ [⟨t, d⟩]) d f.f5 := by
 induction h with
 | nil s x => exact .cons _ _ _ _ _ _ _ _ _ hg hx ht hd (.nil _ _)
 | cons s x f' t' d' fs' es' s' x' h1 h2 h3 h4 _ ih => exact .cons _ _ _ _ _ _ _ _ _ h1 h2 h3 h4 (ih hx hd)
theorem Chain.last {s x s' x' : Int} {fs : List S48} {es : List S33} (h : Chain s x fs es s' x') : (es = [] ∧ s' = s ∧ x' = x) ∨ ∃ es0 t f, es = es0 ++ [⟨t, s'⟩] ∧ TextOf f t ∧ f.f5 = x' := by
 induction h with
 | nil s x => exact .inl ⟨rfl, rfl, rfl⟩
 | cons s x f t d fs es s' x' h1 h2 h3 h4 _ ih =>
  rcases ih with ⟨rfl, rfl, rfl⟩ | ⟨es0, t', f', rfl, h5, h6⟩
  ·exact .inr ⟨[], t, f, rfl, h3, rfl⟩
  ·exact .inr ⟨⟨t, d⟩ :: es0, t', f', rfl, h5, h6⟩
theorem drop_ent (l : List S33) (i : Nat) (h : i < l.length) : l.drop i = rd_T33 l (i : Int) :: l.drop (i + 1) := by
 rw [List.drop_eq_getElem_cons h]; unfold rd_T33; simp [List.getD, h]
theorem check_l0 (l : List S33) (hl : l.length ≤ 500) (n : Nat) : ∀ (i : Nat) (s x s' x' : Int) (fs : List S48), l.length - i = n → i ≤ l.length → Chain s x fs (l.drop i) s' x' → Ev (fun k => book_Check.l0 k s x l (l.length : Int) (i : Int)) (0, 0) := by
 induction n with
 | zero =>
  intro i s x s' x' fs hn hi h; refine Ev.step (f := fun _ => some (0, 0)) (fun k => ?_) (Ev.now _); simp only [book_Check.l0]; rw [if_neg (by omega)]
 | succ n ih =>
  intro i s x s' x' fs hn hi h; have hlt : i < l.length := by omega
  obtain ⟨e, he0⟩ : ∃ e, e = rd_T33 l (i : Int) := ⟨_, rfl⟩; rw [drop_ent l i hlt, ← he0] at h
  cases h with
  | cons _ _ f t d fs' _ _ _ h1 h2 h3 h4 h5 =>
   have he := he0; have ih' := ih (i + 1) d f.f5 s' x' fs' (by omega) (by omega) h5; refine Ev.step (f := fun k => (book_Read.f k t).bind fun bt => (if bt.2.2.2.2.2.2.2 = 0 then (if bt.2.2.2.2.2.2.1 < x then none else ((book_Digest.f s t).bind fun t251 => (if t251 = d then (book_Check.l0 k d bt.2.2.2.2.2.2.1 l (l.length : Int) ((i + 1 : Nat) : Int)) else none))) else none)) (fun k => ?_) ?_
   ·simp only [book_Check.l0]; rw [if_pos (by omega), if_pos (by omega), if_pos (by omega), ← he, w64_succ hlt (by omega)]
   ·refine Ev.bind h3.read (Ev.ifp rfl (Ev.ifn (by show ¬ f.f5 < x; omega) ?_)); rw [h4]; simp only [Option.bind_some]; exact Ev.ifp trivial ih'
theorem bcheck_of {l : List S33} {s' x' : Int} {fs : List S48} (hl : l.length ≤ 500) (h : Chain 0 0 fs l s' x') : Ev (fun k => book_Check.f k l) (0, 0) := by
 simp only [book_Check.f]; refine Ev.ifn (by omega) ?_; exact check_l0 l hl _ 0 0 0 s' x' fs rfl (by omega) h
theorem rd_last (es0 : List S33) (e : S33) : rd_T33 (es0 ++ [e]) (es0.length : Int) = e := by
 unfold rd_T33; simp [List.getD]
theorem add_of {l : List S33} {s' x' : Int} {fs : List S48} (hl : l.length ≤ 100) (h : Chain 0 0 fs l s' x') {f : S48} {t : ByteArray} {d : Int} (hx : x' ≤ f.f5) (ht : TextOf f t) (hd : book_Digest.f s' t = some d) :
  Ev (fun k => book_Add.f k l f.f0 f.f1 f.f2.f0 f.f2.f1 f.f3 f.f4 f.f5) (l ++ [⟨t, d⟩], 0) := by
 simp only [book_Add.f]; refine Ev.bind (bcheck_of (by omega) h) (Ev.ifp rfl (Ev.bind ht.text (Ev.ifp rfl (Ev.ifn (by omega) ?_)))); rcases h.last with ⟨rfl, rfl, rfl⟩ | ⟨es0, t0, f0, rfl, h5, h6⟩
 ·refine Ev.ifn (by simp) ?_; simp only [Option.bind_some]; refine Ev.ifp (by simp) ?_; rw [hd]; simp only [Option.bind_some]; exact Ev.ifp (by simp) (Ev.to rfl)
 ·have hlen : ((es0 ++ [(⟨t0, s'⟩ : S33)]).length : Int) - 1 = (es0.length : Int) := by simp
  have hln : (es0 ++ [(⟨t0, s'⟩ : S33)]).length = es0.length + 1 := by simp
  refine Ev.ifp (by omega) ?_; rw [w64 (x := ((es0 ++ [(⟨t0, s'⟩ : S33)]).length : Int) - 1) (by omega) (by omega), hlen, rd_last]; refine Ev.ifp (by omega) (Ev.ifp (by omega) (Ev.bind h5.read (Ev.ifn (by show ¬ f.f5 < f0.f5; omega) ?_))); simp only [Option.bind_some]; refine Ev.ifp (by simp; omega) ?_; rw [hd]; simp only [Option.bind_some]; exact Ev.ifp (by simp; omega) (Ev.to (by simp))
def Rising (x : Int) : List S48 → Prop
 | [] => True
 | f :: r => x ≤ f.f5 ∧ Rising f.f5 r
theorem lm_id {n : Int} (h0 : 0 ≤ n) (h1 : n ≤ 1048576) : fact_Stable.lm n = n := by unfold fact_Stable.lm mx mn; (repeat' split) <;> omega
theorem ste_comm (h : S48 → Bool) (s : Int × Bool × Int × Int) (x y : S48) (hl : y.f5 < x.f5) : ste h (ste h s x) y = ste h (ste h s y) x := by
 obtain ⟨a, b, c, d⟩ := s; unfold ste
 cases hx : h x <;> cases hy : h y <;> cases b <;> simp <;> (try (repeat' split)) <;> (try simp_all) <;> (try omega)
theorem at_swap (L1 L2 : List S48) (x y : S48) (hl : y.f5 < x.f5) (who : Int) (attr : ByteArray) (d known : Int) : atF (L1 ++ y :: x :: L2) who attr d known = atF (L1 ++ x :: y :: L2) who attr d known := by
 unfold atF; rw [List.foldl_append, List.foldl_append, List.foldl_cons, List.foldl_cons, List.foldl_cons, List.foldl_cons, ste_comm _ _ x y hl]
theorem swp_list (d : Array S48) (j : Nat) (hj : j + 1 < d.size) : ∃ L1 L2, d.toList = L1 ++ d[j]! :: d[j + 1]! :: L2 ∧ (Go.Sort.swp d (j + 1) j).toList = L1 ++ d[j + 1]! :: d[j]! :: L2 := by
 refine ⟨d.toList.take j, d.toList.drop (j + 2), ?_, ?_⟩
 ·rw [getElem!_pos d j (by omega), getElem!_pos d (j + 1) hj]; rw [show d[j] = d.toList[j]'(by simpa using (by omega : j < d.size)) from by simp, show d[j + 1] = d.toList[j + 1]'(by simpa using hj) from by simp]; rw [← List.drop_eq_getElem_cons, ← List.drop_eq_getElem_cons, List.take_append_drop]
 ·unfold Go.Sort.swp; rw [getElem!_pos d j (by omega), getElem!_pos d (j + 1) hj]; apply List.ext_getElem?; intro i; rw [Array.getElem?_toList]; rcases Nat.lt_trichotomy i j with h | h | h
  ·rw [Array.getElem?_setIfInBounds_ne (by omega), Array.getElem?_setIfInBounds_ne (by omega), List.getElem?_append_left (by simp; omega), List.getElem?_take_of_lt h, Array.getElem?_toList]
  ·subst h; rw [Array.getElem?_setIfInBounds_self_of_lt (by simp; omega), List.getElem?_append_right (by rw [List.length_take]; exact Nat.min_le_left _ _), List.length_take, show i - min i d.toList.length = 0 from by rw [Array.length_toList]; omega]; rfl
  ·rw [Array.getElem?_setIfInBounds_ne (by omega), List.getElem?_append_right (by simp; omega), List.length_take, show min j d.toList.length = j from by rw [Array.length_toList]; omega]; by_cases h2 : i = j + 1
   ·subst h2; rw [Array.getElem?_setIfInBounds_self_of_lt (by omega), show j + 1 - j = 1 by omega]; rfl
   ·rw [Array.getElem?_setIfInBounds_ne (by omega), show i - j = (i - (j + 2)) + 1 + 1 by omega, List.getElem?_cons_succ, List.getElem?_cons_succ, List.getElem?_drop, show j + 2 + (i - (j + 2)) = i by omega, Array.getElem?_toList]
def Alike (F G : List S48) : Prop := (∀ who attr d known, atF G who attr d known = atF F who attr d known) ∧ G.Perm F
theorem Alike.refl (F : List S48) : Alike F F := ⟨fun _ _ _ _ => rfl, List.Perm.refl _⟩
theorem Alike.trans {F G K : List S48} (h : Alike F G) (k : Alike G K) : Alike F K := ⟨fun a b c d => (k.1 a b c d).trans (h.1 a b c d), k.2.trans h.2⟩
theorem alike_swp (d : Array S48) (j : Nat) (hj : j + 1 < d.size) (hl : ltOf fact_Stable.cf d[j + 1]! d[j]! = true) (hr : ∀ f ∈ d.toList, FOk f) : Alike d.toList (Go.Sort.swp d (j + 1) j).toList := by
 obtain ⟨L1, L2, e1, e2⟩ := swp_list d j hj; have hx : FOk d[j]! := hr _ (by rw [e1]; simp); have hy : FOk d[j + 1]! := hr _ (by rw [e1]; simp); rw [e1, e2]; have h1 := hx.known0; have h2 := hx.known1; have h3 := hy.known0; have h4 := hy.known1; have hlt : (d[j + 1]!).f5 < (d[j]!).f5 := by
  unfold ltOf fact_Stable.cf at hl; rw [lm_id (by omega) (by omega), lm_id (by omega) (by omega)] at hl; simp at hl; omega
 exact ⟨fun who attr dd known => at_swap L1 L2 _ _ hlt who attr dd known, List.Perm.append_left _ (List.Perm.swap _ _ _)⟩
theorem alike_inner : ∀ (j : Nat) (d : Array S48), j < d.size → (∀ f ∈ d.toList, FOk f) → Alike d.toList (Go.Sort.insInner (ltOf fact_Stable.cf) 0 j d).toList
 | 0, d, _, _ => Alike.refl _
 | j + 1, d, hj, hr => by
  rw [Go.Sort.insInner]
  split
  ·rename_i hc
   have hl : ltOf fact_Stable.cf d[j + 1]! d[j]! = true := by simp at hc; exact hc
   have h1 := alike_swp d j hj hl hr
   refine h1.trans (alike_inner j _ (by rw [Go.Sort.size_swp]; omega) (fun f hf => hr f (h1.2.mem_iff.1 hf)))
  ·exact Alike.refl _
theorem alike_outer (b : Nat) : ∀ (n i : Nat) (d : Array S48), b - i = n → b ≤ d.size → (∀ f ∈ d.toList, FOk f) → Alike d.toList (Go.Sort.insOuter (ltOf fact_Stable.cf) 0 b i d).toList := by
 intro n; induction n with
 | zero => intro i d h _ _; rw [Go.Sort.insOuter, if_neg (by omega)]; exact Alike.refl _
 | succ n ih =>
  intro i d h hb hr; rw [Go.Sort.insOuter, if_pos (by omega)]; have h1 := alike_inner i d (by omega) hr; have hs : (Go.Sort.insInner (ltOf fact_Stable.cf) 0 i d).size = d.size := by
   have := h1.2.length_eq; simpa using this
  exact h1.trans (ih (i + 1) _ (by omega) (by omega) (fun f hf => hr f (h1.2.mem_iff.1 hf)))
theorem stab_swo : Go.Sort.SWO (ltOf fact_Stable.cf) where
 irrefl x := by unfold ltOf fact_Stable.cf; simp
 trans x y z h1 h2 := by unfold ltOf fact_Stable.cf at *; simp at *; omega
 ntrans x y z h1 h2 := by unfold ltOf fact_Stable.cf at *; simp at *; omega
theorem rising_of : ∀ (l : List S48) (x : Int), (∀ f ∈ l, x ≤ f.f5) → l.Pairwise (fun a b => a.f5 ≤ b.f5) → Rising x l
 | [], x, _, _ => trivial
 | f :: r, x, h, hp => ⟨h f (List.mem_cons_self ..), rising_of r f.f5 (fun g hg => (List.pairwise_cons.1 hp).1 g hg) (List.pairwise_cons.1 hp).2⟩
theorem stable_of {F : List S48} (hF : F.length ≤ 14) (hg : ∀ f ∈ F, FOk f) : ∃ G, fact_Stable.f F = some G ∧ G.length = F.length ∧ (∀ f ∈ G, FOk f) ∧ Rising 0 G ∧ Alike F G := by
 by_cases h0 : F.length = 0
 ·obtain rfl := List.eq_nil_of_length_eq_zero h0; exact ⟨[], by unfold fact_Stable.f; rw [if_pos h0], rfl, hg, trivial, Alike.refl _⟩
 obtain ⟨hp, hs⟩ := Go.Sort.insertionSort_holds (lt := ltOf fact_Stable.cf) stab_swo F.toArray 0 F.length (Nat.zero_le _) (by simp); obtain ⟨D, hD⟩ : ∃ D, D = Go.Sort.insertionSort (ltOf fact_Stable.cf) F.toArray 0 F.length := ⟨_, rfl⟩; rw [← hD] at hp hs; have hal : Alike F D.toList := by
  have h1 := alike_outer F.length _ 1 F.toArray rfl (by simp) (by simpa using hg); rw [hD]; simpa [Go.Sort.insertionSort] using h1
 obtain ⟨p1, p2, p3⟩ := hp; have hDs : D.size = F.length := by rw [p1]; simp
 have hperm : D.toList.Perm F := by
  have e1 : D.extract 0 F.length = D := by rw [← hDs]; simp
  have e2 : F.toArray.extract 0 F.length = F.toArray := by simp
  rw [e1, e2] at p3; simpa using p3
 have hgD : ∀ f ∈ D.toList, FOk f := fun f hf => hg f (hperm.mem_iff.1 hf); have hnz : D.toList.map fact_Stable.nz = D.toList := by
  refine (List.map_congr_left fun f hf => ?_).trans (List.map_id _); have hgf := hgD f hf; have := hgf.known0; have := hgf.known1; unfold fact_Stable.nz; rw [lm_id (by omega) (by omega)]; rfl
 have hall : F.length ≤ 19 ∧ (F.all fun s => decide (fact_Stable.lm s.f5 = s.f5)) = true := ⟨by omega, List.all_eq_true.2 fun f hf => decide_eq_true (lm_id (by have := (hg f hf).known0; omega) (by have := (hg f hf).known1; omega))⟩; refine ⟨D.toList, ?_, by rw [Array.length_toList, hDs], hgD, rising_of _ _ (fun f hf => by have := (hgD f hf).known0; omega) ?_, hal⟩
 ·unfold fact_Stable.f; rw [if_neg h0, if_pos hall]; unfold fact_Stable.srt; rw [← hD, hnz]
 ·refine List.pairwise_iff_getElem.2 fun i j hi hj hij => ?_; have hh := hs i j (Nat.zero_le _) hij (by simpa [hDs] using hj); have hi' : i < D.size := by simpa using hi
  have hj' : j < D.size := by simpa using hj
  rw [getElem!_pos D i hi', getElem!_pos D j hj'] at hh; have g1 := hgD _ (List.getElem_mem hi); have g2 := hgD _ (List.getElem_mem hj); have := g1.known0; have := g1.known1; have := g2.known0; have := g2.known1; unfold ltOf fact_Stable.cf at hh; simp only [Array.getElem_toList] at *; rw [lm_id (by omega) (by omega), lm_id (by omega) (by omega)] at hh; simp at hh; omega
theorem bfacts_l0 (l : List S33) (hl : l.length ≤ 500) (n : Nat) : ∀ (i : Nat) (O : List S48) (s x s' x' : Int) (fs : List S48), l.length - i = n → i ≤ l.length → O.length = i → Chain s x fs (l.drop i) s' x' → Ev (fun k => book_Facts.l0 k O l (l.length : Int) (i : Int)) (O ++ fs, 0) := by
 induction n with
 | zero =>
  intro i O s x s' x' fs hn hi hO h; rw [List.drop_eq_nil_of_le (by omega)] at h
  cases h; refine Ev.step (f := fun _ => some (O ++ [], 0)) (fun k => ?_) (Ev.now _); simp only [book_Facts.l0]; rw [if_neg (by omega), List.append_nil]
 | succ n ih =>
  intro i O s x s' x' fs hn hi hO h; have hlt : i < l.length := by omega
  obtain ⟨e, he0⟩ : ∃ e, e = rd_T33 l (i : Int) := ⟨_, rfl⟩; rw [drop_ent l i hlt, ← he0] at h
  cases h with
  | cons _ _ f t d fs' _ _ _ h1 h2 h3 h4 h5 =>
   have ih' := ih (i + 1) (O ++ [f]) d f.f5 s' x' fs' (by omega) (by omega) (by simp [hO]) h5; rw [List.append_assoc] at ih'; refine Ev.step (f := fun k => (book_Read.f k t).bind fun bt => (if O.length < 2199023255552 then (book_Facts.l0 k (O ++ [(⟨bt.1, bt.2.1, (⟨bt.2.2.1, bt.2.2.2.1⟩ : S46), bt.2.2.2.2.1, bt.2.2.2.2.2.1, bt.2.2.2.2.2.2.1⟩ : S48)]) l (l.length : Int) ((i + 1 : Nat) : Int)) else none)) (fun k => ?_) (Ev.bind h3.read (Ev.ifp (by omega) ih')); simp only [book_Facts.l0]; rw [if_pos (by omega), if_pos (by omega), if_pos (by omega), ← he0, w64_succ hlt (by omega)]
theorem bfacts_of {l : List S33} {s' x' : Int} {fs : List S48} (hl : l.length ≤ 500) (h : Chain 0 0 fs l s' x') : Ev (fun k => book_Facts.f k l) (fs, 0) := by
 simp only [book_Facts.f]; exact Ev.bind (bcheck_of hl h) (Ev.ifp rfl (bfacts_l0 l hl _ 0 [] 0 0 s' x' fs rfl (by omega) rfl h))
theorem chain_l0 (x2 x3 : Int) (bg : Int) (ps : List S103) (fs G : List S48) (hG : G.length ≤ 14) (hg : ∀ f ∈ G, FOk f) (E' : List S33 → Prop)
  (hend : ∀ E s x, Chain 0 0 G E s x → Ev (fun k => moottop_BookCases.l0 k x2 x3 G E G (G.length : Int) (G.length : Int) bg ps fs) true) (n : Nat) : ∀ (i : Nat) (E : List S33) (s x : Int), G.length - i = n → i ≤ G.length → Chain 0 0 (G.take i) E s x → Rising x (G.drop i) → Ev (fun k => moottop_BookCases.l0 k x2 x3 G E G (G.length : Int) (i : Int) bg ps fs) true := by
 induction n with
 | zero =>
  intro i E s x hn hi hC _; have hi' : i = G.length := by omega
  subst hi'; rw [List.take_length] at hC; exact hend E s x hC
 | succ n ih =>
  intro i E s x hn hi hC hR; have hlt : i < G.length := by omega
  have hd := drop_fact G i hlt; rw [hd] at hR; obtain ⟨f, hf⟩ : ∃ f, f = rd_T48 G (i : Int) := ⟨_, rfl⟩; rw [← hf] at hd hR; have hfG : f ∈ G := List.mem_of_mem_drop (i := i) (by rw [hd]; exact List.mem_cons_self ..); obtain ⟨t, ht⟩ := textOf (hg f hfG); obtain ⟨d, hdg⟩ := dig_of s ht.len; have hE := hC.len; rw [List.length_take] at hE; have ht' : G.take (i + 1) = G.take i ++ [f] := by
   rw [List.take_add_one, List.getElem?_eq_getElem hlt]; have : f = G[i] := by rw [hf]; unfold rd_T48; simp [List.getD, hlt]
   rw [this]; rfl
  have hC' := hC.snoc (hg f hfG) hR.1 ht hdg; rw [← ht'] at hC'; refine Ev.step (fun k => by rw [moottop_BookCases.l0]) (Ev.ifp (by omega) (Ev.ifp (by omega) (Ev.ifp (by omega) ?_))); rw [← hf]; refine Ev.bind (add_of (by omega) hC hR.1 ht hdg) (Ev.ifp rfl ?_); rw [w64 (x := (i : Int) + 1) (by omega) (by omega), show (i : Int) + 1 = ((i + 1 : Nat) : Int) from by omega]; exact ih (i + 1) _ _ _ (by omega) (by omega) hC' hR.2
theorem w64_n {n : Nat} (h : n ≤ 1000000) : wrap64 ((n : Int) + 1) = ((n + 1 : Nat) : Int) := by rw [w64 (by omega) (by omega)]; omega
theorem key_l1 (x4 : List S68) (h4 : x4.length ≤ 1000) (n : Nat) : ∀ (j k : Nat) (x0 : List S68), x4.length - j = n → 1 ≤ j → k + (x4.length - j) ≤ x0.length → x0.length ≤ 1000 → ∃ r, Ev (fun q => fact_Key_49.l1 q x0 (k : Int) x4 (j : Int)) r ∧ r.length ≤ 1000 := by
 induction n with
 | zero =>
  intro j k x0 hn hj hk hl; refine ⟨x0.take k, Ev.step (fun q => by rw [fact_Key_49.l1]) (Ev.ifn (by omega) (Ev.ifp (by omega) (Ev.ifp (by omega) (Ev.to (by simp))))), by rw [List.length_take]; omega⟩
 | succ n ih =>
  intro j k x0 hn hj hk hl; have hw : wrap64 ((j : Int) - 1) = (j : Int) - 1 := w64 (by omega) (by omega); by_cases hc : (!(((rd_T68 x4 (j : Int)).f0) == ((rd_T68 x4 (wrap64 ((j : Int) - 1))).f0)) || (!((((rd_T68 x4 (j : Int)).f1).toList) == (((rd_T68 x4 (wrap64 ((j : Int) - 1))).f1).toList)))) = true
  ·obtain ⟨r, hr, hrl⟩ := ih (j + 1) (k + 1) (x0.set k (⟨(rd_T68 x4 (j : Int)).f0, (rd_T68 x4 (j : Int)).f1⟩ : S68)) (by omega) (by omega) (by rw [List.length_set]; omega) (by rw [List.length_set]; exact hl); refine ⟨r, Ev.step (fun q => by rw [fact_Key_49.l1]) (Ev.ifp (by omega) (Ev.ifp (by omega) (Ev.ifp (by rw [hw]; omega) (Ev.ifp (by rw [hw]; omega) (Ev.ifp hc (Ev.ifp (by omega) (Ev.ifp (by omega) ?_))))))), hrl⟩; rw [w64_n (by omega), w64_n (by omega), Int.toNat_natCast]; exact hr
  ·obtain ⟨r, hr, hrl⟩ := ih (j + 1) k x0 (by omega) (by omega) (by omega) hl; refine ⟨r, Ev.step (fun q => by rw [fact_Key_49.l1]) (Ev.ifp (by omega) (Ev.ifp (by omega) (Ev.ifp (by rw [hw]; omega) (Ev.ifp (by rw [hw]; omega) (Ev.ifn hc ?_))))), hrl⟩; rw [w64_n (by omega)]; exact hr
theorem key_l0 (x0 : List S68) (hl : x0.length ≤ 1000) (n : Nat) : ∀ k : Nat, x0.length - k = n → 1 ≤ k → ∃ r, Ev (fun q => fact_Key_49.l0 q x0 (k : Int)) r ∧ r.length ≤ 1000 := by
 induction n with
 | zero =>
  intro k hn hk; exact ⟨x0, Ev.step (fun q => by rw [fact_Key_49.l0]) (Ev.ifn (by omega) (Ev.to rfl)), hl⟩
 | succ n ih =>
  intro k hn hk; have hw : wrap64 ((k : Int) - 1) = (k : Int) - 1 := w64 (by omega) (by omega); by_cases hc : (((rd_T68 x0 (k : Int)).f0) == ((rd_T68 x0 (wrap64 ((k : Int) - 1))).f0) && ((((rd_T68 x0 (k : Int)).f1).toList) == (((rd_T68 x0 (wrap64 ((k : Int) - 1))).f1).toList))) = true
  ·obtain ⟨r, hr, hrl⟩ := key_l1 (x0.drop k) (by rw [List.length_drop]; omega) _ 1 k x0 rfl (by omega) (by rw [List.length_drop]; omega) hl; refine ⟨r, Ev.step (fun q => by rw [fact_Key_49.l0]) (Ev.ifp (by omega) (Ev.ifp (by omega) (Ev.ifp (by rw [hw]; omega) (Ev.ifp (by rw [hw]; omega) (Ev.ifp hc (Ev.ifp (by omega) ?_)))))), hrl⟩; rw [Int.toNat_natCast]; exact hr
  ·obtain ⟨r, hr, hrl⟩ := ih (k + 1) (by omega) (by omega); refine ⟨r, Ev.step (fun q => by rw [fact_Key_49.l0]) (Ev.ifp (by omega) (Ev.ifp (by omega) (Ev.ifp (by rw [hw]; omega) (Ev.ifp (by rw [hw]; omega) (Ev.ifn hc ?_))))), hrl⟩; rw [w64_n (by omega)]; exact hr
theorem ksort_of (l : List S68) (hl : l.length ≤ 1000) : ∃ r, key_Sort.f l = some r ∧ r.length ≤ 1000 := by
 unfold key_Sort.f; by_cases h0 : l.length = 0
 ·rw [if_pos h0]; exact ⟨[], rfl, by simp⟩
 ·rw [if_neg h0, if_pos (by omega)]; refine ⟨_, rfl, ?_⟩; unfold key_Sort.srt; have hs := (Go.Sort.pdq_sorts (ltOf key_Sort.cf) key_Sort.swo l.toArray 0 l.toArray.size (Go.Lib.bitLen l.toArray.size) true true (Nat.zero_le _) (Nat.le_refl _) (Or.inl rfl)).1.1; have hs' : (Go.Sort.pdq (ltOf key_Sort.cf) l.toArray 0 l.length (Go.Lib.bitLen l.length) true true).size = l.length := by simpa using hs
  rw [Array.length_toList, hs']; exact hl
theorem keys_l0 (fs : List S48) (hf : fs.length ≤ 100) (n : Nat) : ∀ (i : Nat) (out : List S68), fs.length - i = n → i ≤ fs.length → out.length = i → ∃ r, Ev (fun q => fact_Keys.l0 q out fs (fs.length : Int) (i : Int)) r ∧ r.length ≤ 1000 := by
 induction n with
 | zero =>
  intro i out hn hi ho; obtain ⟨ks, h1, h2⟩ := ksort_of out (by omega); have h3 : ∃ r, Ev (fun q => fact_Key_49.f q ks) r ∧ r.length ≤ 1000 := by
   by_cases h : (ks.length : Int) < 2
   ·exact ⟨ks, by simp only [fact_Key_49.f]; exact Ev.ifp h (Ev.to rfl), h2⟩
   ·obtain ⟨r, hr, hrl⟩ := key_l0 ks h2 _ 1 rfl (by omega); exact ⟨r, by simp only [fact_Key_49.f]; exact Ev.ifn h hr, hrl⟩
  obtain ⟨r, hr, hrl⟩ := h3; refine ⟨r, Ev.step (fun q => by rw [fact_Keys.l0]) (Ev.ifn (by omega) ?_), hrl⟩; rw [h1]; simp only [Option.bind_some]; exact Ev.bind hr (Ev.to rfl)
 | succ n ih =>
  intro i out hn hi ho; obtain ⟨r, hr, hrl⟩ := ih (i + 1) (out ++ [(⟨(rd_T48 fs (i : Int)).f0, (rd_T48 fs (i : Int)).f1⟩ : S68)]) (by omega) (by omega) (by simp [ho]); refine ⟨r, Ev.step (fun q => by rw [fact_Keys.l0]) (Ev.ifp (by omega) (Ev.ifp (by omega) (Ev.ifp (by omega) (Ev.ifp (by omega) ?_)))), hrl⟩; rw [w64_n (by omega)]; exact hr
theorem endsOf_perm {F G : List S48} (h : G.Perm F) (who : Int) (attr : ByteArray) : (endsOf who attr G).Perm (endsOf who attr F) := by
 induction h with
 | nil => exact List.Perm.refl _
 | cons x _ ih =>
  rename_i l1 l2 _; rw [show x :: l1 = [x] ++ l1 from rfl, show x :: l2 = [x] ++ l2 from rfl, endsOf_append, endsOf_append]; exact List.Perm.append_left _ ih
 | swap x y l =>
  rw [show y :: x :: l = [y] ++ ([x] ++ l) from rfl, show x :: y :: l = [x] ++ ([y] ++ l) from rfl, endsOf_append, endsOf_append, endsOf_append, endsOf_append, ← List.append_assoc, ← List.append_assoc]; exact List.Perm.append_right _ List.perm_append_comm
 | trans _ _ ih1 ih2 => exact ih1.trans ih2
theorem same_l1 (x2 x3 bg : Int) (ps : List S103) (fs G : List S48) (hf : fs.length ≤ 14) (hG : G.length ≤ 14) (hal : Alike fs G) (ks : List S68) (hk : ks.length ≤ 1000) (n : Nat) : ∀ i : Nat, ks.length - i = n → i ≤ ks.length → Ev (fun q => moottop_BookCases.l1 q x2 x3 G ks (ks.length : Int) (i : Int) bg ps fs) true := by
 induction n with
 | zero =>
  intro i hn hi; exact Ev.step (fun q => by rw [moottop_BookCases.l1]) (Ev.ifn (by omega) (Ev.to rfl))
 | succ n ih =>
  intro i hn hi; obtain ⟨who, hwho⟩ : ∃ who, who = (rd_T68 ks (i : Int)).f0 := ⟨_, rfl⟩; obtain ⟨attr, hattr⟩ : ∃ attr, attr = (rd_T68 ks (i : Int)).f1 := ⟨_, rfl⟩; have a1 := factAt_of G who attr x2 x3 (by omega); have a2 := factAt_of fs who attr x2 x3 (by omega); rw [hal.1 who attr x2 x3] at a1; have b1 := line_lin who attr x3 G (by omega); have b2 := line_lin who attr x3 fs (by omega); have e1 : (fun d => atF G who attr d x3) = fun d => atF fs who attr d x3 := funext fun d => hal.1 who attr d x3; rw [e1, days_perm (endsOf_perm hal.2 who attr)] at b1; have hlen : (lin (fun d => atF fs who attr d x3) (days (endsOf who attr fs)) ((days (endsOf who attr fs)).length - 1) [] 0).length ≤ 100000 := by
   have h1 := lin_len (fun d => atF fs who attr d x3) (days (endsOf who attr fs)) ((days (endsOf who attr fs)).length - 1) [] 0; have h2 := days_len (endsOf who attr fs); have h3 := endsOf_len who attr fs; simp only [List.length_nil] at h1; omega
  refine Ev.step (fun q => by rw [moottop_BookCases.l1]) (Ev.ifp (by omega) (Ev.ifp (by omega) (Ev.ifp (by omega) ?_))); rw [← hwho, ← hattr]; refine Ev.bind a1 (Ev.bind a2 (Ev.ifn (by simp) (Ev.bind b1 (Ev.bind b2 (Ev.bind (spans_same _ hlen) (Ev.ifp rfl ?_)))))); rw [w64_n (by omega)]; exact ih (i + 1) (by omega) (by omega)
theorem h6k (n : Nat) : moottop_h6told.f (n + 40) = some true := by kernel_rfl
theorem h6_of : Ev (fun k => moottop_h6told.f k) true := ⟨40, fun k hk => by
  obtain ⟨n, rfl⟩ : ∃ n, k = n + 40 := ⟨k - 40, by omega⟩
  exact h6k n⟩
theorem BookCases : moottop_BookCases.Pure := by
 intro bg ps fs l1 a2 a3 hb0 hb1 hf hok _ _; obtain ⟨G, hs, hGl, hGg, hR, hal⟩ := stable_of hf hok; have m1 := below_range a2 6000 (by omega); have m2 := below_range a3 6000 (by omega); obtain ⟨ks, hks, hkl⟩ := keys_l0 fs (by omega) _ 0 [] rfl (by omega) rfl; refine Ev.rounds (g := fun k => moottop_BookCases.f k bg ps fs l1 a2 a3) ?_; have hd : moottop_h6days.f bg ps fs a2 a3 = some (wrap64 (wrap64 (bg - 2000) + a2 % 6000), wrap64 (wrap64 (bg - 2000) + a3 % 6000)) := by
  unfold moottop_h6days.f; rw [below_of _ _ (by omega) (by omega), below_of _ _ (by omega) (by omega)]; rfl
 have hcl : fact_Clone.f fs = some fs := by
  unfold fact_Clone.f; simp only [Option.bind_some]; rw [if_pos (by simp; omega)]; simp
 simp only [moottop_BookCases.f]; rw [hd]; simp only [Option.bind_some]; rw [hcl]; simp only [Option.bind_some]; rw [hs]; simp only [Option.bind_some]; rw [← hGl]; refine chain_l0 _ _ bg ps fs G (by omega) hGg (fun _ => True) (fun E s x hC => ?_) _ 0 [] 0 0 rfl (by omega) (by rw [List.take_zero]; exact .nil _ _) (by rw [List.drop_zero]; exact hR); have hE := hC.len; refine Ev.step (fun k => by rw [moottop_BookCases.l0]) (Ev.ifn (by omega) (Ev.bind (bfacts_of (by omega) hC) (Ev.bind h6_of (Ev.ifp rfl (Ev.ifp rfl ?_))))); refine Ev.step (fun k => by rw [moottop_BookCases.j1]) (Ev.ifn (by simp) (Ev.bind (a := ks) ?_ ?_))
 ·simp only [fact_Keys.f]; exact hks
 ·exact same_l1 _ _ bg ps fs G hf (by omega) hal ks hkl _ 0 rfl (by omega)
end Go.Proofs.YtkjneemcledfjaaGreatDoor.Pure
