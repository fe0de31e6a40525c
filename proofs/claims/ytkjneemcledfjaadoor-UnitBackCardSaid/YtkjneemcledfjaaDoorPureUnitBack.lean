/-
Each value's text is read back as this value, whatever numbers come in.
-/
import Derived.Test.YtkjneemcledfjaaDoorStrA
import Derived.Test.YtkjneemcledfjaaDoorPUnitBackx5
set_option linter.unusedVariables false
set_option linter.unusedSimpArgs false
namespace Go.Proofs.YtkjneemcledfjaaDoor.Pure
open Go.RowKit Go.Proofs.YtkjneemcledfjaaDoor.PUnitBack Go.Proofs.YtkjneemcledfjaaDoorW.PrintWords Go.Proofs.YtkjneemcledfjaaDoorW.PrintLast
/-- numbers that need no wrap -/
theorem w64 {x : Int} (h1 : -9223372036854775808 ≤ x) (h2 : x ≤ 9223372036854775807) : wrap64 x = x := by unfold wrap64; omega
theorem tdivnn {a b : Int} (h : 0 ≤ a) : Int.tdiv a b = a / b := Int.tdiv_eq_ediv_of_nonneg h
theorem tmodnn {a b : Int} (h : 0 ≤ a) : Int.tmod a b = a % b := Int.tmod_eq_emod_of_nonneg h
theorem Ev.ifp {α : Type} {c : Prop} [Decidable c] {a b : Nat → Option α} {r : α} (h : c) (k : Ev a r) : Ev (fun n => if c then a n else b n) r := Ev.congr (fun n => by rw [if_pos h]) k
theorem Ev.ifn {α : Type} {c : Prop} [Decidable c] {a b : Nat → Option α} {r : α} (h : ¬ c) (k : Ev b r) : Ev (fun n => if c then a n else b n) r := Ev.congr (fun n => by rw [if_neg h]) k
theorem Ev.to {α : Type} {a b : α} (h : a = b) : Ev (fun _ => some a) b := h ▸ Ev.now a
theorem below_of (x n : Int) (h0 : 0 < n) (h1 : n ≤ 4611686018427387904) : mootmake_Below.f x n = some (x % n) := by
  have hr := Int.emod_nonneg x (show n ≠ 0 by omega)
  have hl := Int.emod_lt_of_pos x h0
  unfold mootmake_Below.f
  rw [if_neg (by omega), Int.tmod_eq_emod]
  by_cases h : 0 ≤ x ∨ n ∣ x
  · rw [if_pos h, show x % n - ((0 : Nat) : Int) = x % n from by omega, if_neg (by omega)]
  · have h3 : x % n ≠ 0 := fun e => h (.inr (Int.dvd_of_emod_eq_zero e))
    rw [if_neg h, if_pos (by omega), w64 (by omega) (by omega)]
    congr 1; omega
theorem below_range (x n : Int) (h0 : 0 < n) : 0 ≤ x % n ∧ x % n < n := ⟨Int.emod_nonneg x (by omega), Int.emod_lt_of_pos x h0⟩
theorem drop_rd (l : List Int) (i : Nat) (h : i < l.length) : l.drop i = rd l (i : Int) :: l.drop (i + 1) := by
  rw [List.drop_eq_getElem_cons h]
  unfold rd
  simp [List.getD, h]
theorem w64_succ {i n : Nat} (h : i < n) (hn : n ≤ 9223372036854775807) : wrap64 ((i : Int) + 1) = ((i + 1 : Nat) : Int) := by
  rw [w64 (by omega) (by omega)]; omega
/-! #### values and their kinds -/
theorem le_ev {α : Type} {f : Nat → Option α} (hm : ∀ k, LeO (f k) (f (k + 1))) {r : α} (K : Nat) (h : f K = some r) : Ev f r := by
  refine ⟨K, fun k hk => ?_⟩
  obtain ⟨n, rfl⟩ : ∃ n, k = K + n := ⟨k - K, by omega⟩
  induction n with
  | zero => exact h
  | succ n ih => exact hm (K + n) r (ih (by omega))
def uLo (c : Int) : Int := if c = 2 then -1099511627776 else if c = 3 then -1048576 else if c = 4 then 0 else if c = 5 then -1048576 else -1000000000
def uHi (c : Int) : Int := if c = 2 then 1099511627776 else if c = 3 then 1048576 else if c = 4 then 1048575 else if c = 5 then 1048576 else 1000000000
theorem range_of {c : Int} (h0 : 2 ≤ c) (h1 : c ≤ 6) : unit_Range.f c = some (uLo c, uHi c) ∧ uLo c ≤ 0 ∧ 0 ≤ uHi c ∧ -1099511627776 ≤ uLo c ∧ uHi c ≤ 1099511627776 := by
  have : c = 2 ∨ c = 3 ∨ c = 4 ∨ c = 5 ∨ c = 6 := by omega
  rcases this with rfl | rfl | rfl | rfl | rfl <;> exact ⟨rfl, by decide, by decide, by decide, by decide⟩
theorem fit_of {c : Int} (h0 : 2 ≤ c) (h1 : c ≤ 6) (x : Int) : unit_Fit.f c x = some (c, mx (uLo c) (mn x (uHi c))) := by
  unfold unit_Fit.f unit_known.f
  rw [if_pos (by omega)]
  simp only [Option.bind_some]
  rw [if_pos (decide_eq_true (by omega)), (range_of h0 h1).1]
  rfl
theorem fit_in {c : Int} (h0 : 2 ≤ c) (h1 : c ≤ 6) {x : Int} (hl : uLo c ≤ x) (hh : x ≤ uHi c) : unit_Fit.f c x = some (c, x) := by
  rw [fit_of h0 h1]
  congr 2
  unfold mx mn; repeat' split <;> omega
theorem valued_of {c : Int} (h0 : 2 ≤ c) (h1 : c ≤ 6) (n : Int) : ∃ x, mootkeep1_valued.f c n = some (c, x) ∧ uLo c ≤ x ∧ x ≤ uHi c := by
  obtain ⟨hr, r1, r2, r3, r4⟩ := range_of h0 h1
  have hb := below_range n (uHi c - uLo c + 1) (by omega)
  refine ⟨uLo c + n % (uHi c - uLo c + 1), ?_, by omega, by omega⟩
  unfold mootkeep1_valued.f
  rw [below_of _ _ (by omega) (by omega)]
  simp only [Option.bind_some]
  rw [show c % 7 = c by omega, hr]
  simp only [Option.bind_some]
  rw [w64 (x := uHi c - uLo c) (by omega) (by omega), w64 (x := uHi c - uLo c + 1) (by omega) (by omega), below_of _ _ (by omega) (by omega)]
  simp only [Option.bind_some]
  rw [w64 (x := uLo c + _) (by omega) (by omega)]
/-! #### strings -/
open Go.Proofs.YtkjneemcledfjaaDoor.StrLaw
theorem lit48 : (⟨#[48]⟩ : ByteArray) = bs [48] := rfl
theorem lit46 : (⟨#[46]⟩ : ByteArray) = bs [46] := rfl
theorem lit45 : (⟨#[45]⟩ : ByteArray) = bs [45] := rfl
theorem lit37 : (⟨#[37]⟩ : ByteArray) = bs [37] := rfl
theorem litE : (⟨#[]⟩ : ByteArray) = bs [] := rfl
theorem litD : (⟨#[32, 100, 97, 121, 115]⟩ : ByteArray) = bs [32, 100, 97, 121, 115] := rfl
theorem rep0 {m : Int} (h0 : 0 ≤ m) (h1 : m ≤ 1000) : strings_Repeat.f (⟨#[48]⟩ : ByteArray) m = some (bs (List.replicate m.toNat 48)) := by
  unfold strings_Repeat.f
  rw [if_pos ⟨h0, h1, by decide⟩]
  congr 1
  show bs (Go.Lib.repeatL [48] m.toNat) = _
  rw [show ([48] : List UInt8) = List.replicate 1 48 from rfl, Go.Lib.repeatL_replicate, Nat.mul_one]
theorem itoa_of {n : Int} (h0 : -9223372036854775808 ≤ n) (h1 : n ≤ 9223372036854775807) : strconv_Itoa.f n = some (bs (sgn n ++ Go.Lib.decDigits n.natAbs)) := by
  unfold strconv_Itoa.f
  rw [if_pos ⟨h0, h1⟩, itoa_sgn]; rfl
theorem dlen {n : Nat} (h : n < 10000000000000000) : (Go.Lib.decDigits n).length ≤ 16 := dec_len_le (k := 15) (by omega)
theorem pad_of {n d : Int} (h0 : 0 ≤ n) (h1 : n < 10000000000000000) (d0 : 0 ≤ d) (d1 : d ≤ 20) : unit_pad.f n d = some (bs (padL n.toNat d.toNat)) := by
  unfold unit_pad.f
  have hl := dlen (n := n.toNat) (by omega)
  have hl1 := dec_len_pos n.toNat
  rw [itoa_of (by omega) (by omega), show sgn n = [] from by unfold sgn; rw [if_neg (by omega)], List.nil_append, show n.natAbs = n.toNat from by omega]
  simp only [Option.bind_some, bs_size]
  rw [w64 (by omega) (by omega), rep0 (by unfold mx; split <;> omega) (by unfold mx; split <;> omega)]
  simp only [Option.bind_some, bs_size, bs_append]
  rw [if_pos (by simp; unfold mx; split <;> omega)]
  unfold padL
  congr 4
  unfold mx; split <;> omega
theorem fin_of (S W T : List UInt8) (h : S.length + W.length + T.length ≤ 1000) :
    (if (bs T).toList = ([] : List UInt8) then (if (bs S).size + (bs W).size ≤ 9223372036854775807 then (if (bs S ++ bs W).size + (bs T).size ≤ 9223372036854775807 then (some ((bs S ++ bs W) ++ bs T)) else (none)) else (none)) else (if 1 + (bs T).size ≤ 9223372036854775807 then (if (bs S).size + (bs W).size ≤ 9223372036854775807 then (if (bs S ++ bs W).size + ((⟨#[46]⟩ : ByteArray) ++ bs T).size ≤ 9223372036854775807 then (some ((bs S ++ bs W) ++ ((⟨#[46]⟩ : ByteArray) ++ bs T))) else (none)) else (none)) else (none))) = some (bs (S ++ W ++ (if T = [] then [] else 46 :: T))) := by
  rw [lit46]
  simp only [bs_append, bs_size, bs_toList]
  by_cases hT : T = []
  · rw [if_pos hT, if_pos (by omega), if_pos (by simp only [List.length_append]; omega), if_pos hT, hT]
  · rw [if_neg hT, if_pos (by omega), if_pos (by omega), if_pos (by simp only [List.length_append, List.length_singleton]; omega), if_neg hT]; rfl
theorem strip {m : Int} (S W : List UInt8) (hS : S.length + W.length ≤ 100) (hm : 0 ≤ m) : ∀ (n : Nat) (T : List UInt8), T.length = n → n ≤ 100 → m ≤ T.length → ∃ T' j, T = T' ++ List.replicate j 48 ∧ m ≤ T'.length ∧ Ev (fun k => unit_point.l0 k m (bs S) (bs W) (bs T)) (bs (S ++ W ++ (if T' = [] then [] else 46 :: T'))) := by
  intro n
  induction n with
  | zero =>
    intro T hn h1 h2
    refine ⟨T, 0, by simp, h2, Ev.step (f := fun _ => some _) (fun k => ?_) (Ev.now _)⟩
    simp only [unit_point.l0]
    rw [if_neg (by rw [bs_size]; omega), fin_of S W T (by omega)]
  | succ n ih =>
    intro T hn h1 h2
    by_cases hlt : m < T.length
    · obtain ⟨A, c, rfl⟩ : ∃ A c, T = A ++ [c] := by
        rcases List.eq_nil_or_concat T with h | ⟨A, c, h⟩
        · rw [h] at hn; simp at hn
        · exact ⟨A, c, by rw [h]; simp⟩
      have hAn : A.length = n := by simp at hn; omega
      have hTl : (A ++ [c]).length = A.length + 1 := by simp
      have hw : wrap64 (((bs (A ++ [c])).size : Int) - 1) = (A.length : Int) := by rw [bs_size, hTl, w64 (by omega) (by omega)]; omega
      have hb : bt (bs (A ++ [c])) (A.length : Int) = (c.toNat : Int) := by
        unfold bt
        rw [dif_pos (by rw [bs_size, hTl]; simp)]
        congr 2
        show (A ++ [c]).toArray[(A.length : Int).toNat]'_ = c
        simp
      by_cases hc : c = 48
      · obtain ⟨T', j, e, hl, hev⟩ := ih A hAn (by omega) (by omega)
        refine ⟨T', j + 1, ?_, hl, Ev.step (fun k => ?_) hev⟩
        · rw [e, hc, List.replicate_succ', List.append_assoc]
        · simp only [unit_point.l0]
          rw [hw, hb, if_pos (by rw [bs_size]; omega), if_pos (by omega), if_pos (by rw [bs_size, hTl]; omega), if_pos (by rw [hc]; rfl), if_pos (by rw [bs_size, hTl]; omega), bs_extract]
          congr 2
          simp
      · refine ⟨A ++ [c], 0, by simp, h2, Ev.step (f := fun _ => some _) (fun k => ?_) (Ev.now _)⟩
        simp only [unit_point.l0]
        rw [hw, hb, if_pos (by rw [bs_size]; omega), if_pos (by omega), if_pos (by rw [bs_size, hTl]; omega), if_neg (fun e => hc (UInt8.toNat_inj.1 (by simpa using Int.ofNat.inj e))), fin_of S W _ (by omega)]
    · refine ⟨T, 0, by simp, h2, Ev.step (f := fun _ => some _) (fun k => ?_) (Ev.now _)⟩
      simp only [unit_point.l0]
      rw [if_neg (by rw [bs_size]; omega), fin_of S W T (by omega)]
theorem point_of {n p m : Int} (hn : n.natAbs ≤ 1100000000000) (hp0 : 1 ≤ p) (hp1 : p ≤ 10) (hm0 : 0 ≤ m) (hm1 : m ≤ p) : ∃ W T T' : List UInt8, ∃ j : Nat, W ≠ [] ∧ W ++ T = padL n.natAbs (p + 1).toNat ∧ (T.length : Int) = p ∧ T = T' ++ List.replicate j 48 ∧ m ≤ T'.length ∧ W.length ≤ 16 ∧ Ev (fun k => unit_point.f k n p m) (bs (sgn n ++ W ++ (if T' = [] then [] else 46 :: T'))) := by
  obtain ⟨L, hL⟩ : ∃ L, L = padL n.natAbs (p + 1).toNat := ⟨_, rfl⟩
  have hlen := padL_len n.natAbs (p + 1).toNat
  have hd := dlen (n := n.natAbs) (by omega)
  rw [← hL] at hlen
  have hT : (L.drop (L.length - p.toNat)).length = p.toNat := by rw [List.length_drop]; omega
  have hW : (L.take (L.length - p.toNat)).length = L.length - p.toNat := by rw [List.length_take]; omega
  obtain ⟨T', j, e, hl, hev⟩ := strip (m := m) (sgn n) (L.take (L.length - p.toNat)) (by have := sgn_len n; omega) hm0 _ (L.drop (L.length - p.toNat)) rfl (by omega) (by omega)
  refine ⟨L.take (L.length - p.toNat), L.drop (L.length - p.toNat), T', j, fun h => by rw [h] at hW; simp at hW; omega, by rw [List.take_append_drop, hL], by omega, e, hl, by omega, ?_⟩
  have key : ∀ x : Int, x = (n.natAbs : Int) → Ev (fun k => unit_point.j0 k x p m (bs (sgn n))) (bs (sgn n ++ L.take (L.length - p.toNat) ++ (if T' = [] then [] else 46 :: T'))) := by
    intro x hx
    refine Ev.step (fun k => ?_) hev
    simp only [unit_point.j0]
    rw [w64 (x := p + 1) (by omega) (by omega), pad_of (by omega) (by omega) (by omega) (by omega), show x.toNat = n.natAbs from by omega, ← hL]
    simp only [Option.bind_some, bs_size]
    rw [w64 (x := (L.length : Int) - p) (by omega) (by omega), if_pos (by omega), if_pos (by omega), bs_extract, bs_extract, show ((L.length : Int) - p).toNat = L.length - p.toNat from by omega]
    simp
  unfold unit_point.f
  by_cases h : n < 0
  · refine Ev.ifp h ?_
    have e : (⟨#[45]⟩ : ByteArray) = bs (sgn n) := by rw [show sgn n = [45] from by unfold sgn; rw [if_pos h]]; rfl
    rw [e]
    exact key _ (by rw [w64 (by omega) (by omega)]; omega)
  · refine Ev.ifn h ?_
    have e : (⟨#[]⟩ : ByteArray) = bs (sgn n) := by rw [show sgn n = [] from by unfold sgn; rw [if_neg h]]; rfl
    rw [e]
    exact key _ (by omega)
/-! #### endings -/
theorem hs_of (A s : List UInt8) (h : A.length ≤ 1000) (hs : s.length ≤ A.length) : strings_HasSuffix.f (bs A) (bs s) = some (A.drop (A.length - s.length) == s) := by
  unfold strings_HasSuffix.f stringslite_HasSuffix.f
  simp only [bs_size]
  rw [w64 (by omega) (by omega), if_pos (by omega), if_pos (by omega), if_pos (by omega), bs_extract, bs_toList, bs_toList, show ((A.length : Int) - (s.length : Int)).toNat = A.length - s.length from by omega]
  simp
theorem hs_short (A s : List UInt8) (hs : A.length < s.length) : strings_HasSuffix.f (bs A) (bs s) = some false := by
  unfold strings_HasSuffix.f stringslite_HasSuffix.f
  simp only [bs_size]
  rw [if_neg (by omega)]; rfl
theorem hs_yes (A s : List UInt8) (h : (A ++ s).length ≤ 1000) : strings_HasSuffix.f (bs (A ++ s)) (bs s) = some true := by
  rw [hs_of _ _ h (by simp), suf_yes]
theorem hs_no {A s : List UInt8} {c d : UInt8} (hc : c ≠ d) (h : (A ++ [c]).length ≤ 1000) : strings_HasSuffix.f (bs (A ++ [c])) (bs (s ++ [d])) = some false := by
  by_cases hl : (s ++ [d]).length ≤ (A ++ [c]).length
  · rw [hs_of _ _ h hl, suf_no hc hl]
  · exact hs_short _ _ (by omega)
theorem ts_no {A s : List UInt8} (h : strings_HasSuffix.f (bs A) (bs s) = some false) : strings_TrimSuffix.f (bs A) (bs s) = some (bs A) := by
  unfold strings_TrimSuffix.f stringslite_TrimSuffix.f
  unfold strings_HasSuffix.f at h
  have h' : stringslite_HasSuffix.f (bs A) (bs s) = some false := by
    cases hh : stringslite_HasSuffix.f (bs A) (bs s) with
    | none => rw [hh] at h; cases h
    | some b => rw [hh] at h; simpa using h
  rw [h']; rfl
theorem ts_yes {A s : List UInt8} (h : (A ++ s).length ≤ 1000) : strings_TrimSuffix.f (bs (A ++ s)) (bs s) = some (bs A) := by
  have h0 := hs_yes A s h
  unfold strings_TrimSuffix.f stringslite_TrimSuffix.f
  unfold strings_HasSuffix.f at h0
  have h' : stringslite_HasSuffix.f (bs (A ++ s)) (bs s) = some true := by
    cases hh : stringslite_HasSuffix.f (bs (A ++ s)) (bs s) with
    | none => rw [hh] at h0; cases h0
    | some b => rw [hh] at h0; simpa using h0
  have hl : (A ++ s).length = A.length + s.length := by simp
  rw [h']
  simp only [Option.bind_some, if_true, bs_size]
  rw [w64 (by omega) (by omega), if_pos (by omega), if_pos (by omega), bs_extract]
  simp only [Option.bind_some]
  congr 2
  rw [show (((A ++ s).length : Int) - (s.length : Int)).toNat = A.length from by omega]
  simp
theorem con_of (A : List UInt8) (c : UInt8) (h : A.length ≤ 1000) : strings_Contains.f (bs A) (bs [c]) = some (Go.Lib.contains A [c]) := by
  unfold strings_Contains.f
  rw [if_pos (by rw [bs_size]; omega)]; rfl
theorem cnt_of (A : List UInt8) (c : UInt8) : strings_Count.f (bs A) (bs [c]) = some ((A.count c : Nat) : Int) := by
  unfold strings_Count.f
  rw [if_pos (by rw [bs_size]; rfl)]; rfl
theorem cut_of (A : List UInt8) (c : UInt8) (h : A.length ≤ 1000) : strings_Cut.f (bs A) (bs [c]) = some (bs (Go.Lib.cut A [c]).1, bs (Go.Lib.cut A [c]).2.1, (Go.Lib.cut A [c]).2.2) := by
  unfold strings_Cut.f
  rw [if_pos (by rw [bs_size]; omega)]; rfl
theorem atoi_of {A : List UInt8} {n : Int} (h : A.length ≤ 18) (e : Go.Lib.atoi A = some n) : strconv_Atoi.f (bs A) = some (n, none) := by
  unfold strconv_Atoi.f
  rw [if_pos (by rw [bs_size]; omega), bs_data, e]; rfl
/-- a list's last byte is a digit -/
theorem last_of {A : List UInt8} (h : Digs A) (hn : A ≠ []) : ∃ B c, A = B ++ [c] ∧ dg1 c := by
  rcases List.eq_nil_or_concat A with e | ⟨B, c, e⟩
  · exact absurd e hn
  · exact ⟨B, c, by rw [e]; simp, h c (by rw [e]; simp)⟩
theorem dg1_ne {c d : UInt8} (h : dg1 c) (hd : ¬ dg1 d) : c ≠ d := fun e => hd (e ▸ h)
instance (c : UInt8) : Decidable (dg1 c) := inferInstanceAs (Decidable (48 ≤ c.toNat ∧ c.toNat ≤ 57))
/-- how the text of a number begins -/
def Numeral (A : List UInt8) : Prop := ∃ c r, A = c :: r ∧ (c = 45 ∨ dg1 c)
theorem numeral_of {n : Int} {W r : List UInt8} (hW : W ≠ []) (hd : Digs W) : Numeral (sgn n ++ W ++ r) := by
  unfold sgn
  split
  · exact ⟨45, W ++ r, by simp, Or.inl rfl⟩
  · cases W with
    | nil => exact absurd rfl hW
    | cons c W => exact ⟨c, W ++ r, by simp, Or.inr (hd c (List.mem_cons_self ..))⟩
theorem Numeral.ne {A : List UInt8} (h : Numeral A) {d : UInt8} {r : List UInt8} (h1 : d ≠ 45) (h2 : ¬ dg1 d) : (bs A).toList ≠ d :: r := by
  obtain ⟨c, r', rfl, hc⟩ := h
  rw [bs_toList]
  intro e
  injection e with e1 e2
  rcases hc with rfl | hc
  · exact h1 e1.symm
  · exact h2 (e1 ▸ hc)
/-- the form of a text that begins as a number -/
theorem form_num {A : List UInt8} (h : Numeral A) {r : Int} (hr : ((strings_HasSuffix.f (bs A) (⟨#[37]⟩ : ByteArray)).bind fun t144 => (if t144 = true then (some 6) else ((strings_HasSuffix.f (bs A) (⟨#[32, 100, 97, 121, 115]⟩ : ByteArray)).bind fun t145 => (if t145 = true then (some 3) else ((strings_Contains.f (bs A) (⟨#[46]⟩ : ByteArray)).bind fun t146 => (if t146 = true then (some 2) else ((strings_Count.f (bs A) (⟨#[45]⟩ : ByteArray)).bind fun t147 => (if t147 = 2 then (some 4) else (some (5 : Int)))))))))) = some r) : Ev (fun k => unit_form.f k (bs A)) r := by
  unfold unit_form.f
  refine Ev.ifn (h.ne (by decide) (by decide)) (Ev.step (f := fun _ => some r) (fun k => ?_) (Ev.now _))
  simp only [unit_form.j0]
  rw [if_neg (by rw [beq_eq_false_iff_ne.2 (h.ne (by decide) (by decide))]; decide), if_neg (h.ne (by decide) (by decide))]
  exact hr
/-! #### dates -/
def bg (y : Int) : Int := 365 * (y - 1) + (y - 1) / 4 - (y - 1) / 100 + (y - 1) / 400
def leap (y : Int) : Prop := y % 4 = 0 ∧ (y % 100 = 0 → y % 400 = 0)
instance (y : Int) : Decidable (leap y) := inferInstanceAs (Decidable (_ ∧ _))
def szs (y : Int) : List Int := if leap y then [31, 29, 31, 30, 31, 30, 31, 31, 30, 31, 30, 31] else [31, 28, 31, 30, 31, 30, 31, 31, 30, 31, 30, 31]
theorem bg_of {y : Int} (h0 : 1 ≤ y) (h1 : y ≤ 4000) : unit_begins.f y = some (bg y) := by
  unfold unit_begins.f bg
  rw [w64 (x := y - 1) (by omega) (by omega), tdivnn (by omega), tdivnn (by omega), tdivnn (by omega)]
  simp only [wrap64]
  congr 1; omega
theorem szs_of {y : Int} (h0 : 1 ≤ y) (h1 : y ≤ 4000) : unit_sizes.f y = some (szs y) := by
  have hl : unit_leap.f y = some (decide (leap y)) := by
    unfold unit_leap.f
    rw [tmodnn (by omega), tmodnn (by omega), tmodnn (by omega)]
    by_cases a : y % 4 = 0
    · rw [if_pos a]
      by_cases b : y % 100 = 0
      · rw [if_pos b]
        by_cases c : y % 400 = 0
        · rw [decide_eq_true (show leap y from ⟨a, fun _ => c⟩)]; simp [c]
        · rw [decide_eq_false (show ¬ leap y from fun h => c (h.2 b))]; simp [c]
      · rw [if_neg b, decide_eq_true (show leap y from ⟨a, fun h => absurd h b⟩)]
    · rw [if_neg a, decide_eq_false (show ¬ leap y from fun h => a h.1)]
  unfold unit_sizes.f szs
  rw [hl]
  simp only [Option.bind_some, decide_eq_true_eq]
  split
  · rfl
  · rfl
theorem szs_len (y : Int) : (szs y).length = 12 := by unfold szs; split <;> rfl
theorem szs_mem (y : Int) : ∀ x ∈ szs y, 28 ≤ x ∧ x ≤ 31 := by unfold szs; split <;> decide
theorem szs_sum {y : Int} (h0 : 1 ≤ y) : bg (y + 1) = bg y + (szs y).sum := by
  unfold szs bg
  by_cases h : leap y
  · rw [if_pos h]; obtain ⟨a, b⟩ := h
    simp only [List.sum_cons, List.sum_nil]; omega
  · rw [if_neg h]; unfold leap at h
    simp only [List.sum_cons, List.sum_nil]; omega
/-- the text of a date -/
def dtext (y m r : Int) : List UInt8 := padL y.toNat 4 ++ 45 :: (padL (m + 1).toNat 2 ++ 45 :: padL (r + 1).toNat 2)
theorem date_l1 {y : Int} (h0 : 1 ≤ y) (h1 : y ≤ 4000) (L : List Int) (hL : L.length = 12) (hm : ∀ x ∈ L, 28 ≤ x ∧ x ≤ 31) : ∀ (n i : Nat) (x4 : Int), i + n = 12 → 0 ≤ x4 → x4 ≤ 400 → x4 < (L.drop i).sum → ∃ (m : Nat) (r : Int), m < 12 ∧ 0 ≤ r ∧ r < 31 ∧ r + (L.take m).sum = x4 + (L.take i).sum ∧ Ev (fun k => unit_date.l1 k y x4 (i : Int) L) (bs (dtext y m r)) := by
  intro n
  induction n with
  | zero =>
    intro i x4 hi a b c
    rw [List.drop_eq_nil_of_le (by omega)] at c
    simp at c; omega
  | succ n ih =>
    intro i x4 hi a b c
    have hil : i < L.length := by omega
    have hr : 28 ≤ rd L (i : Int) ∧ rd L (i : Int) ≤ 31 := by
      have : rd L (i : Int) = L[i] := by unfold rd; simp [List.getD, hil]
      rw [this]; exact hm _ (List.getElem_mem hil)
    rw [drop_rd L i hil, List.sum_cons] at c
    by_cases hx : rd L (i : Int) ≤ x4
    · obtain ⟨m, r, m1, r0, r1, e, hev⟩ := ih (i + 1) (x4 - rd L (i : Int)) (by omega) (by omega) (by omega) (by omega)
      refine ⟨m, r, m1, r0, r1, ?_, Ev.step (fun k => ?_) hev⟩
      · rw [e]
        have ht : L.take (i + 1) = L.take i ++ [rd L (i : Int)] := by
          rw [List.take_add_one, List.getElem?_eq_getElem hil]
          have : rd L (i : Int) = L[i] := by unfold rd; simp [List.getD, hil]
          rw [this]; rfl
        rw [ht, List.sum_append, List.sum_singleton]; omega
      · simp only [unit_date.l1]
        rw [if_pos (by omega), if_pos (by omega), if_pos hx, w64 (x := x4 - _) (by omega) (by omega), w64_succ hil (by omega)]
    · refine ⟨i, x4, by omega, a, by omega, rfl, Ev.step (f := fun _ => some (bs (dtext y i x4))) (fun k => ?_) (Ev.now _)⟩
      simp only [unit_date.l1]
      have d1 := dlen (n := y.toNat) (by omega)
      have d2 := dlen (n := ((i : Int) + 1).toNat) (by omega)
      have d3 := dlen (n := (x4 + 1).toNat) (by omega)
      have p1 := padL_len y.toNat 4; have p2 := padL_len ((i : Int) + 1).toNat 2; have p3 := padL_len (x4 + 1).toNat 2
      have q1 : unit_pad.f y 4 = some (bs (padL y.toNat 4)) := pad_of (by omega) (by omega) (by omega) (by omega)
      have q2 : unit_pad.f ((i : Int) + 1) 2 = some (bs (padL ((i : Int) + 1).toNat 2)) := pad_of (by omega) (by omega) (by omega) (by omega)
      have q3 : unit_pad.f (x4 + 1) 2 = some (bs (padL (x4 + 1).toNat 2)) := pad_of (by omega) (by omega) (by omega) (by omega)
      rw [if_pos (by omega), if_pos (by omega), if_neg hx, w64 (x := (i : Int) + 1) (by omega) (by omega), w64 (x := x4 + 1) (by omega) (by omega), q1, q2, q3, lit45]
      simp only [Option.bind_some, bs_size, bs_append]
      rw [if_pos (by omega), if_pos (by simp only [List.length_append, List.length_singleton]; omega), if_pos (by simp only [List.length_append, List.length_singleton]; omega), if_pos (by simp only [List.length_append, List.length_singleton]; omega)]
      refine congrArg (fun l => some (bs l)) ?_
      unfold dtext
      simp only [List.append_assoc, List.cons_append, List.nil_append]
theorem bg_le {y : Int} (h0 : 1 ≤ y) (h1 : y ≤ 2875) : 365 * (y - 1) ≤ bg y := by unfold bg; omega
theorem date_l0 (d : Int) (h1 : d ≤ 1048575) : ∀ (n : Nat) (y : Int), 1 ≤ y → y + n = 2875 → bg y ≤ d → ∃ (Y : Int) (m : Nat) (r : Int), 1 ≤ Y ∧ Y ≤ 2880 ∧ m < 12 ∧ 0 ≤ r ∧ r < 31 ∧ bg Y + ((szs Y).take m).sum + r = d ∧ Ev (fun k => unit_date.l0 k d y) (bs (dtext Y m r)) := by
  intro n
  induction n with
  | zero =>
    intro y h0 hy hb
    obtain rfl : y = 2875 := by omega
    exact absurd hb (by unfold bg; omega)
  | succ n ih =>
    intro y h0 hy hb
    have hs := szs_sum h0
    by_cases hx : bg (y + 1) ≤ d
    · obtain ⟨Y, m, r, a1, a2, a3, a4, a5, a6, hev⟩ := ih (y + 1) (by omega) (by omega) hx
      refine ⟨Y, m, r, a1, a2, a3, a4, a5, a6, Ev.step (fun k => ?_) hev⟩
      simp only [unit_date.l0]
      rw [w64 (x := y + 1) (by omega) (by omega), bg_of (by omega) (by omega)]
      simp only [Option.bind_some]
      rw [if_pos hx]
    · have hbb := bg_le (y := y) (by omega) (by omega)
      have hss : (szs y).sum ≤ 366 := by unfold szs; split <;> decide
      obtain ⟨m, r, a1, a2, a3, a4, hev⟩ := date_l1 h0 (by omega) (szs y) (szs_len y) (szs_mem y) 12 0 (d - bg y) (by omega) (by omega) (by omega) (by rw [List.drop_zero]; omega)
      refine ⟨y, m, r, h0, by omega, a1, a2, a3, by simp at a4; omega, Ev.step (fun k => ?_) hev⟩
      simp only [unit_date.l0]
      rw [w64 (x := y + 1) (by omega) (by omega), bg_of (by omega) (by omega), bg_of (by omega) (by omega), szs_of (by omega) (by omega)]
      simp only [Option.bind_some]
      rw [if_neg hx, w64 (x := d - bg y) (by omega) (by omega)]
      rfl
theorem date_of {d : Int} (h0 : 0 ≤ d) (h1 : d ≤ 1048575) : ∃ (Y : Int) (m : Nat) (r : Int), 1 ≤ Y ∧ Y ≤ 2880 ∧ m < 12 ∧ 0 ≤ r ∧ r < 31 ∧ bg Y + ((szs Y).take m).sum + r = d ∧ Ev (fun k => unit_date.f k d) (bs (dtext Y m r)) := by
  obtain ⟨Y, m, r, a1, a2, a3, a4, a5, a6, hev⟩ := date_l0 d h1 (2875 - (d / 366 + 1)).toNat (d / 366 + 1) (by omega) (by omega) (by unfold bg; omega)
  refine ⟨Y, m, r, a1, a2, a3, a4, a5, a6, Ev.congr (fun k => ?_) hev⟩
  unfold unit_date.f
  rw [tdivnn h0, w64 (x := d / 366) (by omega) (by omega), w64 (by omega) (by omega)]
theorem dated_l1 (S : List Int) (X : List Int) (hX : ∀ x ∈ X, 0 ≤ x ∧ x ≤ 31) (hl : X.length ≤ 12) : ∀ (n i : Nat) (x9 : Int), i + n = X.length → 0 ≤ x9 → x9 ≤ 2000000 + 31 * i → Ev (fun k => unit_dated.l1 k x9 S X (X.length : Int) (i : Int)) (x9 + (X.drop i).sum, true) := by
  intro n
  induction n with
  | zero =>
    intro i x9 hi a b
    refine Ev.step (f := fun _ => some _) (fun k => ?_) (Ev.now _)
    simp only [unit_dated.l1]
    rw [if_neg (by omega), List.drop_eq_nil_of_le (by omega)]
    simp
  | succ n ih =>
    intro i x9 hi a b
    have hil : i < X.length := by omega
    have hr : 0 ≤ rd X (i : Int) ∧ rd X (i : Int) ≤ 31 := by
      have : rd X (i : Int) = X[i] := by unfold rd; simp [List.getD, hil]
      rw [this]; exact hX _ (List.getElem_mem hil)
    have ih' := ih (i + 1) (x9 + rd X (i : Int)) (by omega) (by omega) (by omega)
    rw [drop_rd X i hil, List.sum_cons, show x9 + (rd X (i : Int) + (X.drop (i + 1)).sum) = x9 + rd X (i : Int) + (X.drop (i + 1)).sum from by omega]
    refine Ev.step (fun k => ?_) ih'
    simp only [unit_dated.l1]
    rw [if_pos (by omega), if_pos (by omega), if_pos (by omega), w64 (x := x9 + _) (by omega) (by omega), w64_succ hil (by omega)]
theorem padL_ne (n d : Nat) : padL n d ≠ [] := fun h => by have := padL_len n d; rw [h] at this; have := dec_len_pos n; simp at *; omega
theorem pad_atoi {n : Nat} {d : Nat} (hn : n < 10000000000000000) (hd : d ≤ 16) : strconv_Atoi.f (bs (padL n d)) = some ((n : Int), none) :=
  atoi_of (by have := padL_len n d; have := dlen hn; omega) (atoi_digs (padL_digs n d) (padL_ne n d) (padL_val n d))
theorem dated_of {Y : Int} {m : Nat} {r : Int} (a1 : 1 ≤ Y) (a2 : Y ≤ 2880) (a3 : m < 12) (a4 : 0 ≤ r) (a5 : r < 31) : Ev (fun k => unit_dated.f k (bs (dtext Y m r))) (bg Y + ((szs Y).take m).sum + r, true) := by
  have hlen : (dtext Y m r).length ≤ 50 := by
    have d1 := dlen (n := Y.toNat) (by omega); have d2 := dlen (n := ((m : Int) + 1).toNat) (by omega); have d3 := dlen (n := (r + 1).toNat) (by omega)
    have p1 := padL_len Y.toNat 4; have p2 := padL_len ((m : Int) + 1).toNat 2; have p3 := padL_len (r + 1).toNat 2
    unfold dtext; simp only [List.length_append, List.length_cons]; omega
  have hs : strings_Split.f (bs (dtext Y m r)) (⟨#[45]⟩ : ByteArray) = some [bs (padL Y.toNat 4), bs (padL ((m : Int) + 1).toNat 2), bs (padL (r + 1).toNat 2)] := by
    unfold strings_Split.f
    rw [lit45, if_pos ⟨by rw [bs_size]; omega, by rw [bs_size]; decide⟩]
    congr 1
    exact split3 (ne_of_digs (padL_digs _ _) (by decide)) (ne_of_digs (padL_digs _ _) (by decide)) (ne_of_digs (padL_digs _ _) (by decide))
  have e1 := pad_atoi (n := Y.toNat) (d := 4) (by omega) (by omega)
  have e2 := pad_atoi (n := ((m : Int) + 1).toNat) (d := 2) (by omega) (by omega)
  have e3 := pad_atoi (n := (r + 1).toNat) (d := 2) (by omega) (by omega)
  rw [show ((Y.toNat : Nat) : Int) = Y from by omega] at e1
  rw [show ((((m : Int) + 1).toNat : Nat) : Int) = (m : Int) + 1 from by omega] at e2
  rw [show (((r + 1).toNat : Nat) : Int) = r + 1 from by omega] at e3
  have hm : ∀ x ∈ (szs Y).take m, 0 ≤ x ∧ x ≤ 31 := fun x hx => by have := szs_mem Y x (List.mem_of_mem_take hx); omega
  have htl : ((szs Y).take m).length = m := by rw [List.length_take, szs_len]; omega
  have hbb : 0 ≤ bg Y ∧ bg Y ≤ 1500000 := by unfold bg; omega
  have hsum : bg Y + r + ((szs Y).take m).sum = bg Y + ((szs Y).take m).sum + r := by omega
  have hfin := dated_l1 (szs Y) ((szs Y).take m) hm (by omega) m 0 (bg Y + r) (by omega) (by omega) (by omega)
  rw [List.drop_zero, hsum] at hfin
  unfold unit_dated.f
  rw [hs]
  simp only [Option.bind_some]
  obtain ⟨P1, hP1⟩ : ∃ P, P = bs (padL Y.toNat 4) := ⟨_, rfl⟩
  obtain ⟨P2, hP2⟩ : ∃ P, P = bs (padL ((m : Int) + 1).toNat 2) := ⟨_, rfl⟩
  obtain ⟨P3, hP3⟩ : ∃ P, P = bs (padL (r + 1).toNat 2) := ⟨_, rfl⟩
  rw [← hP1] at e1 ⊢
  rw [← hP2] at e2 ⊢
  rw [← hP3] at e3 ⊢
  have g1 : strconv_Atoi.f (rdOf ByteArray.empty [P1, P2, P3] 0) = some (Y, none) := e1
  have g2 : strconv_Atoi.f (rdOf ByteArray.empty [P1, P2, P3] 1) = some ((m : Int) + 1, none) := e2
  have g3 : strconv_Atoi.f (rdOf ByteArray.empty [P1, P2, P3] 2) = some (r + 1, none) := e3
  show Ev (fun k => unit_dated.l0 k [] [P1, P2, P3] 3 0) _
  refine Ev.step (f := fun k => unit_dated.l0 k [Y] [P1, P2, P3] 3 1) (fun k => ?_) ?_
  · simp only [unit_dated.l0]
    rw [if_pos (by decide), if_pos (by decide), if_pos (by simp), g1]
    simp only [Option.bind_some]
    rw [if_pos (show (none : Option Int).isNone = true from rfl), if_pos (by simp), w64 (by omega) (by omega)]
    rfl
  refine Ev.step (f := fun k => unit_dated.l0 k [Y, (m : Int) + 1] [P1, P2, P3] 3 2) (fun k => ?_) ?_
  · simp only [unit_dated.l0]
    rw [if_pos (by decide), if_pos (by decide), if_pos (by simp), g2]
    simp only [Option.bind_some]
    rw [if_pos (show (none : Option Int).isNone = true from rfl), if_pos (by simp), w64 (by omega) (by omega)]
    rfl
  refine Ev.step (f := fun k => unit_dated.l0 k [Y, (m : Int) + 1, r + 1] [P1, P2, P3] 3 3) (fun k => ?_) ?_
  · simp only [unit_dated.l0]
    rw [if_pos (by decide), if_pos (by decide), if_pos (by simp), g3]
    simp only [Option.bind_some]
    rw [if_pos (show (none : Option Int).isNone = true from rfl), if_pos (by simp), w64 (by omega) (by omega)]
    rfl
  have r0 : rd [Y, (m : Int) + 1, r + 1] 0 = Y := rfl
  have r1 : rd [Y, (m : Int) + 1, r + 1] 1 = (m : Int) + 1 := rfl
  have r2 : rd [Y, (m : Int) + 1, r + 1] 2 = r + 1 := rfl
  refine Ev.step (f := fun k => unit_dated.j1 k [Y, (m : Int) + 1, r + 1] false) (fun k => ?_) ?_
  · simp only [unit_dated.l0]
    rw [if_neg (by decide), if_pos (by simp), r0, r1, if_neg (by omega), if_neg (by omega), if_pos (by simp), if_neg (by omega), decide_eq_false (by omega)]
  refine Ev.step (fun k => ?_) hfin
  simp only [unit_dated.j1]
  rw [if_neg (by decide), if_pos (by simp), r0, r1, r2, bg_of (by omega) (by omega), szs_of (by omega) (by omega)]
  simp only [Option.bind_some]
  rw [if_pos (by simp), if_pos (by simp), w64 (x := (m : Int) + 1 - 1) (by omega) (by omega), if_pos (by omega), if_pos (by rw [szs_len]; omega), show ((m : Int) + 1 - 1).toNat = m from by omega,
    w64 (x := bg Y + (r + 1)) (by omega) (by omega), w64 (by omega) (by omega), show bg Y + (r + 1) - 1 = bg Y + r from by omega]
  rfl
theorem ends_no {X D : List UInt8} (hD : Digs D) (hn : D ≠ []) (h : (X ++ D).length ≤ 1000) {s : List UInt8} {d : UInt8} (hd : ¬ dg1 d) : strings_HasSuffix.f (bs (X ++ D)) (bs (s ++ [d])) = some false := by
  obtain ⟨B, c, rfl, hc⟩ := last_of hD hn
  rw [← List.append_assoc] at h ⊢
  exact hs_no (dg1_ne hc hd) h
/-- what a text is read as -/
structure Reads (c x : Int) (A : List UInt8) : Prop where
  len : A.length ≤ 40
  text : Ev (fun k => unit_Text.f k c x) (bs A)
  form : Ev (fun k => unit_form.f k (bs A)) c
  number : Ev (fun k => unit_number.f k c (bs A)) (x, true)
theorem number_cut {c : Int} (h : c = 2 ∨ c = 3 ∨ c = 5 ∨ c = 6) {A A1 A2 X Y : List UInt8} {b : Bool} {n : Int} (h1 : strings_TrimSuffix.f (bs A) (bs ([] ++ [37])) = some (bs A1)) (h2 : strings_TrimSuffix.f (bs A1) (bs ([32, 100, 97, 121] ++ [115])) = some (bs A2)) (h3 : Go.Lib.cut A2 [46] = (X, Y, b)) (h5 : A2.length ≤ 1000)
    (h4 : (c = 6 ∧ Y.length ≤ 4 ∧ X.length ≤ 14 ∧ Go.Lib.atoi (X ++ (Y ++ List.replicate (4 - Y.length) 48)) = some n) ∨ (c ≠ 6 ∧ X.length + Y.length ≤ 18 ∧ Go.Lib.atoi (X ++ Y) = some n)) : Ev (fun k => unit_number.f k c (bs A)) (n, true) := by
  have h3' := cut_of A2 46 h5
  rw [h3] at h3'
  have e1 : strings_TrimSuffix.f (bs A) (⟨#[37]⟩ : ByteArray) = some (bs A1) := h1
  have e2 : strings_TrimSuffix.f (bs A1) (⟨#[32, 100, 97, 121, 115]⟩ : ByteArray) = some (bs A2) := h2
  have e3 : strings_Cut.f (bs A2) (⟨#[46]⟩ : ByteArray) = some (bs X, bs Y, b) := h3'
  unfold unit_number.f
  refine Ev.ifn (by omega) (Ev.ifn (by omega) (Ev.ifn (by omega) ?_))
  rw [e1]; simp only [Option.bind_some]
  rw [e2]; simp only [Option.bind_some]
  rw [e3]; simp only [Option.bind_some]
  rcases h4 with ⟨hc, hY, hX, ha⟩ | ⟨hc, hl, ha⟩
  · refine Ev.ifp hc (Ev.step (f := fun _ => some (n, true)) (fun k => ?_) (Ev.now _))
    simp only [unit_number.j0]
    rw [if_pos (by rw [bs_size]; exact decide_eq_true (by omega)), bs_size, w64 (x := 4 - (Y.length : Int)) (by omega) (by omega), rep0 (by omega) (by omega), show ((4 : Int) - (Y.length : Int)).toNat = 4 - Y.length from by omega]
    simp only [Option.bind_some, bs_append, bs_size]
    have hl : (List.replicate (4 - Y.length) (48 : UInt8)).length = 4 - Y.length := List.length_replicate
    rw [if_pos (by omega), if_pos (by rw [List.length_append]; omega), atoi_of (by simp only [List.length_append]; omega) ha]
    rfl
  · refine Ev.ifn hc (Ev.step (f := fun _ => some (n, true)) (fun k => ?_) (Ev.now _))
    simp only [unit_number.j0]
    simp only [bs_append, bs_size]
    rw [if_neg (by decide), if_pos (by omega), atoi_of (by rw [List.length_append]; omega) ha]
    rfl
theorem sgn_ne46 (x : Int) : ∀ b ∈ sgn x, b ≠ 46 := by unfold sgn; split <;> simp
theorem app_ne {A B : List UInt8} {c : UInt8} (h : ∀ b ∈ A, b ≠ c) (h' : ∀ b ∈ B, b ≠ c) : ∀ b ∈ A ++ B, b ≠ c := fun b hb => (List.mem_append.1 hb).elim (h b) (h' b)
theorem reads2 {x : Int} (h0 : uLo 2 ≤ x) (h1 : x ≤ uHi 2) : ∃ A, Reads 2 x A := by
  have hf := fit_in (c := 2) (by omega) (by omega) h0 h1
  have l0 : -1099511627776 ≤ x := h0
  have l1 : x ≤ 1099511627776 := h1
  obtain ⟨W, T, T', j, hW, hWT, hT, hTT, hTl, hWl, hev⟩ := point_of (n := x) (p := 2) (m := 2) (by omega) (by omega) (by omega) (by omega) (by omega)
  have hj : j = 0 := by have := congrArg List.length hTT; simp at this; omega
  subst hj
  obtain rfl : T = T' := by simpa using hTT
  have hTn : T ≠ [] := fun h => by rw [h] at hT; simp at hT
  rw [if_neg hTn] at hev
  have hd : Digs (W ++ T) := hWT ▸ padL_digs _ _
  have hlen : (W ++ T).length ≤ 16 := by
    rw [hWT, padL_len]; have := dlen (n := x.natAbs) (by omega); omega
  have hl2 : W.length + T.length ≤ 16 := by rw [← List.length_append]; exact hlen
  have hs := sgn_len x
  have hA : (sgn x ++ W ++ 46 :: T).length ≤ 40 := by simp only [List.length_append, List.length_cons]; omega
  have hA' : sgn x ++ W ++ 46 :: T = (sgn x ++ W ++ [46]) ++ T := by simp
  have n1 : ∀ (s : List UInt8) {d : UInt8}, ¬ dg1 d → strings_HasSuffix.f (bs (sgn x ++ W ++ 46 :: T)) (bs (s ++ [d])) = some false := fun s d hd' => by
    rw [hA'] at hA ⊢; exact ends_no hd.right hTn (by omega) hd'
  have n46 : ∀ b ∈ sgn x ++ W, b ≠ 46 := app_ne (sgn_ne46 x) (ne_of_digs hd.left (by decide))
  refine ⟨sgn x ++ W ++ 46 :: T, hA, ?_, form_num (numeral_of hW hd.left) ?_, ?_⟩
  · unfold unit_Text.f
    rw [hf]; simp only [Option.bind_some]
    refine Ev.ifn (by decide) (Ev.ifp (by first | trivial | rfl) (Ev.bind hev (Ev.now _)))
  · have e1 : strings_HasSuffix.f (bs (sgn x ++ W ++ 46 :: T)) (⟨#[37]⟩ : ByteArray) = some false := n1 [] (by decide)
    have e2 : strings_HasSuffix.f (bs (sgn x ++ W ++ 46 :: T)) (⟨#[32, 100, 97, 121, 115]⟩ : ByteArray) = some false := n1 [32, 100, 97, 121] (by decide)
    have e3 : strings_Contains.f (bs (sgn x ++ W ++ 46 :: T)) (⟨#[46]⟩ : ByteArray) = some true := by rw [lit46, con_of _ _ (by omega), Go.Proofs.YtkjneemcledfjaaDoor.StrLaw.contains_yes n46]
    rw [e1, e2, e3]; rfl
  · refine number_cut (Or.inl rfl) (ts_no (n1 [] (by decide))) (ts_no (n1 [32, 100, 97, 121] (by decide))) (cut_yes n46) (by omega) (Or.inr ⟨by decide, by rw [List.length_append]; omega, ?_⟩)
    rw [List.append_assoc]
    exact atoi_sgn hd (by simp [hW]) (by rw [hWT, padL_val])
theorem reads6 {x : Int} (h0 : uLo 6 ≤ x) (h1 : x ≤ uHi 6) : ∃ A, Reads 6 x A := by
  have hf := fit_in (c := 6) (by omega) (by omega) h0 h1
  have l0 : -1000000000 ≤ x := h0
  have l1 : x ≤ 1000000000 := h1
  obtain ⟨W, T, T', j, hW, hWT, hT, hTT, hTl, hWl, hev⟩ := point_of (n := x) (p := 4) (m := 0) (by omega) (by omega) (by omega) (by omega) (by omega)
  have hd : Digs (W ++ T) := hWT ▸ padL_digs _ _
  have hd' : Digs T' := by have := hd.right; rw [hTT] at this; exact this.left
  have hj : T'.length + j = 4 := by have := congrArg List.length hTT; simp at this; omega
  have hlen : (W ++ T).length ≤ 12 := by
    rw [hWT, padL_len]; have := dec_len_le (u := x.natAbs) (k := 11) (by omega); omega
  have hl2 : W.length + T.length ≤ 12 := by rw [← List.length_append]; exact hlen
  have hs := sgn_len x
  have n46 : ∀ b ∈ sgn x ++ W, b ≠ 46 := app_ne (sgn_ne46 x) (ne_of_digs hd.left (by decide))
  obtain ⟨P, hP⟩ : ∃ P, P = (if T' = [] then [] else 46 :: T') := ⟨_, rfl⟩
  rw [← hP] at hev
  have hPl : P.length ≤ 5 := by rw [hP]; split <;> simp; omega
  have hB : (sgn x ++ W ++ P).length ≤ 30 := by simp only [List.length_append]; omega
  have n1 : ∀ (s : List UInt8) {d : UInt8}, ¬ dg1 d → strings_HasSuffix.f (bs (sgn x ++ W ++ P)) (bs (s ++ [d])) = some false := fun s d hdd => by
    by_cases hT' : T' = []
    · rw [hP, if_pos hT', List.append_nil] at hB ⊢
      exact ends_no hd.left hW (by omega) hdd
    · rw [hP, if_neg hT', show sgn x ++ W ++ 46 :: T' = (sgn x ++ W ++ [46]) ++ T' by simp] at hB ⊢
      exact ends_no hd' hT' (by omega) hdd
  have hcut : ∃ b, Go.Lib.cut (sgn x ++ W ++ P) [46] = (sgn x ++ W, T', b) := by
    by_cases hT' : T' = []
    · rw [hP, if_pos hT', List.append_nil, hT']; exact ⟨_, cut_no n46⟩
    · rw [hP, if_neg hT']; exact ⟨_, cut_yes n46⟩
  obtain ⟨b, hcut⟩ := hcut
  have hA : (sgn x ++ W ++ P ++ [37]).length ≤ 40 := by simp only [List.length_append, List.length_singleton] at hB ⊢; omega
  refine ⟨sgn x ++ W ++ P ++ [37], hA, ?_, form_num (by rw [List.append_assoc]; exact numeral_of hW hd.left) ?_, ?_⟩
  · unfold unit_Text.f
    rw [hf]; simp only [Option.bind_some]
    refine Ev.ifn (by decide) (Ev.ifn (by decide) (Ev.ifn (by decide) (Ev.ifn (by decide) (Ev.ifn (by decide) (Ev.ifp (by first | trivial | rfl) (Ev.bind hev ?_))))))
    rw [lit37]; simp only [bs_append, bs_size]
    exact Ev.ifp (by omega) (Ev.now _)
  · have e1 : strings_HasSuffix.f (bs (sgn x ++ W ++ P ++ [37])) (⟨#[37]⟩ : ByteArray) = some true := hs_yes _ [37] (by omega)
    rw [e1]; rfl
  · refine number_cut (Or.inr (Or.inr (Or.inr rfl))) (ts_yes (s := [37]) (by omega)) (ts_no (n1 [32, 100, 97, 121] (by decide))) hcut (by omega) (Or.inl ⟨rfl, by omega, by rw [List.length_append]; omega, ?_⟩)
    rw [show 4 - T'.length = j from by omega, ← hTT, List.append_assoc]
    exact atoi_sgn hd (by simp [hW]) (by rw [hWT, padL_val])
theorem reads35 {c x : Int} (hc : c = 3 ∨ c = 5) (l0 : -1048576 ≤ x) (l1 : x ≤ 1048576) : ∃ A, Reads c x A := by
  have hf := fit_in (c := c) (by omega) (by omega) (x := x) (by rcases hc with rfl | rfl <;> exact l0) (by rcases hc with rfl | rfl <;> exact l1)
  obtain ⟨D, hD⟩ : ∃ D, D = Go.Lib.decDigits x.natAbs := ⟨_, rfl⟩
  have hd : Digs D := hD ▸ digs_dec _
  have hn : D ≠ [] := hD ▸ dec_ne _
  have hl : D.length ≤ 16 := by rw [hD]; exact dlen (by omega)
  have hs := sgn_len x
  have hB : (sgn x ++ D).length ≤ 17 := by simp only [List.length_append]; omega
  have n46 : ∀ b ∈ sgn x ++ D, b ≠ 46 := app_ne (sgn_ne46 x) (ne_of_digs hd (by decide))
  have n1 : ∀ (s : List UInt8) {d : UInt8}, ¬ dg1 d → strings_HasSuffix.f (bs (sgn x ++ D)) (bs (s ++ [d])) = some false := fun s d hdd => ends_no hd hn (by omega) hdd
  have hat : Go.Lib.atoi (sgn x ++ D ++ []) = some x := by rw [List.append_nil]; exact atoi_sgn hd hn (by rw [hD, decFrom_dec])
  have hit : strconv_Itoa.f x = some (bs (sgn x ++ D)) := by rw [itoa_of (by omega) (by omega), hD]
  rcases hc with rfl | rfl
  · have hA : (sgn x ++ D ++ ([32, 100, 97, 121] ++ [115])).length ≤ 40 := by simp only [List.length_append, List.length_cons, List.length_nil] at hB ⊢; omega
    refine ⟨sgn x ++ D ++ ([32, 100, 97, 121] ++ [115]), hA, ?_, form_num (numeral_of hn hd) ?_, ?_⟩
    · unfold unit_Text.f
      rw [hf]; simp only [Option.bind_some, hit]
      refine Ev.ifn (by decide) (Ev.ifn (by decide) (Ev.ifp (by first | trivial | rfl) ?_))
      rw [litD]; simp only [bs_append, bs_size]
      exact Ev.ifp (by omega) (Ev.now _)
    · have e1 : strings_HasSuffix.f (bs (sgn x ++ D ++ ([32, 100, 97, 121] ++ [115]))) (⟨#[37]⟩ : ByteArray) = some false := by
        rw [← List.append_assoc] at hA ⊢; exact hs_no (s := []) (by decide) (by omega)
      have e2 : strings_HasSuffix.f (bs (sgn x ++ D ++ ([32, 100, 97, 121] ++ [115]))) (⟨#[32, 100, 97, 121, 115]⟩ : ByteArray) = some true := hs_yes _ _ (by omega)
      rw [e1, e2]; rfl
    · refine number_cut (Or.inr (Or.inl rfl)) (A1 := sgn x ++ D ++ ([32, 100, 97, 121] ++ [115])) (ts_no ?_) (ts_yes (by omega)) (cut_no n46) (by omega) (Or.inr ⟨by decide, by simp only [List.length_nil]; omega, hat⟩)
      rw [← List.append_assoc] at hA ⊢; exact hs_no (s := []) (by decide) (by omega)
  · refine ⟨sgn x ++ D, by omega, ?_, form_num (by rw [← List.append_nil (sgn x ++ D)]; exact numeral_of hn hd) ?_, ?_⟩
    · unfold unit_Text.f
      rw [hf]; simp only [Option.bind_some, hit]
      exact Ev.ifn (by decide) (Ev.ifn (by decide) (Ev.ifn (by decide) (Ev.ifn (by decide) (Ev.ifp (by first | trivial | rfl) (Ev.now _)))))
    · have e1 : strings_HasSuffix.f (bs (sgn x ++ D)) (⟨#[37]⟩ : ByteArray) = some false := n1 [] (by decide)
      have e2 : strings_HasSuffix.f (bs (sgn x ++ D)) (⟨#[32, 100, 97, 121, 115]⟩ : ByteArray) = some false := n1 [32, 100, 97, 121] (by decide)
      have e3 : strings_Contains.f (bs (sgn x ++ D)) (⟨#[46]⟩ : ByteArray) = some false := by rw [lit46, con_of _ _ (by omega), Go.Proofs.YtkjneemcledfjaaDoor.StrLaw.contains_no n46]
      have e4 : strings_Count.f (bs (sgn x ++ D)) (⟨#[45]⟩ : ByteArray) = some (((sgn x).count 45 : Nat) : Int) := by rw [lit45, cnt_of, List.count_append, count_no (ne_of_digs hd (by decide)), Nat.add_zero]
      have h2 : (sgn x).count 45 ≤ 1 := Nat.le_trans List.count_le_length hs
      rw [e1, e2, e3, e4]
      simp only [Option.bind_some]
      rw [if_neg (by decide), if_neg (by decide), if_neg (by decide), if_neg (by omega)]
    · exact number_cut (Or.inr (Or.inr (Or.inl rfl))) (ts_no (n1 [] (by decide))) (ts_no (n1 [32, 100, 97, 121] (by decide))) (cut_no n46) (by omega) (Or.inr ⟨by decide, by simp only [List.length_nil]; omega, hat⟩)
theorem reads4 {x : Int} (l0 : 0 ≤ x) (l1 : x ≤ 1048575) : ∃ A, Reads 4 x A := by
  have hf := fit_in (c := 4) (by omega) (by omega) (x := x) l0 l1
  obtain ⟨Y, m, r, a1, a2, a3, a4, a5, a6, hev⟩ := date_of l0 l1
  have hdt := dated_of a1 a2 a3 a4 a5
  rw [a6] at hdt
  have d1 := dec_len_le (u := Y.toNat) (k := 3) (by omega); have d2 := dec_len_le (u := ((m : Int) + 1).toNat) (k := 1) (by omega); have d3 := dec_len_le (u := (r + 1).toNat) (k := 1) (by omega)
  have p1 := padL_len Y.toNat 4; have p2 := padL_len ((m : Int) + 1).toNat 2; have p3 := padL_len (r + 1).toNat 2
  have g1 := padL_digs Y.toNat 4; have g2 := padL_digs ((m : Int) + 1).toNat 2; have g3 := padL_digs (r + 1).toNat 2
  have q1 := padL_ne Y.toNat 4; have q3 := padL_ne (r + 1).toNat 2
  have hA : (dtext Y m r).length ≤ 40 := by unfold dtext; simp only [List.length_append, List.length_cons]; omega
  have hA' : dtext Y m r = (padL Y.toNat 4 ++ 45 :: (padL ((m : Int) + 1).toNat 2 ++ [45])) ++ padL (r + 1).toNat 2 := by unfold dtext; simp
  have n1 : ∀ (s : List UInt8) {d : UInt8}, ¬ dg1 d → strings_HasSuffix.f (bs (dtext Y m r)) (bs (s ++ [d])) = some false := fun s d hdd => by
    rw [hA'] at hA ⊢; exact ends_no g3 q3 (by omega) hdd
  refine ⟨dtext Y m r, hA, ?_, form_num ?_ ?_, ?_⟩
  · unfold unit_Text.f
    rw [hf]; simp only [Option.bind_some]
    exact Ev.ifn (by decide) (Ev.ifn (by decide) (Ev.ifn (by decide) (Ev.ifp (by first | trivial | rfl) (Ev.bind hev (Ev.now _)))))
  · have := numeral_of (n := 0) (r := 45 :: (padL ((m : Int) + 1).toNat 2 ++ 45 :: padL (r + 1).toNat 2)) q1 g1
    exact this
  · have e1 : strings_HasSuffix.f (bs (dtext Y m r)) (⟨#[37]⟩ : ByteArray) = some false := n1 [] (by decide)
    have e2 : strings_HasSuffix.f (bs (dtext Y m r)) (⟨#[32, 100, 97, 121, 115]⟩ : ByteArray) = some false := n1 [32, 100, 97, 121] (by decide)
    have n46 : ∀ b ∈ dtext Y m r, b ≠ 46 := by
      have z : ∀ {l : List UInt8}, (∀ b ∈ l, b ≠ 46) → ∀ b ∈ (45 : UInt8) :: l, b ≠ 46 := fun h b hb => (List.mem_cons.1 hb).elim (fun e => by rw [e]; decide) (h b)
      exact app_ne (ne_of_digs g1 (by decide)) (z (app_ne (ne_of_digs g2 (by decide)) (z (ne_of_digs g3 (by decide)))))
    have e3 : strings_Contains.f (bs (dtext Y m r)) (⟨#[46]⟩ : ByteArray) = some false := by rw [lit46, con_of _ _ (by omega), Go.Proofs.YtkjneemcledfjaaDoor.StrLaw.contains_no n46]
    have e4 : strings_Count.f (bs (dtext Y m r)) (⟨#[45]⟩ : ByteArray) = some 2 := by
      rw [lit45, cnt_of]; unfold dtext
      rw [List.count_append, List.count_cons_self, List.count_append, List.count_cons_self, count_no (ne_of_digs g1 (by decide)), count_no (ne_of_digs g2 (by decide)), count_no (ne_of_digs g3 (by decide))]
      rfl
    rw [e1, e2, e3, e4]; rfl
  · unfold unit_number.f
    exact Ev.ifn (by decide) (Ev.ifn (by decide) (Ev.ifp rfl (Ev.bind hdt (Ev.now _))))
theorem reads0 : ∃ A, Reads 0 0 A := ⟨[110, 111, 110, 101], by decide, ⟨0, fun k _ => rfl⟩, le_ev (f := fun k => unit_form.f k (bs [110, 111, 110, 101])) (unit_form.mono _) 1 (by decide +kernel), ⟨0, fun k _ => rfl⟩⟩
theorem reads1 {x : Int} (h : x = 0 ∨ x = 1) : ∃ A, Reads 1 x A := by
  rcases h with rfl | rfl
  · exact ⟨[102, 97, 108, 115, 101], by decide, ⟨0, fun k _ => rfl⟩, le_ev (f := fun k => unit_form.f k (bs [102, 97, 108, 115, 101])) (unit_form.mono _) 1 (by decide +kernel), ⟨0, fun k _ => rfl⟩⟩
  · exact ⟨[116, 114, 117, 101], by decide, ⟨0, fun k _ => rfl⟩, le_ev (f := fun k => unit_form.f k (bs [116, 114, 117, 101])) (unit_form.mono _) 1 (by decide +kernel), ⟨0, fun k _ => rfl⟩⟩
theorem values_of : Ev (fun k => mootkeep1_values.f k) true := by
  have hf := fit_in (c := 2) (by omega) (by omega) (x := 7) (by decide) (by decide)
  obtain ⟨W, T, T', j, hW, hWT, hT, hTT, hTl, hWl, hev⟩ := point_of (n := 7) (p := 2) (m := 2) (by decide) (by omega) (by omega) (by omega) (by omega)
  have hj : j = 0 := by have := congrArg List.length hTT; simp at this; omega
  subst hj
  obtain rfl : T = T' := by simpa using hTT
  have hTn : T ≠ [] := fun h => by rw [h] at hT; simp at hT
  rw [if_neg hTn] at hev
  have hp : padL (7 : Int).natAbs ((2 : Int) + 1).toNat = [48] ++ [48, 55] := by
    unfold padL
    rw [show Go.Lib.decDigits (7 : Int).natAbs = [55] from Go.Lib.decDigits_one (by decide)]
    rfl
  rw [hp] at hWT
  obtain ⟨e1, e2⟩ := List.append_inj' hWT (by simp; omega)
  subst e1 e2
  unfold mootkeep1_values.f
  refine Ev.bind (a := bs (sgn 7 ++ [48] ++ 46 :: [48, 55])) ?_ ?_
  · unfold unit_Text.f
    rw [hf]; simp only [Option.bind_some]
    exact Ev.ifn (by decide) (Ev.ifp (by first | trivial | rfl) (Ev.bind hev (Ev.now _)))
  · rw [bs_toList]; exact Ev.to rfl
theorem check_of {c x : Int} (h : ∃ lo hi, unit_Range.f c = some (lo, hi) ∧ lo ≤ x ∧ x ≤ hi) (h0 : 0 ≤ c) (h1 : c ≤ 6) : unit_Check.f c x = some 0 ∧ unit_Fit.f c x = some (c, x) := by
  obtain ⟨lo, hi, hr, a, b⟩ := h
  have hk : unit_known.f c = some true := by unfold unit_known.f; rw [if_pos h0, decide_eq_true h1]
  unfold unit_Check.f unit_Fit.f
  rw [hr, hk]
  simp only [Option.bind_some, if_true]
  refine ⟨by rw [if_neg (by omega), if_neg (by omega)], ?_⟩
  congr 2
  unfold mx mn; repeat' split <;> omega
theorem read_of {c x : Int} {A : List UInt8} (h : Reads c x A) (hk : unit_Check.f c x = some 0) : Ev (fun k => unit_Read.f k (bs A)) (c, x, 0) := by
  unfold unit_Read.f
  have := h.len
  refine Ev.ifn (by rw [bs_size]; omega) (Ev.bind h.form (Ev.bind h.number (Ev.ifp rfl ?_)))
  simp only [hk, Option.bind_some]
  exact Ev.ifp trivial (Ev.bind h.text (Ev.ifp rfl (Ev.now _)))
theorem all_valued (a0 n : Int) : ∃ c x, mootkeep1_valued.f a0 n = some (c, x) ∧ unit_Check.f c x = some 0 ∧ unit_Fit.f c x = some (c, x) ∧ ∃ A, Reads c x A := by
  have hb := below_range a0 7 (by omega)
  obtain ⟨c, hc⟩ : ∃ c, c = a0 % 7 := ⟨_, rfl⟩
  have hcc : mootmake_Below.f a0 7 = mootmake_Below.f c 7 := by rw [below_of _ _ (by omega) (by omega), below_of _ _ (by omega) (by omega)]; congr 1; omega
  have hv : mootkeep1_valued.f a0 n = mootkeep1_valued.f c n := by unfold mootkeep1_valued.f; rw [hcc]
  rw [hv]
  have : c = 0 ∨ c = 1 ∨ 2 ≤ c := by omega
  rcases this with rfl | rfl | h2
  · have hz := below_of n 1 (by omega) (by omega)
    refine ⟨0, 0, ?_, (check_of ⟨0, 0, rfl, by omega, by omega⟩ (by omega) (by omega)).1, (check_of ⟨0, 0, rfl, by omega, by omega⟩ (by omega) (by omega)).2, reads0⟩
    unfold mootkeep1_valued.f
    rw [below_of _ _ (by omega) (by omega)]
    simp only [Option.bind_some]
    rw [show (0 : Int) % 7 = 0 by omega, show unit_Range.f 0 = some (0, 0) from rfl]
    simp only [Option.bind_some]
    rw [show wrap64 (wrap64 ((0 : Int) - 0) + 1) = 1 by simp [wrap64], hz]
    simp only [Option.bind_some]
    rw [w64 (by omega) (by omega)]
    congr 2; omega
  · have hz := below_of n 2 (by omega) (by omega)
    have hm := below_range n 2 (by omega)
    refine ⟨1, n % 2, ?_, (check_of ⟨0, 1, rfl, by omega, by omega⟩ (by omega) (by omega)).1, (check_of ⟨0, 1, rfl, by omega, by omega⟩ (by omega) (by omega)).2, reads1 (by omega)⟩
    unfold mootkeep1_valued.f
    rw [below_of _ _ (by omega) (by omega)]
    simp only [Option.bind_some]
    rw [show (1 : Int) % 7 = 1 by omega, show unit_Range.f 1 = some (0, 1) from rfl]
    simp only [Option.bind_some]
    rw [show wrap64 (wrap64 ((1 : Int) - 0) + 1) = 2 by simp [wrap64], hz]
    simp only [Option.bind_some]
    rw [w64 (by omega) (by omega)]
    congr 2; omega
  · obtain ⟨x, hx, xl, xh⟩ := valued_of h2 (by omega) n
    obtain ⟨hr, _⟩ := range_of h2 (by omega)
    have hk := check_of ⟨_, _, hr, xl, xh⟩ (by omega) (by omega)
    refine ⟨c, x, hx, hk.1, hk.2, ?_⟩
    have : c = 2 ∨ c = 3 ∨ c = 4 ∨ c = 5 ∨ c = 6 := by omega
    rcases this with rfl | rfl | rfl | rfl | rfl
    · exact reads2 xl xh
    · exact reads35 (Or.inl rfl) xl xh
    · exact reads4 xl xh
    · exact reads35 (Or.inr rfl) xl xh
    · exact reads6 xl xh
theorem UnitBack : mootkeep1_UnitBack.Pure := by
  intro a0 a1
  intros
  obtain ⟨c, x, hv, hk, hf, A, hA⟩ := all_valued a0 a1
  refine Ev.rounds (g := fun k => mootkeep1_UnitBack.f k a0 a1) ?_
  unfold mootkeep1_UnitBack.f
  rw [hv]
  simp only [Option.bind_some]
  refine Ev.bind hA.text (Ev.bind (read_of hA hk) (Ev.bind values_of (Ev.ifp rfl ?_)))
  simp only [hk, hf, Option.bind_some]
  refine Ev.ifp trivial (Ev.ifp (by simp) (Ev.ifp trivial (Ev.to (by simp))))
end Go.Proofs.YtkjneemcledfjaaDoor.Pure
