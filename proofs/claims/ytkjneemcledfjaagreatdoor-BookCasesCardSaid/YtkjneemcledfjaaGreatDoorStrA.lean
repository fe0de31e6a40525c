/- Byte strings of digits: plain laws (mine). -/
import Derived.Lib.ItoaMem
import Derived.Lib.Atoi
import Derived.Lib.Split
import Derived.Lib.Repeat
import Derived.Lib.IndexMore
namespace Go.Proofs.YtkjneemcledfjaaGreatDoor.StrLaw
open Go Go.Lib

/-- a list of bytes as a string -/
def bs (l : List UInt8) : ByteArray := ⟨l.toArray⟩
theorem bs_size (l : List UInt8) : (bs l).size = l.length := by simp [bs, ByteArray.size]
theorem bs_data (l : List UInt8) : (bs l).data.toList = l := rfl
theorem bs_toList (l : List UInt8) : (bs l).toList = l := by rw [ByteArray.toList_eq]; rfl
theorem bs_append (a b : List UInt8) : bs a ++ bs b = bs (a ++ b) := by
  apply ByteArray.ext; simp [bs]
theorem bs_extract (l : List UInt8) (i j : Nat) : (bs l).extract i j = bs ((l.take j).drop i) := by
  apply ByteArray.ext
  simp [bs, List.extract_eq_take_drop, List.drop_take]
theorem bs_of (s : ByteArray) : s = bs s.data.toList := by apply ByteArray.ext; simp [bs]
theorem bs_inj {a b : List UInt8} (h : bs a = bs b) : a = b := by rw [← bs_data a, h, bs_data]

/-! #### digits -/
def dg1 (b : UInt8) : Prop := 48 ≤ b.toNat ∧ b.toNat ≤ 57
def Digs (l : List UInt8) : Prop := ∀ b ∈ l, dg1 b
theorem Digs.app {a b : List UInt8} (ha : Digs a) (hb : Digs b) : Digs (a ++ b) := fun x hx => (List.mem_append.1 hx).elim (ha x) (hb x)
theorem Digs.left {a b : List UInt8} (h : Digs (a ++ b)) : Digs a := fun x hx => h x (List.mem_append_left _ hx)
theorem Digs.right {a b : List UInt8} (h : Digs (a ++ b)) : Digs b := fun x hx => h x (List.mem_append_right _ hx)
theorem digs_zeros (k : Nat) : Digs (List.replicate k 48) := fun x hx => by rw [List.eq_of_mem_replicate hx]; exact ⟨by decide, by decide⟩
theorem dg1_of {d : Nat} (h : d < 10) : dg1 (UInt8.ofNat (48 + d)) := by
  have : (UInt8.ofNat (48 + d)).toNat = 48 + d := by rw [UInt8.toNat_ofNat']; omega
  unfold dg1; omega
theorem digitVal_of {d : Nat} (h : d < 10) : digitVal (UInt8.ofNat (48 + d)) = some d := by
  have : (UInt8.ofNat (48 + d)).toNat = 48 + d := by rw [UInt8.toNat_ofNat']; omega
  unfold digitVal
  rw [if_pos (by omega), this]; congr 1; omega
theorem digs_dec : ∀ u, Digs (decDigits u) := by
  intro u
  induction u using Nat.strongRecOn with
  | ind u ih =>
    rw [decDigits]
    split
    · rename_i h
      intro x hx
      rw [List.mem_singleton.1 hx]; exact dg1_of h
    · rename_i h
      exact (ih (u / 10) (by omega)).app (fun x hx => by rw [List.mem_singleton.1 hx]; exact dg1_of (by omega))
theorem dec_ne (u : Nat) : decDigits u ≠ [] := by
  rw [decDigits]; split <;> simp
theorem dec_len_pos (u : Nat) : 1 ≤ (decDigits u).length := List.length_pos_iff.2 (dec_ne u)
theorem decFrom_app : ∀ (a b : List UInt8) (acc : Nat), decFrom acc (a ++ b) = (decFrom acc a).bind fun n => decFrom n b
  | [], b, acc => rfl
  | x :: a, b, acc => by
    simp only [List.cons_append, decFrom]
    cases digitVal x with
    | none => rfl
    | some d => exact decFrom_app a b _
theorem decFrom_zeros : ∀ k, decFrom 0 (List.replicate k 48) = some 0
  | 0 => rfl
  | k + 1 => by
    rw [List.replicate_succ]
    simp only [decFrom]
    rw [show digitVal 48 = some 0 from by decide]
    exact decFrom_zeros k
theorem decFrom_dec : ∀ u, decFrom 0 (decDigits u) = some u := by
  intro u
  induction u using Nat.strongRecOn with
  | ind u ih =>
    rw [decDigits]
    split
    · rename_i h
      simp only [decFrom, digitVal_of h]; simp
    · rename_i h
      rw [decFrom_app, ih (u / 10) (by omega)]
      simp only [Option.bind_some, decFrom, digitVal_of (show u % 10 < 10 by omega)]
      congr 1; omega
/-- a number's digits, with zeros ahead -/
def padL (n d : Nat) : List UInt8 := List.replicate (d - (decDigits n).length) 48 ++ decDigits n
theorem padL_digs (n d : Nat) : Digs (padL n d) := (digs_zeros _).app (digs_dec n)
theorem padL_val (n d : Nat) : decFrom 0 (padL n d) = some n := by unfold padL; rw [decFrom_app, decFrom_zeros]; exact decFrom_dec n
theorem padL_len (n d : Nat) : (padL n d).length = max d (decDigits n).length := by unfold padL; simp; omega
theorem dec_len_le {u : Nat} : ∀ {k : Nat}, u < 10 ^ (k + 1) → (decDigits u).length ≤ k + 1 := by
  induction u using Nat.strongRecOn with
  | ind u ih =>
    intro k h
    rw [decDigits]
    split
    · simp
    · rename_i hb
      cases k with
      | zero => omega
      | succ k =>
        have := ih (u / 10) (by omega) (k := k) (by rw [Nat.pow_succ] at h; omega)
        simp; omega
theorem atoi_digs {l : List UInt8} (hd : Digs l) (hn : l ≠ []) {v : Nat} (h : decFrom 0 l = some v) : atoi l = some (v : Int) := by
  cases l with
  | nil => exact absurd rfl hn
  | cons b r =>
    have hb := hd b (List.mem_cons_self ..)
    unfold atoi
    have h45 : (b == 45) = false := beq_eq_false_iff_ne.2 (fun e => by subst e; unfold dg1 at hb; revert hb; decide)
    have h43 : (b == 43) = false := beq_eq_false_iff_ne.2 (fun e => by subst e; unfold dg1 at hb; revert hb; decide)
    simp only [h45, h43, Bool.false_eq_true, if_false]
    unfold decNat
    simp [h]
theorem atoi_neg {l : List UInt8} (hn : l ≠ []) {v : Nat} (h : decFrom 0 l = some v) : atoi (45 :: l) = some (-(v : Int)) := by
  unfold atoi
  simp only [beq_self_eq_true, if_true]
  unfold decNat
  cases l with
  | nil => exact absurd rfl hn
  | cons b r => simp [h]
/-- the sign of a number, as bytes -/
def sgn (n : Int) : List UInt8 := if n < 0 then [45] else []
theorem atoi_sgn {n : Int} {l : List UInt8} (hd : Digs l) (hn : l ≠ []) (h : decFrom 0 l = some n.natAbs) : atoi (sgn n ++ l) = some n := by
  unfold sgn
  split
  · rw [List.singleton_append, atoi_neg hn h]; congr 1; omega
  · rw [List.nil_append, atoi_digs hd hn h]; congr 1; omega
theorem itoa_sgn (n : Int) : itoa n = sgn n ++ decDigits n.natAbs := by
  unfold itoa sgn
  split
  · rfl
  · rw [List.nil_append]; congr 1; omega
theorem sgn_len (n : Int) : (sgn n).length ≤ 1 := by unfold sgn; split <;> simp

/-! #### a byte in a string -/
theorem ne_of_digs {l : List UInt8} (h : Digs l) {c : UInt8} (hc : ¬ dg1 c) : ∀ b ∈ l, b ≠ c := fun b hb e => hc (e ▸ h b hb)
theorem pre1 (c b : UInt8) (l : List UInt8) : [c].isPrefixOf (b :: l) = (c == b) := by simp [List.isPrefixOf]
theorem index_none : ∀ {A : List UInt8} {c : UInt8}, (∀ b ∈ A, b ≠ c) → index A [c] = -1
  | [], c, _ => rfl
  | b :: A, c, h => by
    unfold index
    rw [pre1, if_neg (by have := h b (List.mem_cons_self ..); simpa using fun e => this e.symm), index_none fun x hx => h x (List.mem_cons_of_mem _ hx)]
    try rfl
theorem index_skip : ∀ {A : List UInt8} {c : UInt8} {B : List UInt8}, (∀ b ∈ A, b ≠ c) → index (A ++ c :: B) [c] = (A.length : Nat)
  | [], c, B, _ => by unfold index; simp [List.isPrefixOf]
  | b :: A, c, B, h => by
    rw [List.cons_append]
    unfold index
    rw [pre1, if_neg (by have := h b (List.mem_cons_self ..); simpa using fun e => this e.symm), index_skip fun x hx => h x (List.mem_cons_of_mem _ hx), if_neg (by simp)]
    simp
theorem contains_no {A : List UInt8} {c : UInt8} (h : ∀ b ∈ A, b ≠ c) : contains A [c] = false := by unfold contains; rw [index_none h]; rfl
theorem contains_yes {A B : List UInt8} {c : UInt8} (h : ∀ b ∈ A, b ≠ c) : contains (A ++ c :: B) [c] = true := by unfold contains; rw [index_skip h]; simp
theorem cut_no {A : List UInt8} {c : UInt8} (h : ∀ b ∈ A, b ≠ c) : cut A [c] = (A, [], false) := by unfold cut; rw [index_none h]; rfl
theorem cut_yes {A B : List UInt8} {c : UInt8} (h : ∀ b ∈ A, b ≠ c) : cut (A ++ c :: B) [c] = (A, B, true) := by
  unfold cut; rw [index_skip h, if_pos (by omega)]
  simp
theorem count_no {A : List UInt8} {c : UInt8} (h : ∀ b ∈ A, b ≠ c) : A.count c = 0 := List.count_eq_zero.2 fun hc => h c hc rfl

/-! #### three fields with a byte between -/
theorem indexB_bs (l s : List UInt8) : indexB (bs l) (bs s) = index l s := rfl
theorem countB_bs (l s : List UInt8) : countB (bs l) (bs s) = count l s := rfl
theorem split3 {A B C : List UInt8} {c : UInt8} (hA : ∀ b ∈ A, b ≠ c) (hB : ∀ b ∈ B, b ≠ c) (hC : ∀ b ∈ C, b ≠ c) :
    splitB (bs [c]) 0 (countB (bs (A ++ c :: (B ++ c :: C))) (bs [c])) (bs (A ++ c :: (B ++ c :: C))) = [bs A, bs B, bs C] := by
  rw [countB_bs, count_hit (by simp) (index_skip hA), show (A ++ c :: (B ++ c :: C)).drop (A.length + [c].length) = B ++ c :: C from by
    rw [show A ++ c :: (B ++ c :: C) = (A ++ [c]) ++ (B ++ c :: C) by simp, List.drop_append_of_le_length (by simp)]; simp,
    count_hit (by simp) (index_skip hB), show (B ++ c :: C).drop (B.length + [c].length) = C from by
    rw [show B ++ c :: C = (B ++ [c]) ++ C by simp, List.drop_append_of_le_length (by simp)]; simp, count_miss (index_none hC)]
  rw [show 1 + (1 + 0) = 1 + 1 from rfl, splitB_hit (bs [c]) 0 1 _ A.length (by rw [indexB_bs, index_skip hA])]
  rw [bs_extract, bs_extract, bs_size, bs_size]
  rw [List.take_of_length_le (l := A ++ c :: (B ++ c :: C)) (Nat.le_refl _), show (A ++ c :: (B ++ c :: C)).drop (A.length + [c].length) = B ++ c :: C from by
    rw [show A ++ c :: (B ++ c :: C) = (A ++ [c]) ++ (B ++ c :: C) by simp, List.drop_append_of_le_length (by simp)]; simp]
  rw [splitB_hit (bs [c]) 0 0 _ B.length (by rw [indexB_bs, index_skip hB]), bs_extract, bs_extract, bs_size, bs_size, splitB_zero]
  rw [List.take_of_length_le (l := B ++ c :: C) (Nat.le_refl _), show (B ++ c :: C).drop (B.length + [c].length) = C from by
    rw [show B ++ c :: C = (B ++ [c]) ++ C by simp, List.drop_append_of_le_length (by simp)]; simp]
  simp
/-- the end of a string -/
theorem suf_yes (A s : List UInt8) : ((A ++ s).drop ((A ++ s).length - s.length) == s) = true := by simp
theorem suf_no {A s : List UInt8} {c d : UInt8} (h : c ≠ d) (hl : (s ++ [d]).length ≤ (A ++ [c]).length) : ((A ++ [c]).drop ((A ++ [c]).length - (s ++ [d]).length) == s ++ [d]) = false := by
  refine beq_eq_false_iff_ne.2 fun e => h ?_
  have h1 := congrArg List.getLast? e
  rw [List.getLast?_drop, if_neg (by simp at hl ⊢; omega)] at h1
  simpa using h1
end Go.Proofs.YtkjneemcledfjaaGreatDoor.StrLaw
