/-
 What the reference's Is computes.
-/
import Derived.Test.YtjgobfbjmlacjaaDoorXPi
set_option linter.unusedSimpArgs false
set_option linter.unusedVariables false
set_option maxRecDepth 100000
namespace Go.Proofs.YtjgobfbjmlacjaaDoor.XP
open Go.RowKit Go.Proofs.YtjgobfbjmlacjaaDoorW.PrintWords Go.Proofs.YtjgobfbjmlacjaaDoorW.PrintLast Go.Proofs.YtjgobfbjmlacjaaDoorW.PrintMore
/-! ### The reference's Is -/
theorem beq_dec (a b : S) : (a == b) = decide (a = b) := by by_cases h : a = b <;> simp [h]
theorem ba_cut (s : S) (i j : Nat) : (ba s).extract i j = ba ((s.drop i).take (j - i)) := by
 apply ByteArray.ext; simp [ba, ByteArray.data_extract, List.extract_toArray, List.extract_eq_take_drop]
def sHundertW : S := [104, 117, 110, 100, 101, 114, 116]
def longFrom (s : S) (i : Nat) : Bool := (List.range' i (s.length + 1 - i)).any fun j => decide ((s.drop j).take 7 = sHundertW)
def long (s : S) : Bool := longFrom s 0
def skip (lg : Bool) (n : Nat) : Bool := decide (99 < n) && decide (1 < n % 100) && !lg
def hitAt (l : Nat) (s : S) (n : Nat) : Bool := (Lib.fields (small l n)).any (· == s) || (Lib.fields (thl l n)).any (· == s)
def hitFrom (l : Nat) (lg : Bool) (s : S) (n m : Nat) : Bool := (List.range' n m).any fun j => !skip lg j && hitAt l s j
def rIs (l : Nat) (s : S) : Bool := match s with
 | [] => false
 | b :: _ => (letterS l).any (fun c => c.toNat == b.toNat) && (decide (s = (units l).getD 0 []) || hitFrom l (long s) s 1 999)
theorem ris_l4 {l : Nat} (s : S) (lg : Bool) (n : Nat) (B : List S) (hB : B.length ≤ 5) (R : Option Bool) (kb : Nat) (hn : n < 1000) (hR : ∀ k, kb ≤ k → XM.newswireref11_Is.l2 k l (ba s) lg ((n + 1 : Nat) : Int) = R) : ∀ (m i k : Nat), i + m = B.length → kb + m + 1 ≤ k →
  XM.newswireref11_Is.l4 k l (ba s) lg n (B.map ba) i = if (B.drop i).any (· == s) = true then some true else R
 | 0, i, k + 1, hi, hk => by
  have hw : wrap64 ((n : Int) + 1) = ((n + 1 : Nat) : Int) := by rw [wrap64_id (by omega) (by omega)]; rfl
  rw [XM.newswireref11_Is.l4, if_neg (by rw [List.length_map]; omega), hw, hR k (by omega), List.drop_of_length_le (by omega)]
  rfl
 | m + 1, i, k + 1, hi, hk => by
  have ih := ris_l4 s lg n B hB R kb hn hR m (i + 1) k (by omega) (by omega)
  have hlt : i < B.length := by omega
  have hg : B.getD i [] = B[i] := by simp [List.getD_eq_getElem?_getD, hlt]
  have hw : wrap64 ((i : Int) + 1) = ((i + 1 : Nat) : Int) := by rw [wrap64_id (by omega) (by omega)]; rfl
  rw [XM.newswireref11_Is.l4, if_pos (by rw [List.length_map]; omega), if_pos (by omega), rd_map, hg, ba_toList, ba_toList, hw, ih, List.drop_eq_getElem_cons hlt, List.any_cons]
  by_cases c : B[i] = s
  ·rw [if_pos c, if_pos (by simp [c])]
  ·have e : (B[i] == s) = false := by simpa using c
   rw [if_neg c, e, Bool.false_or]
theorem ris_l3 {l : Nat} (s : S) (lg : Bool) (n : Nat) (A B : List S) (hA : A.length ≤ 4) (hB : B.length ≤ 5) (R : Option Bool) (kb : Nat) (hn : n < 1000) (hR : ∀ k, kb ≤ k → XM.newswireref11_Is.l2 k l (ba s) lg ((n + 1 : Nat) : Int) = R) : ∀ (m i k : Nat), i + m = A.length → kb + m + 8 ≤ k →
  XM.newswireref11_Is.l3 k l (ba s) lg n (A.map ba) (B.map ba) i = if ((A.drop i).any (· == s) || B.any (· == s)) = true then some true else R
 | 0, i, k + 1, hi, hk => by
  have := ris_l4 s lg n B hB R kb hn hR B.length 0 k (by omega) (by omega)
  rw [XM.newswireref11_Is.l3, if_neg (by rw [List.length_map]; omega), List.drop_of_length_le (by omega)]
  rw [List.drop_zero] at this
  exact this
 | m + 1, i, k + 1, hi, hk => by
  have ih := ris_l3 s lg n A B hA hB R kb hn hR m (i + 1) k (by omega) (by omega)
  have hlt : i < A.length := by omega
  have hg : A.getD i [] = A[i] := by simp [List.getD_eq_getElem?_getD, hlt]
  have hw : wrap64 ((i : Int) + 1) = ((i + 1 : Nat) : Int) := by rw [wrap64_id (by omega) (by omega)]; rfl
  rw [XM.newswireref11_Is.l3, if_pos (by rw [List.length_map]; omega), if_pos (by omega), rd_map, hg, ba_toList, ba_toList, hw, ih, List.drop_eq_getElem_cons hlt, List.any_cons]
  by_cases c : A[i] = s
  ·rw [if_pos c, if_pos (by simp [c])]
  ·have e : (A[i] == s) = false := by simpa using c
   rw [if_neg c, e, Bool.false_or]
theorem ris_l2 {l : Nat} (h0 : 0 < l) (h4 : l < 4) (s : S) (lg : Bool) : ∀ (m n k : Nat), n + m = 1000 → 1 ≤ n → 20 * m + 20 ≤ k → XM.newswireref11_Is.l2 k l (ba s) lg n = some (hitFrom l lg s n m)
 | 0, n, k + 1, hn, _, hk => by rw [XM.newswireref11_Is.l2, if_neg (by omega)]; rfl
 | m + 1, n, k + 1, hn, h1, hk => by
  have ih : ∀ k, 20 * m + 20 ≤ k → XM.newswireref11_Is.l2 k l (ba s) lg ((n + 1 : Nat) : Int) = some (hitFrom l lg s (n + 1) m) := fun k hk => ris_l2 h0 h4 s lg m (n + 1) k (by omega) (by omega) hk
  have hw : wrap64 ((n : Int) + 1) = ((n + 1 : Nat) : Int) := by rw [wrap64_id (by omega) (by omega)]; rfl
  have hmod : Int.tmod (n : Int) 100 = ((n % 100 : Nat) : Int) := tmod_n n 100
  have hl4 := chk4_out h0 h4 (n := n) h1 (by omega)
  obtain ⟨k, rfl⟩ : ∃ j, k = j + 1 := ⟨k - 1, by omega⟩
  have hj : ∀ b : Bool, b = skip lg n → XM.newswireref11_Is.j5 (k + 1) l (ba s) lg n b = some (hitFrom l lg s n (m + 1)) := by
   intro b hb
   have hs : hitFrom l lg s n (m + 1) = ((!skip lg n && hitAt l s n) || hitFrom l lg s (n + 1) m) := by unfold hitFrom; rw [List.range'_succ, List.any_cons]
   rw [XM.newswireref11_Is.j5, hs]
   subst hb
   by_cases c : skip lg n = true
   ·rw [if_pos c, hw, ih k (by omega), c]; rfl
   ·rw [if_neg c, rsmall_f h0 h4 h1 (by omega) (by omega), Option.bind_some, rthou_f h0 h4 h1 (by omega) (by omega), Option.bind_some]
    have := ris_l3 s lg n _ _ hl4.1 hl4.2 _ _ (by omega) ih (Lib.fields (small l n)).length 0 k (by omega) (by omega)
    rw [Bool.eq_false_iff.mpr c, Bool.not_false, Bool.true_and]
    rw [show ((0 : Nat) : Int) = 0 from rfl, List.drop_zero] at this
    rw [this]
    unfold hitAt
    by_cases d : ((Lib.fields (small l n)).any (· == s) || (Lib.fields (thl l n)).any (· == s)) = true
    ·rw [if_pos d, d]; rfl
    ·rw [if_neg d, Bool.eq_false_iff.mpr d]; rfl
  rw [XM.newswireref11_Is.l2, if_pos (by omega), hmod]
  by_cases c1 : (n : Int) > 99
  ·rw [if_pos c1]
   by_cases c2 : ((n % 100 : Nat) : Int) > 1
   ·rw [if_pos c2]; exact hj _ (by unfold skip; rw [decide_eq_true (by omega), decide_eq_true (by omega)]; simp)
   ·rw [if_neg c2]; exact hj _ (by unfold skip; rw [decide_eq_false (p := 1 < n % 100) (by omega)]; simp)
  ·rw [if_neg c1]; exact hj _ (by unfold skip; rw [decide_eq_false (p := 99 < n) (by omega)]; simp)
theorem ris_l1 {l : Nat} (h0 : 0 < l) (h4 : l < 4) (s : S) (hs : s.length ≤ 100) : ∀ (m i k : Nat) (lg : Bool), i + m = s.length + 1 → m + 20100 ≤ k → XM.newswireref11_Is.l1 k l (ba s) lg i = some (hitFrom l (lg || longFrom s i) s 1 999)
 | m, i, k + 1, lg, hi, hk => by
  have hw7 : wrap64 ((i : Int) + 7) = ((i + 7 : Nat) : Int) := by rw [wrap64_id (by omega) (by omega)]; rfl
  have hw : wrap64 ((i : Int) + 1) = ((i + 1 : Nat) : Int) := by rw [wrap64_id (by omega) (by omega)]; rfl
  rw [XM.newswireref11_Is.l1, hw7, ba_size]
  by_cases c : i + 7 ≤ s.length
  ·obtain ⟨m, rfl⟩ : ∃ j, m = j + 1 := ⟨m - 1, by omega⟩
   have hstep : longFrom s i = (decide ((s.drop i).take 7 = sHundertW) || longFrom s (i + 1)) := by
    unfold longFrom
    rw [show s.length + 1 - i = (s.length + 1 - (i + 1)) + 1 by omega, List.range'_succ, List.any_cons]
   rw [if_pos (by omega), hw, hstep]
   cases lg with
   | true =>
    have ih := ris_l1 h0 h4 s hs m (i + 1) k true (by omega) (by omega)
    rw [if_pos (by rfl), ih, Bool.true_or, Bool.true_or]
   | false =>
    have he : ((ba s).extract i (i + 7)) = ba ((s.drop i).take 7) := by
     rw [ba_cut s i (i + 7)]; congr 2; omega
    have hb : ((ba ((s.drop i).take 7)).toList == ([104, 117, 110, 100, 101, 114, 116] : List UInt8)) = decide ((s.drop i).take 7 = sHundertW) := by
     rw [ba_toList]; exact beq_dec _ _
    have ih := ris_l1 h0 h4 s hs m (i + 1) k (decide ((s.drop i).take 7 = sHundertW)) (by omega) (by omega)
    rw [if_neg (by decide), if_pos (by omega), if_pos (by omega), Int.toNat_natCast, Int.toNat_natCast, he, hb, ih, Bool.false_or]
  ·have hnone : longFrom s i = false := by
    unfold longFrom
    rw [List.any_eq_false]
    intro j hj
    have hj := List.mem_range'_1.mp hj
    rw [decide_eq_true_eq]
    intro e
    have := congrArg List.length e
    rw [List.length_take, List.length_drop, sHundertW] at this
    simp only [List.length_cons, List.length_nil] at this
    omega
   have h2 := ris_l2 h0 h4 s lg 999 1 k (by omega) (by omega) (by omega)
   rw [if_neg (by omega), hnone, Bool.or_false]
   exact h2
theorem ris_l0 {l : Nat} (h0 : 0 < l) (h4 : l < 4) (b : UInt8) (r : S) (F : List UInt8) (hF : F.length ≤ 100) (R : Bool → Option Bool) (kb : Nat) (hR : ∀ k x, kb ≤ k → XM.newswireref11_Is.j2 k l (ba (b :: r)) x = R x) : ∀ (m i k : Nat) (bg : Bool), i + m = F.length → kb + m + 1 ≤ k →
  XM.newswireref11_Is.l0 k l (ba (b :: r)) (ba F) bg i = R (bg || (F.drop i).any (fun c => c.toNat == b.toNat))
 | 0, i, k + 1, bg, hi, hk => by
  rw [XM.newswireref11_Is.l0, ba_size, if_neg (by omega), hR k _ (by omega), List.drop_of_length_le (by omega)]; simp
 | m + 1, i, k + 1, bg, hi, hk => by
  have hlt : i < F.length := by omega
  have hw : wrap64 ((i : Int) + 1) = ((i + 1 : Nat) : Int) := by rw [wrap64_id (by omega) (by omega)]; rfl
  have hb0 : bt (ba (b :: r)) 0 = ((b.toNat : Nat) : Int) := bt_ba (b :: r) 0 (by simp)
  rw [XM.newswireref11_Is.l0, ba_size, if_pos (by omega), ba_toList, if_neg (by simp), hw, List.drop_eq_getElem_cons hlt, List.any_cons]
  cases bg with
  | true =>
   have ih := ris_l0 h0 h4 b r F hF R kb hR m (i + 1) k true (by omega) (by omega)
   rw [if_pos (by rfl), ih, Bool.true_or, Bool.true_or]
  | false =>
   have hbb : (bt (ba F) (i : Int) == bt (ba (b :: r)) 0) = (F[i].toNat == b.toNat) := by
    rw [bt_ba F i hlt, hb0, Bool.eq_iff_iff, beq_iff_eq, beq_iff_eq]; omega
   have ih := ris_l0 h0 h4 b r F hF R kb hR m (i + 1) k (F[i].toNat == b.toNat) (by omega) (by omega)
   rw [if_neg (by decide), if_pos (by omega), if_pos (by rw [ba_size]; simp only [List.length_cons]; omega), hbb, ih, Bool.false_or]
theorem rIs_f {l : Nat} (h0 : 0 < l) (h4 : l < 4) (s : S) (hs : s.length ≤ 100) {k : Nat} (hk : 20500 ≤ k) : XM.newswireref11_Is.f k l (ba s) = some (rIs l s) := by
 obtain ⟨k, rfl⟩ : ∃ j, k = j + 1 := ⟨k - 1, by omega⟩
 have hlt : rdOf ByteArray.empty [(⟨#[]⟩ : ByteArray), ⟨#[101, 102, 104, 110, 111, 115, 116, 122]⟩, ⟨#[97, 100, 101, 102, 104, 110, 115, 116, 118, 122]⟩, ⟨#[99, 100, 109, 110, 111, 113, 115, 116, 117, 118, 121]⟩] (l : Int) = ba (letterS l) := by rcases langs h0 h4 with rfl | rfl | rfl <;> rfl
 have hll : (letterS l).length ≤ 100 ∧ 1 ≤ (letterS l).length := (show ∀ l < 4, 0 < l → (letterS l).length ≤ 100 ∧ 1 ≤ (letterS l).length by decide) l h4 h0
 have hul := units_len l h4 h0
 have hz : rdOf ByteArray.empty ((units l).map ba) 0 = ba ((units l).getD 0 []) := rd_map (units l) 0
 unfold XM.newswireref11_Is.f
 rw [if_neg (by omega), decide_eq_false (by omega), XM.newswireref11_Is.j0, if_neg (by decide), Option.bind_some, if_pos (by omega), if_pos (by simp only [List.length_cons, List.length_nil]; omega), hlt]
 cases s with
 | nil =>
  obtain ⟨k, rfl⟩ : ∃ j, k = j + 2 := ⟨k - 2, by omega⟩
  rw [XM.newswireref11_Is.l0, ba_size, if_pos (by omega), ba_toList, if_pos rfl, XM.newswireref11_Is.j2, if_neg (by decide)]; rfl
 | cons b r =>
  have hj2 : ∀ k x, 20300 ≤ k → XM.newswireref11_Is.j2 k l (ba (b :: r)) x = some (x && (decide ((b :: r) = (units l).getD 0 []) || hitFrom l (long (b :: r)) (b :: r) 1 999)) := by
   intro k x hk
   obtain ⟨k, rfl⟩ : ∃ j, k = j + 1 := ⟨k - 1, by omega⟩
   rw [XM.newswireref11_Is.j2]
   cases x with
   | false => rw [if_neg (by decide)]; rfl
   | true =>
    rw [if_pos (by rfl), runits_f h0 h4, Option.bind_some, if_pos (by rw [List.length_map]; omega), hz, ba_toList, ba_toList]
    by_cases c : (b :: r) = (units l).getD 0 []
    ·rw [if_pos c, decide_eq_true c]; rfl
    ·have h1 := ris_l1 h0 h4 (b :: r) hs ((b :: r).length + 1) 0 k false (by omega) (by omega)
     rw [if_neg c, decide_eq_false c, Bool.false_or, Bool.true_and]
     rw [Bool.false_or] at h1
     exact h1
  have := ris_l0 h0 h4 b r (letterS l) hll.1 _ 20300 (fun k x hk => hj2 k x hk) (letterS l).length 0 k false (by omega) (by omega)
  rw [Bool.false_or, List.drop_zero] at this
  exact this
theorem rIs_no (l : Int) (h : l < 1 ∨ 3 < l) (s : ByteArray) {k : Nat} (hk : 1 ≤ k) : XM.newswireref11_Is.f k l s = some false := by
 obtain ⟨k, rfl⟩ : ∃ j, k = j + 1 := ⟨k - 1, by omega⟩
 have hj : XM.newswireref11_Is.j0 (k + 1) l s true = some false := by rw [XM.newswireref11_Is.j0, if_pos (by rfl)]
 unfold XM.newswireref11_Is.f
 by_cases c1 : l < 1
 ·rw [if_pos c1, hj]
 ·rw [if_neg c1, decide_eq_true (by omega), hj]
end Go.Proofs.YtjgobfbjmlacjaaDoor.XP
