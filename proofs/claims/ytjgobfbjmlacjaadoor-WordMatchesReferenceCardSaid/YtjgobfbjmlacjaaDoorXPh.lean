/-
 The words of a number are number words; a number word consists of lower-case letters and hyphens; in a text they are read as this number.
-/
import Derived.Test.YtjgobfbjmlacjaaDoorXPg
set_option linter.unusedSimpArgs false
set_option linter.unusedVariables false
set_option maxRecDepth 100000
namespace Go.Proofs.YtjgobfbjmlacjaaDoor.XP
open Go.RowKit Go.Proofs.YtjgobfbjmlacjaaDoorW.PrintWords Go.Proofs.YtjgobfbjmlacjaaDoorW.PrintLast Go.Proofs.YtjgobfbjmlacjaaDoorW.PrintMore
/-! ### Which words are number words -/
def plB (b : UInt8) : Bool := Nat.beq b.toNat 45 || (Nat.ble 97 b.toNat && Nat.ble b.toNat 122)
def plainS (s : S) : Bool := s.all plB
def plSp (s : S) : Bool := s.all fun b => Nat.beq b.toNat 32 || plB b
theorem no_space {s : S} (h : Lib.contains s sSpace = false) : ∀ b ∈ s, b ≠ 32 := by
 intro b hb e
 subst e
 obtain ⟨a, t, rfl⟩ := List.append_of_mem hb
 rcases Lib.index_spec (a ++ 32 :: t) sSpace with ⟨_, h2⟩ | ⟨i, h1, _⟩
 ·have := h2 a.length (by simp)
  simp [Lib.occAt, sSpace] at this
 ·unfold Lib.contains at h
  rw [h1] at h
  simp at h
theorem plain_of_sp {s : S} (h : plSp s = true) (hc : Lib.contains s sSpace = false) : plainS s = true := by
 unfold plainS plSp at *
 rw [List.all_eq_true] at *
 intro b hb
 have h1 := h b hb
 rcases Bool.or_eq_true .. ▸ h1 with h2 | h2
 ·exact absurd (UInt8.toNat_inj.mp (Nat.eq_of_beq_eq_true h2)) (no_space hc b hb)
 ·exact h2
theorem plSp_app {a b : S} (h : plSp a = true) (k : plSp b = true) : plSp (a ++ b) = true := by simp only [plSp, List.all_append, Bool.and_eq_true] at *; exact ⟨h, k⟩
theorem plSp_small : ∀ l < 4, ∀ n < 1000, plSp (small l n) = true := by decide +kernel
theorem plSp_thl : ∀ l < 4, ∀ n < 1000, plSp (thl l n) = true := by decide +kernel
theorem plSp_tabs : ∀ l < 4, (units l).all plSp = true ∧ (tens l).all plSp = true ∧ (restTab l).all (fun x => plSp x.1) = true ∧ ∀ h < 10, plSp (headOf l h) = true ∧ plSp (hundreds l h []) = true ∧ (Lib.fields (hundreds l h ((units l).getD 1 []))).all plSp = true ∧ (Lib.fields (ones l 1 h)).all plSp = true := by decide +kernel
theorem plSp_rest {l : Nat} (h4 : l < 4) {s : S} {n : Nat} (h : rest l s = some n) : plSp s = true := by
 obtain ⟨hu, ht, hr, _⟩ := plSp_tabs l h4
 unfold rest at h
 have h2 : ∀ n, (match (tens l).findIdx? (· == s) with | some i => some (20 + 10 * i) | none => ((restTab l).find? (·.1 == s)).map (·.2)) = some n → plSp s = true := by
  intro n hn
  cases hx : (tens l).findIdx? (· == s) with
  | some i =>
   obtain ⟨hj, hs, _⟩ := List.findIdx?_eq_some_iff_getElem.mp hx
   exact beq_iff_eq.mp hs ▸ List.all_eq_true.mp ht _ (List.getElem_mem hj)
  | none =>
   rw [hx] at hn
   obtain ⟨x, hx, _⟩ := Option.map_eq_some_iff.mp hn
   have := List.find?_some hx
   exact beq_iff_eq.mp this ▸ List.all_eq_true.mp hr _ (List.mem_of_find?_eq_some hx)
 cases hx : (units l).findIdx? (· == s) with
 | some i =>
  obtain ⟨hj, hs, _⟩ := List.findIdx?_eq_some_iff_getElem.mp hx
  exact beq_iff_eq.mp hs ▸ List.all_eq_true.mp hu _ (List.getElem_mem hj)
 | none => rw [hx] at h; exact h2 n h
theorem plSp_value {l : Nat} (h4 : l < 4) {s : S} {n : Nat} (h : value l s = some n) : plSp s = true := by
 unfold value at h
 cases hr : rest l s with
 | some m => exact plSp_rest h4 hr
 | none =>
  rw [hr] at h
  obtain ⟨i, hi, hv⟩ := List.exists_of_findSome?_eq_some h
  have hi := List.mem_range'_1.mp hi
  obtain ⟨t1, t2, _⟩ := (plSp_tabs l h4).2.2.2 i (by omega)
  unfold valueAt at hv
  by_cases c1 : hundreds l i [] = s
  ·exact c1 ▸ t2
  ·rw [if_neg c1] at hv
   by_cases c2 : (headOf l i).isPrefixOf s
   ·rw [if_pos c2] at hv
    obtain ⟨x, hx, _⟩ := Option.map_eq_some_iff.mp hv
    obtain ⟨t, rfl⟩ := List.isPrefixOf_iff_prefix.mp c2
    rw [List.drop_left] at hx
    exact plSp_app t1 (plSp_rest h4 hx)
   ·rw [if_neg c2] at hv; cases hv
theorem many_some {l : Nat} (h4 : l < 4) {s : S} {n : Nat} (h : many l s = some n) : thl l n = s ∧ 1 ≤ n ∧ n < 1000 := by
 obtain ⟨x, _, hx⟩ := List.exists_of_findSome?_eq_some h
 obtain ⟨hv, ht⟩ := manyOf_some hx
 exact ⟨ht, value_pos x hv, value_lt h4 x hv⟩
theorem fields_plSp : ∀ l < 4, 0 < l → ([1, 2, 21, 31].all fun q => (Lib.fields (thousands l (small l q) q)).all plSp) = true ∧ plSp ((units l).getD 0 []) = true := by decide +kernel
theorem among_plSp {t s : S} (ht : (Lib.fields t).all plSp = true) (h : amongS t s = true) : plSp s = true := by
 obtain ⟨x, hx, e⟩ := List.any_eq_true.mp h
 exact beq_iff_eq.mp e ▸ List.all_eq_true.mp ht x hx
/-- A NUMBER WORD CONSISTS OF LOWER-CASE LETTERS AND HYPHENS. -/
theorem isW_plain {l : Nat} (h0 : 0 < l) (h4 : l < 4) {s : S} (h : isW l s = true) : plainS s = true := by
 unfold isW at h
 by_cases c : Lib.contains s sSpace = true ∨ s = [] ∨ Lib.contains (letterS l) (s.take 1) = false
 ·rw [if_pos c] at h; cases h
 rw [if_neg c] at h
 refine plain_of_sp ?_ (Bool.eq_false_iff.mpr fun e => c (Or.inl e))
 obtain ⟨f1, f2⟩ := fields_plSp l h4 h0
 simp only [Bool.or_eq_true] at h
 rcases h with (((h | h) | h) | h) | h
 ·obtain ⟨n, hn⟩ := Option.isSome_iff_exists.mp h; exact plSp_value h4 hn
 ·obtain ⟨n, hn⟩ := Option.isSome_iff_exists.mp h
  obtain ⟨e, _, h3⟩ := many_some h4 hn
  exact e ▸ plSp_thl l h4 n h3
 ·exact (of_decide_eq_true h) ▸ f2
 ·obtain ⟨i, hi, ha⟩ := List.any_eq_true.mp h
  have hi := List.mem_range'_1.mp hi
  obtain ⟨_, _, t3, t4⟩ := (plSp_tabs l h4).2.2.2 i (by omega)
  rcases Bool.or_eq_true .. ▸ ha with ha | ha
  ·exact among_plSp t3 ha
  ·exact among_plSp t4 ha
 ·obtain ⟨q, hq, ha⟩ := List.any_eq_true.mp h
  exact among_plSp (List.all_eq_true.mp f1 q hq) ha
def okB (l : Nat) (w : S) : Bool := plainS w && !w.isEmpty && Lib.contains (letterS l) (w.take 1) && !Lib.contains w sSpace
def spec : Nat → S → Bool
 | 1, w => beqN w [104, 117, 110, 100, 114, 101, 100] || beqN w [116, 104, 111, 117, 115, 97, 110, 100]
 | 3, w => beqN w [121] || beqN w sMil || beqN w [99, 105, 101, 110, 116, 111] || beqN w [117, 110] || beqN w [118, 101, 105, 110, 116, 105, 117, 110]
 | _, _ => false
theorem spec_ok : isW 1 [104, 117, 110, 100, 114, 101, 100] = true ∧ isW 1 [116, 104, 111, 117, 115, 97, 110, 100] = true ∧ isW 3 [121] = true ∧ isW 3 sMil = true ∧ isW 3 [99, 105, 101, 110, 116, 111] = true ∧ isW 3 [117, 110] = true ∧ isW 3 [118, 101, 105, 110, 116, 105, 117, 110] = true := by decide +kernel
def okW (l : Nat) (w : S) : Bool := okB l w && ((valueQ l w).isSome || spec l w)
def chk5 (l n : Nat) : Bool := (Lib.fields (small l n)).all (okW l) && (match l with | 2 => (match Lib.fields (thl 2 n) with | [w] => okB 2 w | _ => false) | _ => (Lib.fields (thl l n)).all (okW l))
theorem chk5_1_1 : (List.range' 1 250).all (chk5 1) = true := by decide +kernel
theorem chk5_1_251 : (List.range' 251 250).all (chk5 1) = true := by decide +kernel
theorem chk5_1_501 : (List.range' 501 250).all (chk5 1) = true := by decide +kernel
theorem chk5_1_751 : (List.range' 751 249).all (chk5 1) = true := by decide +kernel
theorem chk5_2_1 : (List.range' 1 250).all (chk5 2) = true := by decide +kernel
theorem chk5_2_251 : (List.range' 251 250).all (chk5 2) = true := by decide +kernel
theorem chk5_2_501 : (List.range' 501 250).all (chk5 2) = true := by decide +kernel
theorem chk5_2_751 : (List.range' 751 249).all (chk5 2) = true := by decide +kernel
theorem chk5_3_1 : (List.range' 1 250).all (chk5 3) = true := by decide +kernel
theorem chk5_3_251 : (List.range' 251 250).all (chk5 3) = true := by decide +kernel
theorem chk5_3_501 : (List.range' 501 250).all (chk5 3) = true := by decide +kernel
theorem chk5_3_751 : (List.range' 751 249).all (chk5 3) = true := by decide +kernel
theorem chk5_all {l : Nat} (h0 : 0 < l) (h4 : l < 4) {n : Nat} (h1 : 1 ≤ n) (h2 : n < 1000) : chk5 l n = true := by
 rcases langs h0 h4 with rfl | rfl | rfl
 ·exact all_999 chk5_1_1 chk5_1_251 chk5_1_501 chk5_1_751 h1 h2
 ·exact all_999 chk5_2_1 chk5_2_251 chk5_2_501 chk5_2_751 h1 h2
 ·exact all_999 chk5_3_1 chk5_3_251 chk5_3_501 chk5_3_751 h1 h2
theorem okB_out {l : Nat} {w : S} (h : okB l w = true) : w ≠ [] ∧ ¬ (Lib.contains w sSpace = true ∨ w = [] ∨ Lib.contains (letterS l) (w.take 1) = false) := by
 simp only [okB, Bool.and_eq_true, Bool.not_eq_true'] at h
 have he : w ≠ [] := fun e => by have := h.1.1.2; rw [e] at this; cases this
 refine ⟨he, fun c => ?_⟩
 rcases c with c | c | c
 ·rw [h.2] at c; cases c
 ·exact he c
 ·rw [h.1.2] at c; cases c
theorem okW_isW {l : Nat} (h0 : 0 < l) (h4 : l < 4) {w : S} (h : okW l w = true) : isW l w = true ∧ w ≠ [] := by
 simp only [okW, Bool.and_eq_true] at h
 obtain ⟨hb, hv⟩ := h
 obtain ⟨he, hc⟩ := okB_out hb
 refine ⟨?_, he⟩
 rcases Bool.or_eq_true .. ▸ hv with hv | hv
 ·rw [valueQ_eq h0 h4] at hv
  unfold isW
  rw [if_neg hc, hv]; simp
 ·obtain ⟨s1, s2, s3, s4, s5, s6, s7⟩ := spec_ok
  rcases langs h0 h4 with rfl | rfl | rfl
  ·simp only [spec, Bool.or_eq_true] at hv
   rcases hv with hv | hv <;> rw [beqN_true hv]
   ·exact s1
   ·exact s2
  ·cases hv
  ·simp only [spec, Bool.or_eq_true] at hv
   rcases hv with (((hv | hv) | hv) | hv) | hv <;> rw [beqN_true hv]
   ·exact s3
   ·exact s4
   ·exact s5
   ·exact s6
   ·exact s7
theorem small_isW {l : Nat} (h0 : 0 < l) (h4 : l < 4) {n : Nat} (h1 : 1 ≤ n) (h2 : n < 1000) : ∀ w ∈ Lib.fields (small l n), isW l w = true ∧ w ≠ [] := by
 intro w hw
 have h := chk5_all h0 h4 h1 h2
 simp only [chk5, Bool.and_eq_true] at h
 exact okW_isW h0 h4 (List.all_eq_true.mp h.1 w hw)
theorem thl_isW {l : Nat} (h0 : 0 < l) (h4 : l < 4) {n : Nat} (h1 : 1 ≤ n) (h2 : n < 1000) : ∀ w ∈ Lib.fields (thl l n), isW l w = true ∧ w ≠ [] := by
 intro w hw
 have h := chk5_all h0 h4 h1 h2
 rcases langs h0 h4 with rfl | rfl | rfl
 ·simp only [chk5, Bool.and_eq_true] at h
  exact okW_isW h0 h4 (List.all_eq_true.mp h.2 w hw)
 ·simp only [chk5, Bool.and_eq_true] at h
  have hj := (chk2_out h0 h4 h1 h2).1
  have hm := many_thl h0 h4 h1 h2
  cases hf : Lib.fields (thl 2 n) with
  | nil => rw [hf] at hw; cases hw
  | cons x r =>
   cases r with
   | cons y r => rw [hf] at h; cases h.2
   | nil =>
    rw [hf] at h hw hj
    obtain rfl := List.mem_singleton.mp hw
    obtain ⟨he, hc⟩ := okB_out h.2
    have e : w = thl 2 n := hj ▸ (Lib.join_one _ _).symm
    refine ⟨?_, he⟩
    unfold isW
    rw [if_neg hc, e, hm]; simp
 ·simp only [chk5, Bool.and_eq_true] at h
  exact okW_isW h0 h4 (List.all_eq_true.mp h.2 w hw)
theorem zero_isW : ∀ l < 4, 0 < l → isW l ((units l).getD 0 []) = true ∧ (units l).getD 0 [] ≠ [] := by decide +kernel
/-- THE WORDS OF A NUMBER ARE NUMBER WORDS. -/
theorem words_isW {l : Nat} (h0 : 0 < l) (h4 : l < 4) {n : Nat} (hn : n < 1000000) : ∀ w ∈ words l n, isW l w = true ∧ w ≠ [] := by
 intro w hw
 rcases Nat.eq_zero_or_pos n with rfl | p
 ·rw [(zero_unmarked l h4 h0).2] at hw
  obtain rfl := List.mem_singleton.mp hw
  exact zero_isW l h4 h0
 by_cases hl : n < 1000
 ·rw [words_low p hl] at hw; exact small_isW h0 h4 p hl w hw
 ·rw [words_big (by omega)] at hw
  rcases List.mem_append.mp hw with hw | hw
  ·exact thl_isW h0 h4 (by omega) (by omega) w hw
  ·rcases Nat.eq_zero_or_pos (n % 1000) with e | p
   ·rw [e, small_0] at hw; cases hw
   ·exact small_isW h0 h4 p (by omega) w hw
/-! ### 'plain', and what Prefix says of words in a text -/
theorem bt_ba (s : S) (i : Nat) (h : i < s.length) : bt (ba s) (i : Int) = ((s[i]).toNat : Int) := by
 unfold bt
 rw [dif_pos (by rw [ba_size]; simpa using h)]
 simp [ba, Int.toNat_natCast]
 rfl
theorem plain_l0 (s : S) (hs : s.length ≤ 1000000) : ∀ (m i k : Nat), s.length - i ≤ m → i ≤ s.length → 2 * m < k → XS.newswirelaw11_plain.l0 k (ba s) i = some ((s.drop i).all plB)
 | m, i, k + 1, h, hi, hk => by
  rw [XS.newswirelaw11_plain.l0, ba_size]
  by_cases hlt : i < s.length
  ·obtain ⟨m, rfl⟩ : ∃ j, m = j + 1 := ⟨m - 1, by omega⟩
   obtain ⟨k, rfl⟩ : ∃ j, k = j + 1 := ⟨k - 1, by omega⟩
   have ih := plain_l0 s hs m (i + 1) k (by omega) (by omega) (by omega)
   have hj : ∀ b : Bool, XS.newswirelaw11_plain.j1 (k + 1) (ba s) i b = some (!b && (s.drop (i + 1)).all plB) := by
    intro b
    rw [XS.newswirelaw11_plain.j1]
    cases b
    ·rw [if_neg (by decide), wrap64_id (by omega) (by omega), show ((i : Int) + 1) = ((i + 1 : Nat) : Int) from rfl, ih]; rfl
    ·rw [if_pos (by rfl)]; rfl
   rw [if_pos (by omega), if_pos (by omega), bt_ba s i hlt, hj, hj, hj, List.drop_eq_getElem_cons hlt, List.all_cons]
   generalize s[i] = b
   unfold plB
   by_cases c1 : b.toNat = 45
   ·rw [if_pos (by omega), c1]; simp
   ·have e1 : Nat.beq b.toNat 45 = false := by rw [Bool.eq_false_iff]; exact fun h => c1 (Nat.eq_of_beq_eq_true h)
    rw [if_neg (by omega), e1]
    by_cases c2 : b.toNat < 97
    ·have e2 : Nat.ble 97 b.toNat = false := by rw [Bool.eq_false_iff]; exact fun h => by have := Nat.le_of_ble_eq_true h; omega
     rw [if_pos (by omega), e2]; simp
    ·have e2 : Nat.ble 97 b.toNat = true := Nat.ble_eq_true_of_le (by omega)
     have e3 : Nat.ble b.toNat 122 = !decide ((b.toNat : Int) > 122) := by
      by_cases c3 : b.toNat ≤ 122
      ·rw [Nat.ble_eq_true_of_le c3, decide_eq_false (by omega)]; rfl
      ·rw [decide_eq_true (by omega), Bool.eq_false_iff.mpr (fun h => c3 (Nat.le_of_ble_eq_true h))]; rfl
     rw [if_neg (by omega), e2, e3]; simp
  ·rw [if_neg (by omega), List.drop_of_length_le (by omega)]; rfl
theorem plain_f (s : S) (hs : s.length ≤ 1000000) (k : Nat) (hk : 2 * s.length < k) : XS.newswirelaw11_plain.f k (ba s) = some (plainS s) := plain_l0 s hs s.length 0 k (by omega) (by omega) hk
theorem pfxFrom_some {l : Nat} (h0 : 0 < l) (h4 : l < 4) {L : List S} {at_ x y : Nat} : ∀ {m : Nat}, at_ + m ≤ L.length → pfxFrom l L at_ m = some (x, y) → 1 ≤ y ∧ y ≤ m ∧ words l x = (L.take (at_ + y)).drop at_ ∧ x < 1000000
 | 0, _, h => by cases h
 | m + 1, hm, h => by
  rw [pfxFrom] at h
  cases hn : number l ((L.take (at_ + (m + 1))).drop at_) with
  | some n =>
   rw [hn] at h
   obtain ⟨rfl, rfl⟩ := Prod.mk.inj (Option.some.inj h)
   obtain ⟨hw, hl⟩ := number_sound h0 h4 hn
   exact ⟨by omega, Nat.le_refl _, hw, hl⟩
  | none =>
   rw [hn] at h
   obtain ⟨h1, h2, h3⟩ := pfxFrom_some h0 h4 (by omega) h
   exact ⟨h1, by omega, h3⟩
theorem pfx_some {l : Nat} (h0 : 0 < l) (h4 : l < 4) {L : List S} {at_ x y : Nat} (h : pfx l L at_ = some (x, y)) : 1 ≤ y ∧ at_ + y ≤ L.length ∧ words l x = (L.take (at_ + y)).drop at_ ∧ x < 1000000 := by
 unfold pfx at h
 by_cases c : (at_ : Int) < 0 ∨ (L.length : Int) ≤ (at_ : Int)
 ·rw [if_pos c] at h; cases h
 rw [if_neg c, Int.toNat_natCast] at h
 obtain ⟨h1, h2, h3, h5⟩ := pfxFrom_some h0 h4 (by omega) h
 exact ⟨h1, by omega, h3, h5⟩
/-- IN A TEXT, WORDS OF A NUMBER THAT NO NUMBER WORD FOLLOWS ARE READ AS THIS NUMBER. -/
theorem pfx_words {l : Nat} (h0 : 0 < l) (h4 : l < 4) {n : Nat} (hn : n < 1000000) (A B : List S) (hB : ∀ w ∈ B.head?, isW l w = false) : pfx l (A ++ words l n ++ B) (A.length : Int) = some (n, (words l n).length) := by
 obtain ⟨w1, w2⟩ := words_pos h0 h4 hn
 have wl : 1 ≤ (words l n).length := by cases hw : words l n with | nil => exact absurd hw w1 | cons x r => simp
 have key : ∀ m, (words l n).length ≤ m → m ≤ (words l n).length + B.length → pfxFrom l (A ++ words l n ++ B) A.length m = some (n, (words l n).length) := by
  intro m
  induction m with
  | zero => intro h; omega
  | succ m ih =>
   intro h1 h2
   have e : ((A ++ words l n ++ B).take (A.length + (m + 1))).drop A.length = words l n ++ B.take (m + 1 - (words l n).length) := by
    rw [List.append_assoc, List.take_length_add_append, List.drop_left, List.take_append, List.take_of_length_le h1]
   rw [pfxFrom, e]
   rcases Nat.eq_or_lt_of_le h1 with h3 | h3
   ·rw [show m + 1 - (words l n).length = 0 by omega, List.take_zero, List.append_nil, number_words h0 h4 hn, h3]
   ·have hno : number l (words l n ++ B.take (m + 1 - (words l n).length)) = none := by
     cases hx : number l (words l n ++ B.take (m + 1 - (words l n).length)) with
     | none => rfl
     | some p =>
      obtain ⟨hw, hp⟩ := number_sound h0 h4 hx
      cases B with
      | nil => simp at h2; omega
      | cons b r =>
       have hb := hB b (by simp)
       have := (words_isW h0 h4 hp b (by rw [hw]; refine List.mem_append_right _ ?_; rw [show m + 1 - (words l n).length = (m - (words l n).length) + 1 by omega, List.take_succ_cons]; exact List.mem_cons_self ..)).1
       rw [hb] at this; cases this
    rw [hno]
    exact ih (by omega) (by omega)
 unfold pfx
 rw [if_neg (by simp only [List.length_append]; omega), Int.toNat_natCast]
 exact key _ (by simp only [List.length_append]; omega) (by simp only [List.length_append]; omega)
theorem fields_each : ∀ (s cur : S) (w : S), w ∈ Lib.fieldsGo cur s → w.length ≤ cur.length + s.length
 | [], cur, w, h => by cases cur with | nil => simp [Lib.fieldsGo] at h | cons a c => simp [Lib.fieldsGo] at h; subst h; simp
 | b :: s, cur, w, h => by
  cases hb : Lib.isSp b
  ·rw [Lib.fieldsGo_more _ _ _ hb] at h
   have := fields_each s (cur ++ [b]) w h
   simp only [List.length_append, List.length_cons, List.length_nil] at *; omega
  ·by_cases hc : cur = []
   ·subst hc
    rw [Lib.fieldsGo_sp _ _ hb] at h
    have := fields_each s [] w h
    simp only [List.length_cons, List.length_nil] at *; omega
   ·rw [Lib.fieldsGo_end _ _ _ hb hc] at h
    rcases List.mem_cons.mp h with rfl | h
    ·simp
    ·have := fields_each s [] w h
     simp only [List.length_cons, List.length_nil] at *; omega
theorem word_len {l : Nat} (h0 : 0 < l) (h4 : l < 4) {n : Nat} (hn : n < 1000000) (w : S) (hw : w ∈ words l n) : w.length ≤ 600 := by
 have h1 := fields_each (text l n) [] w hw
 have h2 := text_le h0 h4 hn
 simp only [List.length_nil] at h1
 omega
end Go.Proofs.YtjgobfbjmlacjaaDoor.XP
