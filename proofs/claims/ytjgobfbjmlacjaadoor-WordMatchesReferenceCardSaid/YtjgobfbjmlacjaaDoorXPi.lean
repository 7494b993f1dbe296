/-
 The reference functions compute the same words and names.
-/
import Derived.Test.YtjgobfbjmlacjaaDoorXPh
import Derived.Test.YtjgobfbjmlacjaaDoorXM
set_option linter.unusedSimpArgs false
set_option linter.unusedVariables false
set_option maxRecDepth 100000
namespace Go.Proofs.YtjgobfbjmlacjaaDoor.XP
open Go.RowKit Go.Proofs.YtjgobfbjmlacjaaDoorW.PrintWords Go.Proofs.YtjgobfbjmlacjaaDoorW.PrintLast Go.Proofs.YtjgobfbjmlacjaaDoorW.PrintMore
/-! ### The reference functions -/
def eqS : List ByteArray → List S → Bool
 | [], [] => true
 | a :: r, b :: s => beqN a.data.toList b && eqS r s
 | _, _ => false
theorem eqS_true : ∀ {a : List ByteArray} {b : List S}, eqS a b = true → a = b.map ba
 | [], [], _ => rfl
 | [], _ :: _, h => by cases h
 | _ :: _, [], h => by cases h
 | a :: r, b :: s, h => by
  simp only [eqS, Bool.and_eq_true] at h
  rw [List.map_cons, eqS_true h.2, ← beqN_true h.1, ba_eta]
def okM (f : Option (List ByteArray)) (g : List S) : Bool := match f with | some l => eqS l g | none => false
theorem okM_true {f : Option (List ByteArray)} {g : List S} (h : okM f g = true) : f = some (g.map ba) := by
 cases f with
 | none => cases h
 | some l => exact congrArg some (eqS_true h)
def chk6 (l n : Nat) : Bool := okM (XM.newswireref11_small.f 10 l n true) (Lib.fields (small l n)) && okM (XM.newswireref11_thousand.f 10 l n) (Lib.fields (thl l n))
theorem chk6_1_1 : (List.range' 1 250).all (chk6 1) = true := by decide +kernel
theorem chk6_1_251 : (List.range' 251 250).all (chk6 1) = true := by decide +kernel
theorem chk6_1_501 : (List.range' 501 250).all (chk6 1) = true := by decide +kernel
theorem chk6_1_751 : (List.range' 751 249).all (chk6 1) = true := by decide +kernel
theorem chk6_2_1 : (List.range' 1 250).all (chk6 2) = true := by decide +kernel
theorem chk6_2_251 : (List.range' 251 250).all (chk6 2) = true := by decide +kernel
theorem chk6_2_501 : (List.range' 501 250).all (chk6 2) = true := by decide +kernel
theorem chk6_2_751 : (List.range' 751 249).all (chk6 2) = true := by decide +kernel
theorem chk6_3_1 : (List.range' 1 250).all (chk6 3) = true := by decide +kernel
theorem chk6_3_251 : (List.range' 251 250).all (chk6 3) = true := by decide +kernel
theorem chk6_3_501 : (List.range' 501 250).all (chk6 3) = true := by decide +kernel
theorem chk6_3_751 : (List.range' 751 249).all (chk6 3) = true := by decide +kernel
theorem chk6_all {l : Nat} (h0 : 0 < l) (h4 : l < 4) {n : Nat} (h1 : 1 ≤ n) (h2 : n < 1000) : chk6 l n = true := by
 rcases langs h0 h4 with rfl | rfl | rfl
 ·exact all_999 chk6_1_1 chk6_1_251 chk6_1_501 chk6_1_751 h1 h2
 ·exact all_999 chk6_2_1 chk6_2_251 chk6_2_501 chk6_2_751 h1 h2
 ·exact all_999 chk6_3_1 chk6_3_251 chk6_3_501 chk6_3_751 h1 h2
theorem upK {α : Type} {f : Nat → Option α} (hm : ∀ k, LeO (f k) (f (k + 1))) {a : Nat} {r : α} (h : f a = some r) : ∀ {k : Nat}, a ≤ k → f k = some r := by
 intro k hk
 induction hk with
 | refl => exact h
 | step _ ih => exact hm _ _ ih
theorem rsmall_f {l : Nat} (h0 : 0 < l) (h4 : l < 4) {n : Nat} (h1 : 1 ≤ n) (h2 : n < 1000) {k : Nat} (hk : 10 ≤ k) : XM.newswireref11_small.f k l n true = some ((Lib.fields (small l n)).map ba) := by
 have h := chk6_all h0 h4 h1 h2
 simp only [chk6, Bool.and_eq_true] at h
 exact upK (f := fun k => XM.newswireref11_small.f k l n true) (fun k => XM.newswireref11_small.mono _ _ _ k) (okM_true h.1) hk
theorem rthou_f {l : Nat} (h0 : 0 < l) (h4 : l < 4) {n : Nat} (h1 : 1 ≤ n) (h2 : n < 1000) {k : Nat} (hk : 10 ≤ k) : XM.newswireref11_thousand.f k l n = some ((Lib.fields (thl l n)).map ba) := by
 have h := chk6_all h0 h4 h1 h2
 simp only [chk6, Bool.and_eq_true] at h
 exact upK (f := fun k => XM.newswireref11_thousand.f k l n) (fun k => XM.newswireref11_thousand.mono _ _ k) (okM_true h.2) hk
theorem runits_f {l : Nat} (h0 : 0 < l) (h4 : l < 4) : XM.newswireref11_units.f l = some ((units l).map ba) := by
 rcases langs h0 h4 with rfl | rfl | rfl <;> rfl
theorem rWords_f {l : Nat} (h0 : 0 < l) (h4 : l < 4) (n : Nat) (hn : n < 1000000) {k : Nat} (hk : 20 ≤ k) : XM.newswireref11_Words.f k l n = some ((words l n).map ba, 0) := by
 obtain ⟨k, rfl⟩ : ∃ j, k = j + 2 := ⟨k - 2, by omega⟩
 have hj1 : ∀ (x : Nat) (A : List S), x < 1000000 → A.length ≤ 500 → XM.newswireref11_Words.j1 (k + 1) l x (A.map ba) = some ((A ++ Lib.fields (small l (x % 1000))).map ba, 0) := by
  intro x A hx hA
  rw [XM.newswireref11_Words.j1, show Int.tmod (x : Int) 1000 = ((x % 1000 : Nat) : Int) from tmod_n x 1000]
  rcases Nat.eq_zero_or_pos (x % 1000) with e | p
  ·rw [if_neg (by omega), e, small_0]; simp [Lib.fields, Lib.fieldsGo]
  ·rw [if_pos (by omega), rsmall_f h0 h4 p (by omega) (by omega), Option.bind_some]
   have := (chk4_out h0 h4 (n := x % 1000) p (by omega)).1
   rw [if_pos (by simp only [List.length_map]; omega), List.map_append]
 unfold XM.newswireref11_Words.f
 rw [if_neg (by omega), if_neg (by omega), if_neg (by omega), decide_eq_false (by omega), XM.newswireref11_Words.j0, if_neg (by decide)]
 rcases Nat.eq_zero_or_pos n with rfl | p
 ·have hu := units_len l h4 h0
  rw [if_pos (by rfl), runits_f h0 h4, Option.bind_some, if_pos (by rw [List.length_map]; omega), (zero_unmarked l h4 h0).2, ← units_take1 l h4 h0]
  rw [← List.map_take]; rfl
 rw [if_neg (by omega)]
 by_cases hl : n < 1000
 ·rw [if_neg (by omega), words_low p hl]
  have := hj1 n [] hn (by simp)
  rw [Nat.mod_eq_of_lt hl] at this
  exact this
 ·have hd : wrap64 (Int.tdiv (n : Int) 1000) = ((n / 1000 : Nat) : Int) := by rw [show Int.tdiv (n : Int) 1000 = ((n / 1000 : Nat) : Int) from tdiv_n n 1000, wrap64_id (by omega) (by omega)]
  have hle := (chk4_out h0 h4 (n := n / 1000) (by omega) (by omega)).2
  rw [if_pos (by omega), hd, rthou_f h0 h4 (n := n / 1000) (by omega) (by omega) (by omega), Option.bind_some, if_pos (by simp only [List.length_map, List.length_nil]; omega), List.nil_append, words_big (by omega)]
  exact hj1 n _ hn (by omega)
theorem rWords_no (l n : Int) (h : (l < 1 ∨ 3 < l) ∨ n < 0 ∨ 999999 < n) {k : Nat} (hk : 1 ≤ k) : XM.newswireref11_Words.f k l n = some ([], 110) := by
 obtain ⟨k, rfl⟩ : ∃ j, k = j + 1 := ⟨k - 1, by omega⟩
 have hj : XM.newswireref11_Words.j0 (k + 1) l n true = some ([], 110) := by rw [XM.newswireref11_Words.j0, if_pos (by rfl)]
 unfold XM.newswireref11_Words.f
 by_cases c1 : l < 1
 ·rw [if_pos c1, hj]
 by_cases c2 : l > 3
 ·rw [if_neg c1, if_pos c2, hj]
 by_cases c3 : n < 0
 ·rw [if_neg c1, if_neg c2, if_pos c3, hj]
 ·rw [if_neg c1, if_neg c2, if_neg c3, decide_eq_true (by omega), hj]
theorem names_len : ∀ l < 4, 0 < l → (months l).length = 12 ∧ (days l).length = 7 := by decide
theorem nameOf_in (tab : List S) (first : Nat) (n : Nat) (hn : n < tab.length) : nameOf tab first ((n + first : Nat) : Int) = (tab.getD n [], 0) := by
 unfold nameOf
 rw [if_neg (by omega)]
 have : (((n + first : Nat) : Int) - (first : Int)).toNat = n := by omega
 rw [this]
theorem rnames_f {l : Nat} (h0 : 0 < l) (h4 : l < 4) : XM.newswireref11_names.f l = some ((months l).map ba, (days l).map ba) := by
 rcases langs h0 h4 with rfl | rfl | rfl <;> rfl
theorem rname_f (tab : List S) (ht : tab.length ≤ 100) (n : Int) : XM.newswireref11_name.f (tab.map ba) n = some (ba (nameOf tab 0 n).1, (nameOf tab 0 n).2) := by
 unfold XM.newswireref11_name.f nameOf
 rw [List.length_map]
 by_cases c1 : n < 0
 ·rw [if_pos c1, if_pos (Or.inl (by omega))]; rfl
 by_cases c2 : n ≥ (tab.length : Int)
 ·rw [if_neg c1, if_pos c2, if_pos (Or.inr (by omega))]; rfl
 ·obtain ⟨b, rfl⟩ : ∃ b : Nat, n = b := ⟨n.toNat, by omega⟩
  rw [if_neg c1, if_neg c2, if_pos (by omega), if_pos (by omega), if_neg (by omega), rd_map]
  simp
theorem nameOf_shift (tab : List S) (n : Int) (h : 1 ≤ n) : nameOf tab 0 (n - 1) = nameOf tab 1 n := by
 unfold nameOf
 by_cases c : (tab.length : Int) ≤ n - 1
 ·rw [if_pos (Or.inr (by omega)), if_pos (Or.inr (by omega))]
 ·rw [if_neg (by omega), if_neg (by omega)]
  congr 2
  congr 1
  omega
theorem rMonth_f {l : Nat} (h0 : 0 < l) (h4 : l < 4) (n : Int) (h1 : -9223372036854775808 ≤ n) (h2 : n ≤ 9223372036854775807) {k : Nat} (hk : 1 ≤ k) : XM.newswireref11_Month.f k l n = some (ba (nameOf (months l) 1 n).1, (nameOf (months l) 1 n).2) := by
 obtain ⟨k, rfl⟩ : ∃ j, k = j + 1 := ⟨k - 1, by omega⟩
 unfold XM.newswireref11_Month.f
 rw [if_neg (by omega), if_neg (by omega), XM.newswireref11_Month.j0]
 by_cases c : n < 1
 ·rw [decide_eq_true c, if_pos (by rfl)]
  unfold nameOf
  rw [if_pos (Or.inl (by omega))]; rfl
 ·rw [decide_eq_false c, if_neg (by decide), rnames_f h0 h4, Option.bind_some, wrap64_id (by omega) (by omega)]
  show Option.bind (XM.newswireref11_name.f ((months l).map ba) (n - 1)) _ = _
  rw [rname_f _ (by have := (names_len l h4 h0).1; omega), Option.bind_some, nameOf_shift _ _ (by omega)]
theorem rMonth_no (l n : Int) (h : l < 1 ∨ 3 < l) {k : Nat} (hk : 1 ≤ k) : XM.newswireref11_Month.f k l n = some (ba [], 110) := by
 obtain ⟨k, rfl⟩ : ∃ j, k = j + 1 := ⟨k - 1, by omega⟩
 have hj : XM.newswireref11_Month.j0 (k + 1) l n true = some (ba [], 110) := by rw [XM.newswireref11_Month.j0, if_pos (by rfl)]; rfl
 unfold XM.newswireref11_Month.f
 by_cases c1 : l < 1
 ·rw [if_pos c1, hj]
 ·rw [if_neg c1, if_pos (by omega), hj]
theorem rWeekday_f {l : Nat} (h0 : 0 < l) (h4 : l < 4) (n : Int) {k : Nat} (hk : 1 ≤ k) : XM.newswireref11_Weekday.f k l n = some (ba (nameOf (days l) 0 n).1, (nameOf (days l) 0 n).2) := by
 obtain ⟨k, rfl⟩ : ∃ j, k = j + 1 := ⟨k - 1, by omega⟩
 unfold XM.newswireref11_Weekday.f
 rw [if_neg (by omega), decide_eq_false (by omega), XM.newswireref11_Weekday.j0, if_neg (by decide), rnames_f h0 h4, Option.bind_some]
 show Option.bind (XM.newswireref11_name.f ((days l).map ba) n) _ = _
 rw [rname_f _ (by have := (names_len l h4 h0).2; omega), Option.bind_some]
theorem rWeekday_no (l n : Int) (h : l < 1 ∨ 3 < l) {k : Nat} (hk : 1 ≤ k) : XM.newswireref11_Weekday.f k l n = some (ba [], 110) := by
 obtain ⟨k, rfl⟩ : ∃ j, k = j + 1 := ⟨k - 1, by omega⟩
 have hj : XM.newswireref11_Weekday.j0 (k + 1) l n true = some (ba [], 110) := by rw [XM.newswireref11_Weekday.j0, if_pos (by rfl)]; rfl
 unfold XM.newswireref11_Weekday.f
 by_cases c1 : l < 1
 ·rw [if_pos c1, hj]
 ·rw [if_neg c1, decide_eq_true (by omega), hj]
/-- From place i on. -/
def findFrom (tab : List S) (first i : Nat) (s : S) : Int × Int := match (tab.drop i).findIdx? (· == s) with | some j => (((j + i + first : Nat) : Int), 0) | none => (0, 110)
theorem findFrom_end (tab : List S) (first : Nat) (s : S) : findFrom tab first tab.length s = (0, 110) := by unfold findFrom; rw [List.drop_length]; rfl
theorem findFrom_step (tab : List S) (first i : Nat) (hi : i < tab.length) (s : S) : findFrom tab first i s = if tab.getD i [] = s then (((i + first : Nat) : Int), 0) else findFrom tab first (i + 1) s := by
 unfold findFrom
 have hg : tab.getD i [] = tab[i] := by simp [List.getD_eq_getElem?_getD, hi]
 rw [List.drop_eq_getElem_cons hi, List.findIdx?_cons, hg]
 by_cases c : tab[i] = s
 ·rw [if_pos c, if_pos (by simpa using c)]; simp
 ·rw [if_neg c, if_neg (by simpa using c)]
  cases (tab.drop (i + 1)).findIdx? (· == s) with
  | none => rfl
  | some j => show ((((j + 1) + i + first : Nat) : Int), (0 : Int)) = _; rw [show (j + 1) + i + first = j + (i + 1) + first by omega]
theorem rMonthOf_l0 {l : Nat} (h0 : 0 < l) (h4 : l < 4) (s : S) : ∀ (m i k : Nat), i + m = 12 → m + 5 ≤ k → XM.newswireref11_MonthOf.l0 k l (ba s) ((i + 1 : Nat) : Int) = some (findFrom (months l) 1 i s)
 | 0, i, k + 1, hi, hk => by
  obtain rfl : i = 12 := by omega
  have := findFrom_end (months l) 1 s
  rw [(names_len l h4 h0).1] at this
  rw [XM.newswireref11_MonthOf.l0, if_neg (by omega), this]
 | m + 1, i, k + 1, hi, hk => by
  have ih := rMonthOf_l0 h0 h4 s m (i + 1) k (by omega) (by omega)
  have hl := (names_len l h4 h0).1
  have hw : wrap64 (((i + 1 : Nat) : Int) + 1) = ((i + 1 + 1 : Nat) : Int) := by rw [wrap64_id (by omega) (by omega)]; rfl
  rw [XM.newswireref11_MonthOf.l0, if_pos (by omega), rMonth_f h0 h4 _ (by omega) (by omega) (by omega), Option.bind_some, nameOf_in _ _ _ (by omega), if_pos (by rfl), hw, ih, findFrom_step (months l) 1 i (by omega) s, ba_toList, ba_toList]
  by_cases c : (months l).getD i [] = s
  ·rw [if_pos c, if_pos c]
  ·rw [if_neg c, if_neg c]
theorem rMonthOf_f {l : Nat} (h0 : 0 < l) (h4 : l < 4) (s : S) {k : Nat} (hk : 20 ≤ k) : XM.newswireref11_MonthOf.f k l (ba s) = some (placeOf (months l) 1 s) := by
 have := rMonthOf_l0 h0 h4 s 12 0 k (by omega) (by omega)
 unfold XM.newswireref11_MonthOf.f
 exact this
theorem rMonthOf_no (l : Int) (h : l < 1 ∨ 3 < l) (s : ByteArray) : ∀ (m i k : Nat), i + m = 13 → m + 5 ≤ k → XM.newswireref11_MonthOf.l0 k l s i = some (0, 110)
 | 0, i, k + 1, hi, hk => by rw [XM.newswireref11_MonthOf.l0, if_neg (by omega)]
 | m + 1, i, k + 1, hi, hk => by
  have ih := rMonthOf_no l h s m (i + 1) k (by omega) (by omega)
  have hw : wrap64 ((i : Int) + 1) = ((i + 1 : Nat) : Int) := by rw [wrap64_id (by omega) (by omega)]; rfl
  rw [XM.newswireref11_MonthOf.l0, if_pos (by omega), rMonth_no l _ h (by omega), Option.bind_some, if_neg (by show ¬ ((110 : Int) = 0); decide), hw, ih]
theorem rWeekdayOf_l0 {l : Nat} (h0 : 0 < l) (h4 : l < 4) (s : S) : ∀ (m i k : Nat), i + m = 7 → m + 5 ≤ k → XM.newswireref11_WeekdayOf.l0 k l (ba s) (i : Int) = some (findFrom (days l) 0 i s)
 | 0, i, k + 1, hi, hk => by
  obtain rfl : i = 7 := by omega
  have := findFrom_end (days l) 0 s
  rw [(names_len l h4 h0).2] at this
  rw [XM.newswireref11_WeekdayOf.l0, if_neg (by omega), this]
 | m + 1, i, k + 1, hi, hk => by
  have ih := rWeekdayOf_l0 h0 h4 s m (i + 1) k (by omega) (by omega)
  have hl := (names_len l h4 h0).2
  have hn := nameOf_in (days l) 0 i (by omega)
  have hw : wrap64 ((i : Int) + 1) = ((i + 1 : Nat) : Int) := by rw [wrap64_id (by omega) (by omega)]; rfl
  rw [XM.newswireref11_WeekdayOf.l0, if_pos (by omega), rWeekday_f h0 h4 _ (by omega), Option.bind_some, show ((i : Nat) : Int) = ((i + 0 : Nat) : Int) from rfl, hn, if_pos (by rfl), show ((i + 0 : Nat) : Int) = (i : Int) from rfl, hw, ih, findFrom_step (days l) 0 i (by omega) s, ba_toList, ba_toList]
  by_cases c : (days l).getD i [] = s
  ·rw [if_pos c, if_pos c]; rfl
  ·rw [if_neg c, if_neg c]
theorem rWeekdayOf_f {l : Nat} (h0 : 0 < l) (h4 : l < 4) (s : S) {k : Nat} (hk : 20 ≤ k) : XM.newswireref11_WeekdayOf.f k l (ba s) = some (placeOf (days l) 0 s) := by
 have := rWeekdayOf_l0 h0 h4 s 7 0 k (by omega) (by omega)
 unfold XM.newswireref11_WeekdayOf.f
 exact this
theorem rWeekdayOf_no (l : Int) (h : l < 1 ∨ 3 < l) (s : ByteArray) : ∀ (m i k : Nat), i + m = 7 → m + 5 ≤ k → XM.newswireref11_WeekdayOf.l0 k l s i = some (0, 110)
 | 0, i, k + 1, hi, hk => by rw [XM.newswireref11_WeekdayOf.l0, if_neg (by omega)]
 | m + 1, i, k + 1, hi, hk => by
  have ih := rWeekdayOf_no l h s m (i + 1) k (by omega) (by omega)
  have hw : wrap64 ((i : Int) + 1) = ((i + 1 : Nat) : Int) := by rw [wrap64_id (by omega) (by omega)]; rfl
  rw [XM.newswireref11_WeekdayOf.l0, if_pos (by omega), rWeekday_no l _ h (by omega), Option.bind_some, if_neg (by show ¬ ((110 : Int) = 0); decide), hw, ih]
end Go.Proofs.YtjgobfbjmlacjaaDoor.XP
