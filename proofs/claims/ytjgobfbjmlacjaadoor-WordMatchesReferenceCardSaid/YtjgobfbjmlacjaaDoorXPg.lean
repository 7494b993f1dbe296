/-
 Numbers are read back: Number of Words of a number is this number, and what Number accepts are the words of its result.
-/
import Derived.Test.YtjgobfbjmlacjaaDoorXPf
set_option linter.unusedSimpArgs false
set_option linter.unusedVariables false
set_option maxRecDepth 100000
namespace Go.Proofs.YtjgobfbjmlacjaaDoor.XP
open Go.RowKit Go.Proofs.YtjgobfbjmlacjaaDoorW.PrintWords Go.Proofs.YtjgobfbjmlacjaaDoorW.PrintLast Go.Proofs.YtjgobfbjmlacjaaDoorW.PrintMore
/-! ### What is read back -/
def chk4 (l n : Nat) : Bool := Nat.ble (Lib.fields (small l n)).length 4 && Nat.ble (Lib.fields (thl l n)).length 5
theorem chk4_1_1 : (List.range' 1 250).all (chk4 1) = true := by decide +kernel
theorem chk4_1_251 : (List.range' 251 250).all (chk4 1) = true := by decide +kernel
theorem chk4_1_501 : (List.range' 501 250).all (chk4 1) = true := by decide +kernel
theorem chk4_1_751 : (List.range' 751 249).all (chk4 1) = true := by decide +kernel
theorem chk4_2_1 : (List.range' 1 250).all (chk4 2) = true := by decide +kernel
theorem chk4_2_251 : (List.range' 251 250).all (chk4 2) = true := by decide +kernel
theorem chk4_2_501 : (List.range' 501 250).all (chk4 2) = true := by decide +kernel
theorem chk4_2_751 : (List.range' 751 249).all (chk4 2) = true := by decide +kernel
theorem chk4_3_1 : (List.range' 1 250).all (chk4 3) = true := by decide +kernel
theorem chk4_3_251 : (List.range' 251 250).all (chk4 3) = true := by decide +kernel
theorem chk4_3_501 : (List.range' 501 250).all (chk4 3) = true := by decide +kernel
theorem chk4_3_751 : (List.range' 751 249).all (chk4 3) = true := by decide +kernel
theorem chk4_out {l : Nat} (h0 : 0 < l) (h4 : l < 4) {n : Nat} (h1 : 1 ≤ n) (h2 : n < 1000) : (Lib.fields (small l n)).length ≤ 4 ∧ (Lib.fields (thl l n)).length ≤ 5 := by
 have h : chk4 l n = true := by
  rcases langs h0 h4 with rfl | rfl | rfl
  ·exact all_999 chk4_1_1 chk4_1_251 chk4_1_501 chk4_1_751 h1 h2
  ·exact all_999 chk4_2_1 chk4_2_251 chk4_2_501 chk4_2_751 h1 h2
  ·exact all_999 chk4_3_1 chk4_3_251 chk4_3_501 chk4_3_751 h1 h2
 simp only [chk4, Bool.and_eq_true] at h
 exact ⟨Nat.le_of_ble_eq_true h.1, Nat.le_of_ble_eq_true h.2⟩
theorem rest_pos {l : Nat} (s : S) {n : Nat} (h : rest l s = some n) : 1 ≤ n := by
 unfold rest at h
 have hr : ∀ x ∈ restTab l, 1 ≤ x.2 := by
  intro x hx
  simp only [restTab, List.mem_flatMap, List.mem_map, List.mem_range] at hx
  obtain ⟨t, ht, o, ho, rfl⟩ := hx
  show 1 ≤ 20 + 10 * t + (o + 1)
  omega
 have h2 : ∀ n, (match (tens l).findIdx? (· == s) with | some i => some (20 + 10 * i) | none => ((restTab l).find? (·.1 == s)).map (·.2)) = some n → 1 ≤ n := by
  intro n hn
  cases hx : (tens l).findIdx? (· == s) with
  | some i => rw [hx] at hn; have := Option.some.inj hn; omega
  | none =>
   rw [hx] at hn
   obtain ⟨x, hx, rfl⟩ := Option.map_eq_some_iff.mp hn
   exact hr x (List.mem_of_find?_eq_some hx)
 cases hx : (units l).findIdx? (· == s) with
 | some i =>
  rw [hx] at h
  cases i with
  | zero => exact h2 n h
  | succ i => have := Option.some.inj h; omega
 | none => rw [hx] at h; exact h2 n h
theorem value_pos {l : Nat} (s : S) {n : Nat} (h : value l s = some n) : 1 ≤ n := by
 unfold value at h
 cases hr : rest l s with
 | some m => rw [hr] at h; have := Option.some.inj h; have := rest_pos s hr; omega
 | none =>
  rw [hr] at h
  obtain ⟨i, hi, hv⟩ := List.exists_of_findSome?_eq_some h
  have := (List.mem_range'_1.mp hi).1
  unfold valueAt at hv
  by_cases c1 : hundreds l i [] = s
  ·rw [if_pos c1] at hv; have := Option.some.inj hv; omega
  ·rw [if_neg c1] at hv
   by_cases c2 : (headOf l i).isPrefixOf s
   ·rw [if_pos c2] at hv
    obtain ⟨x, _, rfl⟩ := Option.map_eq_some_iff.mp hv
    omega
   ·rw [if_neg c2] at hv; cases hv
theorem findSome_uniq {α : Type} {f : α → Option Nat} {q : Nat} : ∀ {xs : List α}, (∃ x ∈ xs, f x = some q) → (∀ x ∈ xs, ∀ p, f x = some p → p = q) → xs.findSome? f = some q
 | [], ⟨_, hx, _⟩, _ => by cases hx
 | y :: ys, ⟨x, hx, hf⟩, hu => by
  rw [List.findSome?_cons]
  cases hy : f y with
  | some p => rw [hu y (by simp) p hy]
  | none =>
   rcases List.mem_cons.mp hx with rfl | hx
   ·rw [hy] at hf; cases hf
   ·exact findSome_uniq ⟨x, hx, hf⟩ (fun z hz => hu z (List.mem_cons_of_mem _ hz))
theorem manyOf_some {l : Nat} {s x : S} {p : Nat} (h : manyOf l s x = some p) : value l x = some p ∧ thl l p = s := by
 unfold manyOf at h
 cases hv : value l x with
 | none => rw [hv] at h; cases h
 | some q =>
  rw [hv] at h
  by_cases hc : thousands l (small l q) q = s
  ·simp only [hc, if_true] at h; obtain rfl := Option.some.inj h; exact ⟨rfl, hc⟩
  ·simp only [hc, if_false] at h; cases h
theorem manyOf_small {l : Nat} (h0 : 0 < l) (h4 : l < 4) {q : Nat} (h1 : 1 ≤ q) (h2 : q < 1000) : manyOf l (thl l q) (small l q) = some q := by
 unfold manyOf
 rw [value_small h0 h4 h1 h2]
 exact if_pos rfl
theorem cutSuf_app (a e : S) : cutSuf (a ++ e) e = a := by
 unfold cutSuf
 rw [if_pos (by rw [List.isSuffixOf_iff_suffix]; exact List.suffix_append a e)]
 simp
theorem shorter_add (s e0 : S) (c : UInt8) : shorter s (e0 ++ [c]) = s ∨ shorter s (e0 ++ [c]) ++ [c] = s := by
 unfold shorter
 by_cases h : (e0 ++ [c]).isSuffixOf s
 ·right
  rw [if_pos h]
  obtain ⟨t, rfl⟩ := List.isSuffixOf_iff_suffix.mp h
  rw [← List.append_assoc, List.dropLast_concat]
 ·left; rw [if_neg h]
theorem endOf1 : endOf 1 = sThousand := by decide
theorem endOf2 : endOf 2 = sTausend := by decide
theorem endOf3 : endOf 3 = sSMil := by decide
/-- THE THOUSANDS ARE READ BACK. -/
theorem many_thl {l : Nat} (h0 : 0 < l) (h4 : l < 4) {q : Nat} (h1 : 1 ≤ q) (h2 : q < 1000) : many l (thl l q) = some q := by
 refine findSome_uniq ?_ (fun x _ p hp => ?_)
 ·have key : ∀ x, x = small l q → manyOf l (thl l q) x = some q := fun x hx => hx ▸ manyOf_small h0 h4 h1 h2
  rcases langs h0 h4 with rfl | rfl | rfl
  ·have e : cutSuf (thl 1 q) (endOf 1) = small 1 q := by rw [endOf1]; exact cutSuf_app _ _
   exact ⟨_, List.mem_cons_of_mem _ (List.mem_cons_self ..), key _ e⟩
  ·have e : cutSuf (thl 2 q) (endOf 2) = shorter (small 2 q) ([101, 105, 110] ++ [115]) := by rw [endOf2]; exact cutSuf_app _ _
   rcases shorter_add (small 2 q) [101, 105, 110] 115 with hs | hs
   ·exact ⟨_, List.mem_cons_of_mem _ (List.mem_cons_self ..), key _ (e.trans hs)⟩
   ·exact ⟨_, List.mem_cons_of_mem _ (List.mem_cons_of_mem _ (List.mem_cons_self ..)), key _ (by rw [e]; exact hs)⟩
  ·by_cases hq : q = 1
   ·subst hq
    exact ⟨_, List.mem_cons_self .., key _ rfl⟩
   ·have e : cutSuf (thl 3 q) (endOf 3) = shorter (small 3 q) ([117, 110] ++ [111]) := by
     have : thl 3 q = shorter (small 3 q) sUno ++ sSMil := if_neg hq
     rw [endOf3, this]; exact cutSuf_app _ _
    rcases shorter_add (small 3 q) [117, 110] 111 with hs | hs
    ·exact ⟨_, List.mem_cons_of_mem _ (List.mem_cons_self ..), key _ (e.trans hs)⟩
    ·exact ⟨_, List.mem_cons_of_mem _ (List.mem_cons_of_mem _ (List.mem_cons_of_mem _ (List.mem_cons_self ..))), key _ (by rw [e]; exact hs)⟩
 ·obtain ⟨hv, ht⟩ := manyOf_some hp
  exact thl_inj h0 h4 (value_pos x hv) (value_lt h4 x hv) h1 h2 ht
theorem down_uniq {F : Nat → Option Nat} {n : Nat} : ∀ {m : Nat}, (∃ k, k < m ∧ F k = some n) → (∀ k p, F k = some p → p = n) → down F m = some n
 | 0, ⟨_, hk, _⟩, _ => by omega
 | m + 1, ⟨k, hk, hf⟩, hu => by
  rw [down]
  cases hm : F m with
  | some p => rw [hu m p hm]
  | none =>
   refine down_uniq ⟨k, ?_, hf⟩ hu
   rcases Nat.lt_or_eq_of_le (Nat.le_of_lt_succ hk) with h | rfl
   ·exact h
   ·rw [hm] at hf; cases hf
theorem down_some {F : Nat → Option Nat} {n : Nat} : ∀ {m : Nat}, down F m = some n → ∃ k, F k = some n
 | 0, h => by cases h
 | m + 1, h => by
  rw [down] at h
  cases hm : F m with
  | some p => rw [hm] at h; exact ⟨m, by rw [hm]; exact h⟩
  | none => rw [hm] at h; exact down_some h
theorem numAt_some {l : Nat} (h4 : l < 4) {L : List S} {k n : Nat} (h : numAt l L k = some n) : words l n = L ∧ n < 1000000 := by
 unfold numAt at h
 by_cases c : okAt l L k = true ∧ words l (cand l L k) = L
 ·rw [if_pos c] at h; obtain rfl := Option.some.inj h; exact ⟨c.2, cand_lt h4 L k⟩
 ·rw [if_neg c] at h; cases h
theorem empty_unread : ∀ l < 4, 0 < l → value l (jn []) = none ∧ many l (jn []) = none := by decide +kernel
theorem units_take1 : ∀ l < 4, 0 < l → (units l).take 1 = [(units l).getD 0 []] := by decide
theorem words_pos {l : Nat} (h0 : 0 < l) (h4 : l < 4) {n : Nat} (hn : n < 1000000) : words l n ≠ [] ∧ (words l n).length ≤ 9 := by
 rcases Nat.eq_zero_or_pos n with rfl | p
 ·rw [(zero_unmarked l h4 h0).2]; exact ⟨by simp, by simp⟩
 by_cases hl : n < 1000
 ·rw [words_low p hl]
  exact ⟨(chk1_out h0 h4 p hl).1, Nat.le_trans (chk4_out h0 h4 p hl).1 (by omega)⟩
 ·rw [words_big (by omega)]
  have h2 := chk2_out h0 h4 (n := n / 1000) (by omega) (by omega)
  have h3 := chk4_out h0 h4 (n := n / 1000) (by omega) (by omega)
  refine ⟨fun h => ?_, ?_⟩
  ·rw [(List.append_eq_nil_iff.mp h).1] at h2; cases h2.2
  ·rw [List.length_append]
   rcases Nat.eq_zero_or_pos (n % 1000) with e | p
   ·rw [e, small_0, show Lib.fields ([] : S) = [] from rfl, List.length_nil]; omega
   ·have := (chk4_out h0 h4 (n := n % 1000) p (by omega)).1; omega
/-- NUMBER OF WORDS OF A NUMBER. -/
theorem number_words {l : Nat} (h0 : 0 < l) (h4 : l < 4) {n : Nat} (hn : n < 1000000) : number l (words l n) = some n := by
 unfold number
 rw [if_neg (by have := (words_pos h0 h4 hn).2; omega), units_take1 l h4 h0, ← (zero_unmarked l h4 h0).2]
 rcases Nat.eq_zero_or_pos n with rfl | p
 ·exact if_pos rfl
 rw [if_neg (words_zero h0 h4 p hn)]
 refine down_uniq ?_ (fun k q h => ?_)
 ·have he := empty_unread l h4 h0
  by_cases hl : n < 1000
  ·refine ⟨0, by omega, ?_⟩
   have hv : value l (jn ((words l n).drop 0)) = some n := by
    rw [List.drop_zero, words_low p hl, (chk1_out h0 h4 p hl).2.1]; exact value_small h0 h4 p hl
   have hc : cand l (words l n) 0 = n := by
    unfold cand; rw [hv, List.take_zero, he.2]; simp
   unfold numAt okAt
   rw [hc, hv]
   exact if_pos ⟨by simp; omega, rfl⟩
  ·have hq := chk2_out h0 h4 (n := n / 1000) (by omega) (by omega)
   refine ⟨(Lib.fields (thl l (n / 1000))).length, by rw [words_big (by omega), List.length_append]; omega, ?_⟩
   have h1 : (words l n).take (Lib.fields (thl l (n / 1000))).length = Lib.fields (thl l (n / 1000)) := by rw [words_big (by omega), List.take_left]
   have h2 : (words l n).drop (Lib.fields (thl l (n / 1000))).length = Lib.fields (small l (n % 1000)) := by rw [words_big (by omega), List.drop_left]
   have hm : many l (jn (Lib.fields (thl l (n / 1000)))) = some (n / 1000) := by rw [hq.1]; exact many_thl h0 h4 (by omega) (by omega)
   have hv : (value l (jn (Lib.fields (small l (n % 1000))))).getD 0 = n % 1000 ∧ ((value l (jn (Lib.fields (small l (n % 1000))))).isSome || decide ((Lib.fields (thl l (n / 1000))).length = (words l n).length)) = true := by
    rcases Nat.eq_zero_or_pos (n % 1000) with e | p
    ·rw [e, small_0]
     have : Lib.fields ([] : S) = [] := rfl
     rw [this, he.1]
     refine ⟨rfl, ?_⟩
     have : words l n = Lib.fields (thl l (n / 1000)) := by rw [words_big (by omega), e, small_0]; simp [Lib.fields, Lib.fieldsGo]
     rw [this]; simp
    ·have := (chk1_out h0 h4 (n := n % 1000) p (by omega)).2.1
     rw [this, value_small h0 h4 p (by omega)]; exact ⟨rfl, rfl⟩
   have hc : cand l (words l n) (Lib.fields (thl l (n / 1000))).length = n := by
    unfold cand; rw [h1, h2, hm, hv.1]; simp only [Option.getD_some]; omega
   unfold numAt okAt
   rw [hc, h1, h2, hm, hv.2]
   exact if_pos ⟨by simp; omega, rfl⟩
 ·obtain ⟨hw, hq⟩ := numAt_some h4 h
  exact words_inj h0 h4 hq hn hw
/-- WHAT NUMBER ACCEPTS ARE THE WORDS OF ITS RESULT. -/
theorem number_sound {l : Nat} (h0 : 0 < l) (h4 : l < 4) {L : List S} {n : Nat} (h : number l L = some n) : words l n = L ∧ n < 1000000 := by
 unfold number at h
 by_cases h9 : 9 < L.length
 ·rw [if_pos h9] at h; cases h
 rw [if_neg h9] at h
 by_cases hz : L = (units l).take 1
 ·rw [if_pos hz] at h
  obtain rfl := Option.some.inj h
  rw [hz, units_take1 l h4 h0]
  exact ⟨(zero_unmarked l h4 h0).2, by omega⟩
 ·rw [if_neg hz] at h
  obtain ⟨k, hk⟩ := down_some h
  exact numAt_some h4 hk
/-! ### At most ten words of at most 60 bytes -/
def few (L : List S) : List S := (L.take 10).map (·.take 60)
theorem few_l0 (L : List S) : ∀ (m i k : Nat) (acc : List S), 10 - i ≤ m → i ≤ 10 → acc.length ≤ 10 + i → m < k →
  XS.newswirelaw11_few.l0 k (L.map ba) (acc.map ba) i = some ((acc ++ few (L.drop i |>.take (10 - i))).map ba)
 | m, i, k + 1, acc, h, hi, ha, hk => by
  rw [XS.newswirelaw11_few.l0, List.length_map]
  by_cases h1 : i < L.length
  ·rw [if_pos (by omega)]
   by_cases h2 : i < 10
   ·have hg : L.getD i [] = L[i] := by simp [List.getD_eq_getElem?_getD, h1]
    have hmn : mn (((ba L[i]).size : Nat) : Int) 60 = ((min L[i].length 60 : Nat) : Int) := by rw [ba_size]; unfold mn; split <;> omega
    obtain ⟨m, rfl⟩ : ∃ j, m = j + 1 := ⟨m - 1, by omega⟩
    rw [if_pos (by omega), if_pos (by omega), rd_map, hg, hmn, if_pos (by omega), if_pos (by rw [ba_size]; omega), if_pos (by rw [List.length_map]; omega), Int.toNat_natCast, ba_take, wrap64_id (by omega) (by omega)]
    have ih := few_l0 L m (i + 1) k (acc ++ [L[i].take (min L[i].length 60)]) (by omega) (by omega) (by simp; omega) (by omega)
    rw [List.map_append, List.map_singleton] at ih
    rw [show ((i : Int) + 1) = ((i + 1 : Nat) : Int) from rfl, ih]
    congr 2
    rw [List.drop_eq_getElem_cons h1, show 10 - i = (10 - (i + 1)) + 1 by omega, List.take_succ_cons]
    unfold few
    rw [List.append_assoc, show (10 : Nat) = 9 + 1 from rfl, List.take_succ_cons, List.map_cons]
    have e1 : L[i].take (min L[i].length 60) = L[i].take 60 := by
     rcases Nat.le_total L[i].length 60 with h | h
     ·rw [Nat.min_eq_left h, List.take_of_length_le (Nat.le_refl _), List.take_of_length_le h]
     ·rw [Nat.min_eq_right h]
    have e2 : ((L.drop (i + 1)).take (9 + 1 - (i + 1))).take 9 = ((L.drop (i + 1)).take (9 + 1 - (i + 1))).take (9 + 1) := by
     rw [List.take_take, List.take_take]; congr 1; omega
    rw [e1, e2]; rfl
   ·rw [if_neg (by omega)]
    have : 10 - i = 0 := by omega
    rw [this]; simp [few]
  ·rw [if_neg (by omega), List.drop_of_length_le (by omega)]; simp [few]
theorem few_f (L : List S) (k : Nat) (hk : 10 < k) : XS.newswirelaw11_few.f k (L.map ba) = some ((few L).map ba) := by
 unfold XS.newswirelaw11_few.f
 have := few_l0 L 10 0 k [] (by omega) (by omega) (by simp) hk
 rw [show ((0 : Nat) : Int) = 0 from rfl] at this
 rw [show ([] : List ByteArray) = ([] : List S).map ba from rfl, this]
 simp [few, List.take_take]
theorem few_le (L : List S) : (few L).length ≤ 10 ∧ tot (few L) ≤ 610 := by
 have hl : (few L).length ≤ 10 := by unfold few; simp; omega
 refine ⟨hl, ?_⟩
 have : ∀ A : List S, (∀ s ∈ A, s.length ≤ 60) → tot A ≤ 61 * A.length := by
  intro A
  induction A with
  | nil => intro _; simp [tot]
  | cons x r ih =>
   intro h
   have h1 := h x (by simp)
   have h2 := ih (fun s hs => h s (List.mem_cons_of_mem _ hs))
   simp only [tot, List.map_cons, List.sum_cons, List.length_cons] at *
   omega
 have h2 := this (few L) (fun s hs => by unfold few at hs; obtain ⟨t, _, rfl⟩ := List.mem_map.mp hs; simp; omega)
 omega
theorem ba_map_eta (l : List ByteArray) : (l.map fun b => b.data.toList).map ba = l := by
 rw [List.map_map, show (ba ∘ fun b : ByteArray => b.data.toList) = id from funext ba_eta, List.map_id]
end Go.Proofs.YtjgobfbjmlacjaaDoor.XP
