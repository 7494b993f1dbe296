/-
 The same: Is, and the chapter's examples.
-/
import Derived.Test.YtjgobfbjmlacjaaDoorXPb
import Derived.Test.YtjgobfbjmlacjaaDoorXI
set_option linter.unusedSimpArgs false
set_option linter.unusedVariables false
set_option maxRecDepth 100000
namespace Go.Proofs.YtjgobfbjmlacjaaDoor.XP
open Go.RowKit Go.Proofs.YtjgobfbjmlacjaaDoorW.PrintWords Go.Proofs.YtjgobfbjmlacjaaDoorW.PrintLast Go.Proofs.YtjgobfbjmlacjaaDoorW.PrintMore
def letterS : Nat → S | 1 => [101, 102, 104, 110, 111, 115, 116, 122] | 2 => [97, 100, 101, 102, 104, 110, 115, 116, 118, 122] | 3 => [99, 100, 109, 110, 111, 113, 115, 116, 117, 118, 121] | _ => []
def amongS (t s : S) : Bool := (Lib.fields t).any (· == s)
def isW (l : Nat) (s : S) : Bool :=
 if Lib.contains s sSpace = true ∨ s = [] ∨ Lib.contains (letterS l) (s.take 1) = false then false
 else (value l s).isSome || (many l s).isSome || decide (s = (units l).getD 0 []) || (List.range' 1 9).any (fun h => amongS (hundreds l h ((units l).getD 1 [])) s || amongS (ones l 1 h) s) ||
  [1, 2, 21, 31].any fun q => amongS (thousands l (small l q) q) s
theorem contains_f (u : List S) (s : S) (hu : u.length ≤ 1000000) (k : Nat) (hk : u.length < k) : XL.slices_Contains_string_string.f k (u.map ba) (ba s) = some (u.any (· == s)) := by
 unfold XL.slices_Contains_string_string.f
 rw [index_f u s hu k hk, Option.bind_some]
 congr 1
 have h := List.findIdx?_isSome (xs := u) (p := (· == s))
 rw [← h]
 cases u.findIdx? (· == s) with
 | none => rfl
 | some j => exact decide_eq_true (Int.natCast_nonneg j)
theorem is1_f (t s : S) (ht : t.length ≤ 4000) (ha : ascii t = true) (k : Nat) (hk : 4001 ≤ k) : word_Is_1.f k (ba t) (ba s) = some (amongS t s) := by
 unfold word_Is_1.f
 have h1 := Lib.fields_length t
 have h2 := cntF_le t true
 rw [fields_f t (by omega) ha, Option.bind_some, contains_f _ _ (by omega) _ (by omega)]; rfl
theorem hund1_ascii : ∀ l < 4, ∀ h < 10, ascii (hundreds l h ((units l).getD 1 [])) = true := by decide +kernel
theorem ones1_ascii : ∀ l < 4, ∀ h < 10, ascii (ones l 1 h) = true := by decide +kernel
def tail5 (l h : Nat) (s : S) : Bool := (List.range' h (10 - h)).any (fun h => amongS (hundreds l h ((units l).getD 1 [])) s || amongS (ones l 1 h) s) || [1, 2, 21, 31].any fun q => amongS (thousands l (small l q) q) s
theorem is_j5 {l : Nat} (h0 : 0 < l) (h4 : l < 4) (s : S) (q : Nat) (hq : q < 1000) (i : Int) (a b c d : Int) (k : Nat) (hk : 4001 ≤ k) :
  XI.word_Is.j5 (k + 2) q i a b c d (ba s) (U l) (T l) (M l) (D l) (fo l) (fh l) (ft l) =
   if amongS (thousands l (small l q) q) s = true then some true else XI.word_Is.l1 (k + 1) (wrap64 (i + 1)) a b c d (ba s) (U l) (T l) (M l) (D l) (fo l) (fh l) (ft l) := by
 have hsl := small_le h4 hq
 have hta := ascii_thousands h0 h4 q (small_ascii l h4 q hq)
 have htl := thousands_le h0 h4 (small l q) q
 have h1 := is1_f (thousands l (small l q) q) s (by omega) hta (k + 1) (by omega)
 rw [XI.word_Is.j5, small_f h0 h4 k q hq, Option.bind_some]
 rcases thou_call h0 h4 (small l q) q (by omega) with ⟨rfl, hf, hc⟩ | ⟨rfl, hf, hc⟩ | ⟨rfl, hf, hc⟩
 ·rw [if_pos hf, hc, Option.bind_some, h1]; rfl
 ·rw [if_neg (by decide), if_pos hf, hc, Option.bind_some, h1]; rfl
 ·rw [if_neg (by decide), if_neg (by decide), if_pos hf, hc, Option.bind_some, h1]; rfl
theorem is_l1 {l : Nat} (h0 : 0 < l) (h4 : l < 4) (s : S) (k : Nat) (hk : 4001 ≤ k) :
  XI.word_Is.l1 (k + 10) 0 1 2 21 31 (ba s) (U l) (T l) (M l) (D l) (fo l) (fh l) (ft l) = some ([1, 2, 21, 31].any fun q => amongS (thousands l (small l q) q) s) := by
 simp only [List.any_cons, List.any_nil]
 rw [XI.word_Is.l1, if_pos (by omega), if_pos (by rfl)]
 have e1 := is_j5 h0 h4 s 1 (by omega) 0 1 2 21 31 (k + 7) (by omega)
 rw [show ((1 : Nat) : Int) = 1 from rfl] at e1
 rw [e1]
 by_cases c1 : amongS (thousands l (small l 1) 1) s = true
 ·rw [if_pos c1, c1]; rfl
 rw [if_neg c1, Bool.eq_false_iff.mpr c1, Bool.false_or, show wrap64 (0 + 1) = 1 from wrap64_id (by decide) (by decide), XI.word_Is.l1, if_pos (by omega), if_neg (by omega), if_pos (by rfl)]
 have e2 := is_j5 h0 h4 s 2 (by omega) 1 1 2 21 31 (k + 5) (by omega)
 rw [show ((2 : Nat) : Int) = 2 from rfl] at e2
 rw [e2]
 by_cases c2 : amongS (thousands l (small l 2) 2) s = true
 ·rw [if_pos c2, c2]; rfl
 rw [if_neg c2, Bool.eq_false_iff.mpr c2, Bool.false_or, show wrap64 (1 + 1) = 2 from wrap64_id (by decide) (by decide), XI.word_Is.l1, if_pos (by omega), if_neg (by omega), if_neg (by omega), if_pos (by rfl)]
 have e3 := is_j5 h0 h4 s 21 (by omega) 2 1 2 21 31 (k + 3) (by omega)
 rw [show ((21 : Nat) : Int) = 21 from rfl] at e3
 rw [e3]
 by_cases c3 : amongS (thousands l (small l 21) 21) s = true
 ·rw [if_pos c3, c3]; rfl
 rw [if_neg c3, Bool.eq_false_iff.mpr c3, Bool.false_or, show wrap64 (2 + 1) = 3 from wrap64_id (by decide) (by decide), XI.word_Is.l1, if_pos (by omega), if_neg (by omega), if_neg (by omega), if_neg (by omega), if_pos (by rfl)]
 have e4 := is_j5 h0 h4 s 31 (by omega) 3 1 2 21 31 (k + 1) (by omega)
 rw [show ((31 : Nat) : Int) = 31 from rfl] at e4
 rw [e4]
 by_cases c4 : amongS (thousands l (small l 31) 31) s = true
 ·rw [if_pos c4, c4]; rfl
 rw [if_neg c4, Bool.eq_false_iff.mpr c4, Bool.false_or, show wrap64 (3 + 1) = 4 from wrap64_id (by decide) (by decide), XI.word_Is.l1, if_neg (by omega)]
theorem is_l0 {l : Nat} (h0 : 0 < l) (h4 : l < 4) (s : S) : ∀ (m h k : Nat), 10 - h ≤ m → 1 ≤ h → h ≤ 10 → 2 * m + 4100 ≤ k →
  XI.word_Is.l0 k h (ba s) (U l) (T l) (M l) (D l) (fo l) (fh l) (ft l) = some (tail5 l h s)
 | 0, h, k + 11, hm, h1, hi, hk => by
  obtain rfl : h = 10 := by omega
  rw [XI.word_Is.l0, if_neg (by omega), is_l1 h0 h4 s k (by omega)]; rfl
 | m + 1, h, k + 2, hm, h1, hi, hk => by
  by_cases hlt : h < 10
  ·have hw : wrap64 ((h : Int) + 1) = ((h + 1 : Nat) : Int) := by rw [wrap64_id (by omega) (by omega)]; rfl
   have ih := is_l0 h0 h4 s m (h + 1) k (by omega) (by omega) (by omega) (by omega)
   have hcut : tail5 l h s = ((amongS (hundreds l h ((units l).getD 1 [])) s || amongS (ones l 1 h) s) || tail5 l (h + 1) s) := by
    unfold tail5
    rw [show 10 - h = (10 - (h + 1)) + 1 by omega, List.range'_succ, List.any_cons, Bool.or_assoc]
   have hu1 := units_le l h4 1 (by omega)
   have hhl := hundreds_le h4 h h1 hlt ((units l).getD 1 [])
   have hol := ones_le l h4 1 (by omega) h (by omega)
   have i1 := is1_f (hundreds l h ((units l).getD 1 [])) s (by omega) (hund1_ascii l h4 h hlt) (k + 1) (by omega)
   have i2 := is1_f (ones l 1 h) s (by omega) (ones1_ascii l h4 h hlt) (k + 1) (by omega)
   have hj : ∀ b : Bool, b = (amongS (hundreds l h ((units l).getD 1 [])) s || amongS (ones l 1 h) s) → XI.word_Is.j3 (k + 1) h b (ba s) (U l) (T l) (M l) (D l) (fo l) (fh l) (ft l) = some (tail5 l h s) := by
    rintro b rfl
    rw [XI.word_Is.j3, hcut]
    by_cases hb : (amongS (hundreds l h ((units l).getD 1 [])) s || amongS (ones l 1 h) s) = true
    ·rw [if_pos hb, hb]; rfl
    ·rw [if_neg hb, Bool.eq_false_iff.mpr hb, Bool.false_or, hw]; exact ih
   have hfin : ∀ (X : Option Bool), X = some (amongS (ones l 1 h) s) → (if amongS (hundreds l h ((units l).getD 1 [])) s = true then XI.word_Is.j3 (k + 1) h true (ba s) (U l) (T l) (M l) (D l) (fo l) (fh l) (ft l) else X.bind fun t => XI.word_Is.j3 (k + 1) h t (ba s) (U l) (T l) (M l) (D l) (fo l) (fh l) (ft l)) = some (tail5 l h s) := by
    rintro X rfl
    by_cases hb : amongS (hundreds l h ((units l).getD 1 [])) s = true
    ·rw [if_pos hb]; exact hj _ (by rw [hb]; rfl)
    ·rw [if_neg hb, Option.bind_some]; exact hj _ (by rw [Bool.eq_false_iff.mpr hb]; rfl)
   have hrd : rdOf ByteArray.empty (U l) 1 = ba ((units l).getD 1 []) := rd_map (units l) 1
   have hul := units_len l h4 h0
   rw [XI.word_Is.l0, if_pos (by omega), if_pos (by rw [U, List.length_map]; omega), hrd]
   have hh := hund_call h0 h4 h1 hlt ((units l).getD 1 []) (by omega)
   have ho := ones_call h0 h4 (ten := 1) (one := h) (by omega) (by omega)
   rcases langs h0 h4 with rfl | rfl | rfl
   ·have hc : XA.word_tongues_2.f (U 1) (T 1) (M 1) (D 1) (fo 1) (some 58) (ft 1) h (ba ((units 1).getD 1 [])) = some (ba (hundreds 1 h ((units 1).getD 1 []))) := by rcases hh with ⟨_, _, x⟩ | ⟨x, _⟩ | ⟨x, _⟩ <;> first | exact x | (exact absurd x (by decide))
    have hd : XA.word_tongues_1.f (U 1) (T 1) (M 1) (D 1) (some 57) (some 58) (ft 1) 1 h = some (ba (ones 1 1 h)) := by rcases ho with ⟨_, _, x⟩ | ⟨x, _⟩ | ⟨x, _⟩ <;> first | exact x | (exact absurd x (by decide))
    rw [if_pos (by rfl), hc, Option.bind_some, i1, Option.bind_some, if_pos (show fo 1 = some 57 from rfl), hd, Option.bind_some]
    exact hfin _ i2
   ·have hc : XA.word_tongues_5.f (U 2) (T 2) (M 2) (D 2) (fo 2) (some 63) (ft 2) h (ba ((units 2).getD 1 [])) = some (ba (hundreds 2 h ((units 2).getD 1 []))) := by rcases hh with ⟨x, _⟩ | ⟨_, _, x⟩ | ⟨x, _⟩ <;> first | exact x | (exact absurd x (by decide))
    have hd : XA.word_tongues_4.f (U 2) (T 2) (M 2) (D 2) (some 61) (some 63) (ft 2) 1 h = some (ba (ones 2 1 h)) := by rcases ho with ⟨x, _⟩ | ⟨_, _, x⟩ | ⟨x, _⟩ <;> first | exact x | (exact absurd x (by decide))
    rw [if_neg (by decide), if_pos (by rfl), hc, Option.bind_some, i1, Option.bind_some, if_pos (show fo 2 = some 61 from rfl), hd, Option.bind_some]
    exact hfin _ i2
   ·have hc : XA.word_tongues_8.f (U 3) (T 3) (M 3) (D 3) (fo 3) (some 66) (ft 3) h (ba ((units 3).getD 1 [])) = some (ba (hundreds 3 h ((units 3).getD 1 []))) := by rcases hh with ⟨x, _⟩ | ⟨x, _⟩ | ⟨_, _, x⟩ <;> first | exact x | (exact absurd x (by decide))
    have hd : XA.word_tongues_7.f (U 3) (T 3) (M 3) (D 3) (some 65) (some 66) (ft 3) 1 h = some (ba (ones 3 1 h)) := by rcases ho with ⟨x, _⟩ | ⟨x, _⟩ | ⟨_, _, x⟩ <;> first | exact x | (exact absurd x (by decide))
    rw [if_neg (by decide), if_neg (by decide), if_pos (by rfl), hc, Option.bind_some, i1, Option.bind_some, if_pos (show fo 3 = some 65 from rfl), hd, Option.bind_some]
    exact hfin _ i2
  ·obtain rfl : h = 10 := by omega
   obtain ⟨j, rfl⟩ : ∃ j, k = j + 9 := ⟨k - 9, by omega⟩
   rw [XI.word_Is.l0, if_neg (by omega), is_l1 h0 h4 s j (by omega)]; rfl
theorem is_f {l : Nat} (h0 : 0 < l) (h4 : l < 4) (s : S) (hs : s.length ≤ 90000) (k : Nat) (hk : 4200 ≤ k) : XI.word_Is.f k l (ba s) = some (isW l s) := by
 obtain ⟨k, rfl⟩ : ∃ j, k = j + 2 := ⟨k - 2, by omega⟩
 have hj0f : ∀ b, b = true → XI.word_Is.j0 (k + 2) l b (ba s) = some false := by rintro b rfl; rw [XI.word_Is.j0, if_pos (by rfl)]
 unfold XI.word_Is.f isW
 have hsp : strings_Contains.f (ba s) (⟨#[32]⟩ : ByteArray) = some (Lib.contains s sSpace) := by
  unfold strings_Contains.f
  rw [ba_size, if_pos (by omega), ba_data]
  try rfl
 rw [known_f h0 h4, Option.bind_some, if_pos (by rfl), hsp, Option.bind_some]
 by_cases c1 : Lib.contains s sSpace = true
 ·rw [if_pos c1, if_pos (Or.inl c1)]; exact hj0f _ rfl
 rw [if_neg c1, ba_toList]
 by_cases c2 : s = []
 ·rw [if_pos c2, if_pos (Or.inr (Or.inl c2))]; exact hj0f _ rfl
 have h1 : 1 ≤ s.length := by cases s with | nil => exact absurd rfl c2 | cons a b => simp
 have hlt : rdOf ByteArray.empty lettersTab (l : Int) = ba (letterS l) := by rcases langs h0 h4 with rfl | rfl | rfl <;> rfl
 have hll : (letterS l).length ≤ 100 := (show ∀ l < 4, (letterS l).length ≤ 100 by decide) l h4
 have hco : strings_Contains.f (ba (letterS l)) (ba (s.take 1)) = some (Lib.contains (letterS l) (s.take 1)) := by
  unfold strings_Contains.f
  rw [ba_size, if_pos (by omega), ba_data, ba_data]
 rw [if_neg c2, if_pos (by omega), if_pos (by omega), if_pos (by omega), if_pos (by rw [ba_size]; omega), hlt, ba_take, hco, Option.bind_some]
 by_cases c3 : Lib.contains (letterS l) (s.take 1) = false
 ·rw [if_pos (Or.inr (Or.inr c3))]; exact hj0f _ (by rw [c3]; rfl)
 have hz : rdOf ByteArray.empty (U l) 0 = ba ((units l).getD 0 []) := rd_map (units l) 0
 have hul := units_len l h4 h0
 rw [if_neg (by simp only [not_or]; exact ⟨c1, c2, c3⟩), XI.word_Is.j0, if_neg (by simp only [Bool.not_eq_false] at c3; rw [c3]; decide), tongues_f h0 h4, Option.bind_some]
 show Option.bind (XA.word_tongue_value.f (k + 1) (U l) (T l) (M l) (D l) (fo l) (fh l) (ft l) (ba s)) _ = _
 rw [value_f h0 h4 s (by omega) _ (by omega), Option.bind_some]
 show Option.bind (XA.word_tongue_many.f (k + 1) (U l) (T l) (M l) (D l) (fo l) (fh l) (ft l) (ba s)) _ = _
 rw [many_f h0 h4 s (by omega) _ (by omega), Option.bind_some, enc_snd, enc_snd]
 have hl0 : XI.word_Is.l0 k 1 (ba s) (U l) (T l) (M l) (D l) (fo l) (fh l) (ft l) = some (tail5 l 1 s) := is_l0 h0 h4 s 9 1 k (by omega) (by omega) (by omega) (by omega)
 have hj1 : ∀ b : Bool, XI.word_Is.j1 (k + 1) b (ba s) (U l) (T l) (M l) (D l) (fo l) (fh l) (ft l) = some (b || tail5 l 1 s) := by
  intro b
  rw [XI.word_Is.j1]
  cases b
  ·rw [if_neg (by decide), hl0]; rfl
  ·rw [if_pos (by rfl)]; rfl
 have ht5 : tail5 l 1 s = ((List.range' 1 9).any (fun h => amongS (hundreds l h ((units l).getD 1 [])) s || amongS (ones l 1 h) s) || [1, 2, 21, 31].any fun q => amongS (thousands l (small l q) q) s) := rfl
 rw [Bool.or_assoc _ ((List.range' 1 9).any _), ← ht5]
 by_cases cv : (value l s).isSome = true
 ·rw [if_pos cv, cv]; exact (hj1 true).trans (by simp)
 rw [if_neg cv, Bool.eq_false_iff.mpr cv, Bool.false_or]
 by_cases cm : (many l s).isSome = true
 ·rw [if_pos cm, cm]; exact (hj1 true).trans (by simp)
 rw [if_neg cm, Bool.eq_false_iff.mpr cm, Bool.false_or, if_pos (by show (0 : Int) < ((U l).length : Int); rw [U, List.length_map]; omega)]
 show XI.word_Is.j1 (k + 1) ((ba s).toList == (rdOf ByteArray.empty (U l) 0).toList) (ba s) (U l) (T l) (M l) (D l) (fo l) (fh l) (ft l) = _
 rw [hz, ba_toList, ba_toList, hj1]
 congr 2
 rw [Bool.eq_iff_iff, beq_iff_eq, decide_eq_true_iff]
/-! ### The examples -/
theorem tot_fieldsGo : ∀ (l cur : S), tot (Lib.fieldsGo cur l) ≤ cur.length + 1 + 2 * l.length
 | [], cur => by cases cur <;> simp [Lib.fieldsGo, tot]
 | b :: l, cur => by
  cases hb : Lib.isSp b
  ·rw [Lib.fieldsGo_more _ _ _ hb]
   have := tot_fieldsGo l (cur ++ [b])
   simp only [List.length_append, List.length_cons, List.length_nil] at *; omega
  ·have ih := tot_fieldsGo l []
   by_cases hc : cur = []
   ·subst hc
    rw [Lib.fieldsGo_sp _ _ hb]
    simp only [List.length_cons, List.length_nil] at *; omega
   ·rw [Lib.fieldsGo_end _ _ _ hb hc]
    simp only [tot, List.map_cons, List.sum_cons, List.length_cons, List.length_nil] at *; omega
theorem tot_words {l : Nat} (h0 : 0 < l) (h4 : l < 4) {n : Nat} (hn : n < 1000000) : tot (words l n) ≤ 2000 := by
 have h1 := tot_fieldsGo (text l n) []
 have h2 := text_le h0 h4 hn
 unfold words Lib.fields
 simp only [List.length_nil] at h1; omega
theorem texts_f (k n : Nat) (hn : n < 1000000) : XS.newswirelaw11_texts.f (k + 5000) n = some (ba (jnd (words 1 n)), ba (jnd (words 2 n)), ba (jnd (words 3 n))) := by
 have hw : ∀ l, 0 < l → l < 4 → (words l n).length ≤ 500 ∧ tot (words l n) ≤ 900000 := by
  intro l h0 h4
  exact ⟨words_len h0 h4 hn, by have := tot_words h0 h4 hn; omega⟩
 have hz : ∀ (l : Nat) (h0 : 0 < l) (h4 : l < 4) (j : Nat), XS.newswirelaw11_joined.f (j + 1000) ((words l n).map ba) = some (ba (jnd (words l n))) := fun l h0 h4 j => lj_f _ (by have := (hw l h0 h4).2; omega) _ (by have := (hw l h0 h4).1; omega)
 unfold XS.newswirelaw11_texts.f
 rw [XS.newswirelaw11_texts.l0, if_pos (by omega), show (1 : Int) = ((1 : Nat) : Int) from rfl, words_f (l := 1) (by omega) (by omega) _ n hn, Option.bind_some, if_pos (by rfl), hz 1 (by omega) (by omega) (k + 3999), Option.bind_some]
 rw [show wrap64 (((1 : Nat) : Int) - ((1 : Nat) : Int)) = 0 from wrap64_id (by decide) (by decide), if_pos (by omega), if_pos (by rfl), show wrap64 (((1 : Nat) : Int) + ((1 : Nat) : Int)) = ((2 : Nat) : Int) from wrap64_id (by decide) (by decide)]
 rw [XS.newswirelaw11_texts.l0, if_pos (by omega), words_f (l := 2) (by omega) (by omega) _ n hn, Option.bind_some, if_pos (by rfl), hz 2 (by omega) (by omega) (k + 3998), Option.bind_some]
 rw [show wrap64 (((2 : Nat) : Int) - 1) = 1 from wrap64_id (by decide) (by decide), if_pos (by omega), if_neg (by omega), if_pos (by rfl), show wrap64 (((2 : Nat) : Int) + 1) = ((3 : Nat) : Int) from wrap64_id (by decide) (by decide)]
 rw [XS.newswirelaw11_texts.l0, if_pos (by omega), words_f (l := 3) (by omega) (by omega) _ n hn, Option.bind_some, if_pos (by rfl), hz 3 (by omega) (by omega) (k + 3997), Option.bind_some]
 rw [show wrap64 (((3 : Nat) : Int) - 1) = 2 from wrap64_id (by decide) (by decide), if_pos (by omega), if_neg (by omega), if_neg (by omega), if_pos (by rfl), show wrap64 (((3 : Nat) : Int) + 1) = ((4 : Nat) : Int) from wrap64_id (by decide) (by decide)]
 rw [XS.newswirelaw11_texts.l0, if_neg (by omega)]
theorem ex1 : jnd (words 1 0) = [122, 101, 114, 111] ∧ jnd (words 2 0) = [110, 117, 108, 108] ∧ jnd (words 3 0) = [99, 101, 114, 111] := by decide +kernel
theorem ex2 : jnd (words 1 21) = [116, 119, 101, 110, 116, 121, 45, 111, 110, 101] ∧ jnd (words 2 21) = [101, 105, 110, 117, 110, 100, 122, 119, 97, 110, 122, 105, 103] ∧ jnd (words 3 21) = [118, 101, 105, 110, 116, 105, 117, 110, 111] := by decide +kernel
theorem ex3 : jnd (words 1 101) = [111, 110, 101, 32, 104, 117, 110, 100, 114, 101, 100, 32, 111, 110, 101] ∧ jnd (words 2 101) = [101, 105, 110, 104, 117, 110, 100, 101, 114, 116, 101, 105, 110, 115] ∧ jnd (words 3 101) = [99, 105, 101, 110, 116, 111, 32, 117, 110, 111] := by decide +kernel
theorem ex4 : jnd (words 1 31000) = [116, 104, 105, 114, 116, 121, 45, 111, 110, 101, 32, 116, 104, 111, 117, 115, 97, 110, 100] ∧ jnd (words 2 31000) = [101, 105, 110, 117, 110, 100, 100, 114, 101, 105, 115, 115, 105, 103, 116, 97, 117, 115, 101, 110, 100] ∧ jnd (words 3 31000) = [116, 114, 101, 105, 110, 116, 97, 32, 121, 32, 117, 110, 32, 109, 105, 108] := by decide +kernel
theorem ex5 : jnd (words 1 1100) = [111, 110, 101, 32, 116, 104, 111, 117, 115, 97, 110, 100, 32, 111, 110, 101, 32, 104, 117, 110, 100, 114, 101, 100] ∧ jnd (words 2 1100) = [101, 105, 110, 116, 97, 117, 115, 101, 110, 100, 32, 101, 105, 110, 104, 117, 110, 100, 101, 114, 116] ∧ jnd (words 3 1100) = [109, 105, 108, 32, 99, 105, 101, 110] := by decide +kernel
abbrev exL : List S := [[116, 119, 111], [104, 117, 110, 100, 114, 101, 100], [112, 101, 111, 112, 108, 101]]
theorem ex6 : pfx 1 exL 0 = some (200, 2) ∧ pfx 1 exL 1 = none ∧ pfx 1 exL 2 = none := by decide +kernel
theorem ex7 : number 3 [[109, 105, 108], [99, 105, 101, 110]] = some 1100 := by decide +kernel
theorem ex8 : isW 3 [121] = true ∧ isW 1 [112, 101, 111, 112, 108, 101] = false := by decide +kernel
theorem ex9 : nameOf (months 2) 1 3 = ([109, 97, 101, 114, 122], 0) ∧ placeOf (days 3) 0 [100, 111, 109, 105, 110, 103, 111] = (6, 0) := by decide +kernel
theorem texts_k (n : Nat) (hn : n < 1000000) (k : Nat) (hk : 5000 ≤ k) : XS.newswirelaw11_texts.f k n = some (ba (jnd (words 1 n)), ba (jnd (words 2 n)), ba (jnd (words 3 n))) := by
 obtain ⟨k, rfl⟩ : ∃ j, k = j + 5000 := ⟨k - 5000, by omega⟩
 exact texts_f k n hn
/-- The examples are as the chapter says. -/
theorem sane_f (k : Nat) (hk : 6000 ≤ k) : XS.newswirelaw11_sane.f k = some true := by
 obtain ⟨k, rfl⟩ : ∃ j, k = j + 6000 := ⟨k - 6000, by omega⟩
 have e0 := texts_k 0 (by omega) (k + 6000) (by omega)
 have e21 := texts_k 21 (by omega) (k + 6000) (by omega)
 have e101 := texts_k 101 (by omega) (k + 6000) (by omega)
 have e31000 := texts_k 31000 (by omega) (k + 5999) (by omega)
 have e1100 := texts_k 1100 (by omega) (k + 5999) (by omega)
 rw [ex1.1, ex1.2.1, ex1.2.2] at e0
 rw [ex2.1, ex2.2.1, ex2.2.2] at e21
 rw [ex3.1, ex3.2.1, ex3.2.2] at e101
 rw [ex4.1, ex4.2.1, ex4.2.2] at e31000
 rw [ex5.1, ex5.2.1, ex5.2.2] at e1100
 simp only [show ((0 : Nat) : Int) = 0 from rfl, show ((21 : Nat) : Int) = 21 from rfl, show ((101 : Nat) : Int) = 101 from rfl, show ((31000 : Nat) : Int) = 31000 from rfl, show ((1100 : Nat) : Int) = 1100 from rfl] at e0 e21 e101 e31000 e1100
 unfold XS.newswirelaw11_sane.f
 rw [e0, Option.bind_some]
 simp only [ba_toList]
 rw [if_pos (by decide), e21, Option.bind_some]
 simp only [ba_toList]
 rw [if_pos (by decide), e101, Option.bind_some]
 simp only [ba_toList]
 rw [XS.newswirelaw11_sane.j0, e31000, Option.bind_some]
 simp only [ba_toList]
 rw [if_pos (by decide), e1100, Option.bind_some]
 simp only [ba_toList]
 have p0 := prefix_f (l := 1) (by omega) (by omega) exL (by decide) 0 (by decide) (k + 5998) (by omega)
 have p1 := prefix_f (l := 1) (by omega) (by omega) exL (by decide) 1 (by decide) (k + 5998) (by omega)
 have p2 := prefix_f (l := 1) (by omega) (by omega) exL (by decide) 2 (by decide) (k + 5998) (by omega)
 rw [ex6.1] at p0
 rw [ex6.2.1] at p1
 rw [ex6.2.2] at p2
 have m0 := month_f (l := 2) (by omega) (by omega) 3 (by omega) (by omega) (k + 5997)
 rw [ex9.1] at m0
 have w0 := weekdayOf_f (l := 3) (by omega) (by omega) [100, 111, 109, 105, 110, 103, 111] (k + 5998) (by omega)
 rw [ex9.2] at w0
 have n0 := words_no (k + 5997) 4 0 (by omega)
 have b0 := number_f (l := 3) (by omega) (by omega) [[109, 105, 108], [99, 105, 101, 110]] (by decide) (k + 5998) (by omega)
 rw [ex7] at b0
 have i0 := is_f (l := 3) (by omega) (by omega) [121] (by decide) (k + 5998) (by omega)
 rw [ex8.1] at i0
 have i1 := is_f (l := 1) (by omega) (by omega) [112, 101, 111, 112, 108, 101] (by decide) (k + 5998) (by omega)
 rw [ex8.2] at i1
 rw [XS.newswirelaw11_sane.j1, Option.bind_some]
 have f0 : XA.word_Prefix.f (k + 5998) 1 ([(⟨#[116, 119, 111]⟩ : ByteArray), (⟨#[104, 117, 110, 100, 114, 101, 100]⟩ : ByteArray), (⟨#[112, 101, 111, 112, 108, 101]⟩ : ByteArray)] : List ByteArray) 0 = some (200, 2, true) := p0
 have f1 : XA.word_Prefix.f (k + 5998) 1 ([(⟨#[116, 119, 111]⟩ : ByteArray), (⟨#[104, 117, 110, 100, 114, 101, 100]⟩ : ByteArray), (⟨#[112, 101, 111, 112, 108, 101]⟩ : ByteArray)] : List ByteArray) 1 = some (0, 0, false) := p1
 have f2 : XA.word_Prefix.f (k + 5998) 1 ([(⟨#[116, 119, 111]⟩ : ByteArray), (⟨#[104, 117, 110, 100, 114, 101, 100]⟩ : ByteArray), (⟨#[112, 101, 111, 112, 108, 101]⟩ : ByteArray)] : List ByteArray) 2 = some (0, 0, false) := p2
 have f3 : XA.word_Month.f (k + 5998) 2 3 = some (ba [109, 97, 101, 114, 122], 0) := m0
 have f4 : XA.word_WeekdayOf.f (k + 5998) 3 (⟨#[100, 111, 109, 105, 110, 103, 111]⟩ : ByteArray) = some (6, 0) := w0
 have f5 : XA.word_Words.f (k + 5998) 4 0 = some ([], 110) := n0
 have f6 : XA.word_Number.f (k + 5998) 3 ([(⟨#[109, 105, 108]⟩ : ByteArray), (⟨#[99, 105, 101, 110]⟩ : ByteArray)] : List ByteArray) = some (1100, 0) := b0
 have f7 : XI.word_Is.f (k + 5998) 3 (⟨#[121]⟩ : ByteArray) = some true := i0
 have f8 : XI.word_Is.f (k + 5998) 1 (⟨#[112, 101, 111, 112, 108, 101]⟩ : ByteArray) = some false := i1
 rw [f0, Option.bind_some, f1, Option.bind_some, f2, Option.bind_some, f3, Option.bind_some, f4, Option.bind_some, f5, Option.bind_some, f6, Option.bind_some]
 simp only [ba_toList]
 rw [if_pos (by decide), if_pos (by decide), if_pos (by decide), if_pos (by decide), if_pos (by decide), if_neg (by decide), if_neg (by decide), if_pos (by decide), if_pos (by decide), if_pos (by decide), if_pos (by decide), if_pos (by decide), if_pos (by decide), if_pos (by decide), f7, Option.bind_some, if_pos (by decide), f8, Option.bind_some]
 rfl
end Go.Proofs.YtjgobfbjmlacjaaDoor.XP
