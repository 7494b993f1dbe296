/-
 The same: Number, Prefix, the names, and the small functions of the laws.
-/
import Derived.Test.YtjgobfbjmlacjaaDoorXPa
import Derived.Test.YtjgobfbjmlacjaaDoorXS
set_option linter.unusedSimpArgs false
set_option linter.unusedVariables false
set_option maxRecDepth 100000
namespace Go.Proofs.YtjgobfbjmlacjaaDoor.XP
open Go.RowKit Go.Proofs.YtjgobfbjmlacjaaDoorW.PrintWords Go.Proofs.YtjgobfbjmlacjaaDoorW.PrintLast Go.Proofs.YtjgobfbjmlacjaaDoorW.PrintMore
theorem map_ba_inj {a b : List S} (h : a.map ba = b.map ba) : a = b := by
 have := congrArg (List.map fun x : ByteArray => x.data.toList) h
 simpa [List.map_map, Function.comp_def, ba_data] using this
theorem equal_l0 (a b : List S) (hl : a.length = b.length) (ha : a.length ≤ 1000000) : ∀ (m i k : Nat), a.length - i ≤ m → i ≤ a.length → m < k →
  XL.slices_Equal_string_string.l0 k (a.map ba) (b.map ba) (a.length : Int) i = some (decide (a.drop i = b.drop i))
 | 0, i, k + 1, h, hi, _ => by
  rw [XL.slices_Equal_string_string.l0, if_neg (by omega), List.drop_of_length_le (by omega), List.drop_of_length_le (by omega)]; rfl
 | m + 1, i, k + 1, h, hi, hk => by
  rw [XL.slices_Equal_string_string.l0]
  by_cases hlt : i < a.length
  ·have hltb : i < b.length := by omega
   rw [if_pos (by omega), if_pos (by omega), if_pos (by simp only [List.length_map]; omega), if_pos (by simp only [List.length_map]; omega), rd_map, rd_map, ba_toList, ba_toList, List.drop_eq_getElem_cons hlt, List.drop_eq_getElem_cons hltb]
   have hg : a.getD i [] = a[i] := by simp [List.getD_eq_getElem?_getD, hlt]
   have hg' : b.getD i [] = b[i] := by simp [List.getD_eq_getElem?_getD, hltb]
   rw [hg, hg']
   by_cases he : a[i] = b[i]
   ·rw [if_pos he, wrap64_id (by omega) (by omega)]
    have ih := equal_l0 a b hl ha m (i + 1) k (by omega) (by omega) (by omega)
    rw [show ((i : Int) + 1) = ((i + 1 : Nat) : Int) from rfl, ih]
    congr 1
    rw [decide_eq_decide, he]
    simp only [List.cons.injEq, true_and]
   ·rw [if_neg he, decide_eq_false]
    intro h
    exact he (List.cons.inj h).1
  ·rw [if_neg (by omega), List.drop_of_length_le (by omega), List.drop_of_length_le (by omega)]; rfl
theorem equal_f (a b : List S) (ha : a.length ≤ 1000000) (k : Nat) (hk : a.length < k) : XL.slices_Equal_string_string.f k (a.map ba) (b.map ba) = some (decide (a = b)) := by
 unfold XL.slices_Equal_string_string.f
 rw [List.length_map, List.length_map]
 by_cases hl : a.length = b.length
 ·rw [if_pos (by omega)]
  have := equal_l0 a b hl ha a.length 0 k (by omega) (by omega) hk
  simpa using this
 ·rw [if_neg (by omega), decide_eq_false (fun h => hl (by rw [h]))]
theorem join_f (a : List S) (sep : S) (h : a.length ≤ 1000000) (hj : (Lib.join a sep).length ≤ 1000000) : strings_Join.f (a.map ba) (ba sep) = some (ba (Lib.join a sep)) := by
 unfold strings_Join.f
 have hm : (a.map ba).map (·.data.toList) = a := by rw [List.map_map]; exact (List.map_congr_left (fun x _ => ba_data x)).trans (List.map_id a)
 rw [hm, ba_data, if_pos ⟨by rw [List.length_map]; omega, by omega⟩]; rfl
def jn (a : List S) : S := Lib.join a sSpace
theorem jn_cons (x : S) (a : List S) : (jn (x :: a)).length ≤ x.length + 1 + (jn a).length := by
 cases a with
 | nil => rw [jn, Lib.join_one]; omega
 | cons y a => rw [jn, jn, Lib.join, Lib.join, List.intercalate_cons_cons]; simp; omega
def tot (a : List S) : Nat := (a.map fun x => x.length + 1).sum
theorem jn_le : ∀ a : List S, (jn a).length ≤ tot a
 | [] => by simp [jn, Lib.join_nil]
 | x :: a => by have := jn_cons x a; have := jn_le a; simp only [tot, List.map_cons, List.sum_cons] at *; omega
theorem tot_take (a : List S) (k : Nat) : tot (a.take k) ≤ tot a := by
 conv => rhs; rw [← List.take_append_drop k a]
 simp only [tot, List.map_append, List.sum_append]; omega
theorem tot_drop (a : List S) (k : Nat) : tot (a.drop k) ≤ tot a := by
 conv => rhs; rw [← List.take_append_drop k a]
 simp only [tot, List.map_append, List.sum_append]; omega
theorem many_lt {l : Nat} (h4 : l < 4) (s : S) {n : Nat} (h : many l s = some n) : n < 1000 := by
 obtain ⟨x, _, hv⟩ := List.exists_of_findSome?_eq_some h
 unfold manyOf at hv
 cases hq : value l x with
 | none => rw [hq] at hv; cases hv
 | some q =>
  rw [hq] at hv
  have := value_lt h4 x hq
  by_cases hc : thousands l (small l q) q = s
  ·simp only [hc, if_true] at hv; have := Option.some.inj hv; omega
  ·simp only [hc, if_false] at hv; cases hv
/-! ### The number with these words -/
def cand (l : Nat) (L : List S) (k : Nat) : Nat := 1000 * (many l (jn (L.take k))).getD 0 + (value l (jn (L.drop k))).getD 0
def okAt (l : Nat) (L : List S) (k : Nat) : Bool := ((many l (jn (L.take k))).isSome || decide (k = 0)) && ((value l (jn (L.drop k))).isSome || decide (k = L.length)) && decide (0 < cand l L k)
def numAt (l : Nat) (L : List S) (k : Nat) : Option Nat := if okAt l L k = true ∧ words l (cand l L k) = L then some (cand l L k) else none
def down (F : Nat → Option Nat) : Nat → Option Nat
 | 0 => none
 | m + 1 => match F m with | some n => some n | none => down F m
def number (l : Nat) (L : List S) : Option Nat :=
 if 9 < L.length then none else if L = (units l).take 1 then some 0 else down (numAt l L) (L.length + 1)
def encN (o : Option Nat) : Int × Int := match o with | some n => ((n : Int), 0) | none => (0, 110)
theorem cand_lt {l : Nat} (h4 : l < 4) (L : List S) (k : Nat) : cand l L k < 1000000 := by
 have h1 : (many l (jn (L.take k))).getD 0 < 1000 := by
  cases h : many l (jn (L.take k)) with
  | none => simp
  | some n => exact many_lt h4 _ h
 have h2 : (value l (jn (L.drop k))).getD 0 < 1000 := by
  cases h : value l (jn (L.drop k)) with
  | none => simp
  | some n => exact value_lt h4 _ h
 unfold cand; omega
theorem enc_fst (o : Option Nat) : (enc o).1 = ((o.getD 0 : Nat) : Int) := by cases o <;> rfl
theorem enc_snd (o : Option Nat) : (enc o).2 = o.isSome := by cases o <;> rfl
theorem words_len {l : Nat} (h0 : 0 < l) (h4 : l < 4) {n : Nat} (hn : n < 1000000) : (words l n).length ≤ 500 := by
 have h1 := Lib.fields_length (text l n)
 have h2 := cntF_le (text l n) true
 have h3 := text_le h0 h4 hn
 unfold words; omega
theorem number_l0 {l : Nat} (h0 : 0 < l) (h4 : l < 4) (L : List S) (hL : L.length ≤ 9) (hT : tot L ≤ 80000) : ∀ (m k : Nat), m ≤ L.length + 1 → 2 * m + 600 ≤ k →
  XA.word_Number.l0 k l (L.map ba) ((m : Int) - 1) (U l) (T l) (M l) (D l) (fo l) (fh l) (ft l) = some (encN (down (numAt l L) m))
 | 0, k + 1, hm, _ => by
  rw [XA.word_Number.l0, if_neg (by omega)]; rfl
 | m + 1, k + 2, hm, hk => by
  have ih := number_l0 h0 h4 L hL hT m k (by omega) (by omega)
  have hme : (((m + 1 : Nat) : Int) - 1) = (m : Int) := by omega
  have ht : ((L.map ba).take m) = (L.take m).map ba := (List.map_take ..).symm
  have hd : ((L.map ba).drop m) = (L.drop m).map ba := (List.map_drop ..).symm
  have hjt := jn_le (L.take m)
  have hjd := jn_le (L.drop m)
  have htt := tot_take L m
  have htd := tot_drop L m
  have hwm : wrap64 ((m : Int) - 1) = (m : Int) - 1 := wrap64_id (by omega) (by omega)
  have h1 : strings_Join.f ((L.take m).map ba) (⟨#[32]⟩ : ByteArray) = some (ba (jn (L.take m))) := join_f (L.take m) sSpace (by rw [List.length_take]; omega) (by unfold jn at hjt; omega)
  have h2 : strings_Join.f ((L.drop m).map ba) (⟨#[32]⟩ : ByteArray) = some (ba (jn (L.drop m))) := join_f (L.drop m) sSpace (by rw [List.length_drop]; omega) (by unfold jn at hjd; omega)
  have hc := cand_lt h4 L m
  have hcand : wrap64 (wrap64 (1000 * (((many l (jn (L.take m))).getD 0 : Nat) : Int)) + (((value l (jn (L.drop m))).getD 0 : Nat) : Int)) = ((cand l L m : Nat) : Int) := by
   unfold cand at hc ⊢
   rw [wrap64_id (n := 1000 * (((many l (jn (L.take m))).getD 0 : Nat) : Int)) (by omega) (by omega), wrap64_id (by omega) (by omega)]; omega
  have hj2 : ∀ b : Bool, b = okAt l L m → XA.word_Number.j2 (k + 1) l (L.map ba) m (cand l L m : Nat) b (U l) (T l) (M l) (D l) (fo l) (fh l) (ft l) = some (encN (down (numAt l L) (m + 1))) := by
   rintro b rfl
   rw [XA.word_Number.j2, down, numAt]
   by_cases ho : okAt l L m = true
   ·obtain ⟨j, rfl⟩ : ∃ j, k = j + 2 := ⟨k - 2, by omega⟩
    rw [if_pos ho, words_f h0 h4 _ _ hc, Option.bind_some, equal_f _ _ (by have := words_len h0 h4 hc; omega) _ (by have := words_len h0 h4 hc; omega), Option.bind_some]
    by_cases hw : words l (cand l L m) = L
    ·rw [if_pos (by simp [hw]), if_pos ⟨ho, hw⟩]; rfl
    ·rw [if_neg (by simp [hw]), if_neg (fun h => hw h.2), hwm]; exact ih
   ·rw [if_neg ho, if_neg (fun h => ho h.1), hwm]; exact ih
  rw [XA.word_Number.l0, hme, if_pos (by omega), if_pos (by omega), if_pos (by rw [List.length_map]; omega), Int.toNat_natCast, ht, hd, h1, h2, Option.bind_some, many_f h0 h4 _ (by omega) _ (by omega), Option.bind_some, Option.bind_some, value_f h0 h4 _ (by omega) _ (by omega), Option.bind_some]
  simp only [enc_fst, enc_snd, hcand, List.length_map]
  have hok : okAt l L m = (((many l (jn (L.take m))).isSome || decide (m = 0)) && ((value l (jn (L.drop m))).isSome || decide (m = L.length)) && decide (0 < cand l L m)) := rfl
  by_cases ha : (many l (jn (L.take m))).isSome = true
  ·rw [if_pos ha]
   by_cases hb : (value l (jn (L.drop m))).isSome = true
   ·rw [if_pos hb]; exact hj2 _ (by rw [hok, ha, hb]; simp)
   ·rw [if_neg hb]
    by_cases hl : m = L.length
    ·rw [if_pos (by omega)]; exact hj2 _ (by rw [hok, ha, decide_eq_true hl]; simp)
    ·rw [if_neg (by omega)]; exact hj2 _ (by rw [hok, ha, Bool.eq_false_iff.mpr hb, decide_eq_false hl]; simp)
  ·rw [if_neg ha]
   by_cases hz : m = 0
   ·rw [if_pos (by omega)]
    by_cases hb : (value l (jn (L.drop m))).isSome = true
    ·rw [if_pos hb]; exact hj2 _ (by rw [hok, hb, decide_eq_true hz]; simp)
    ·rw [if_neg hb]
     by_cases hl : m = L.length
     ·rw [if_pos (by omega)]; exact hj2 _ (by rw [hok, decide_eq_true hz, decide_eq_true hl]; simp)
     ·rw [if_neg (by omega)]; exact hj2 _ (by rw [hok, Bool.eq_false_iff.mpr hb, decide_eq_false hl]; simp)
   ·rw [if_neg (by omega)]; exact hj2 _ (by rw [hok, Bool.eq_false_iff.mpr ha, decide_eq_false hz]; simp)
theorem number_f {l : Nat} (h0 : 0 < l) (h4 : l < 4) (L : List S) (hT : tot L ≤ 80000) (k : Nat) (hk : 700 ≤ k) : XA.word_Number.f k l (L.map ba) = some (encN (number l L)) := by
 obtain ⟨k, rfl⟩ : ∃ j, k = j + 1 := ⟨k - 1, by omega⟩
 unfold XA.word_Number.f number
 rw [known_f h0 h4, Option.bind_some, if_pos (by rfl), XA.word_Number.j0, List.length_map]
 by_cases h9 : 9 < L.length
 ·rw [if_pos (by simp; omega), if_pos h9]; rfl
 ·have hu := units_len l h4 h0
  have h1 : (U l).take 1 = ((units l).take 1).map ba := by rw [U]; exact (List.map_take ..).symm
  rw [if_neg (by simp; omega), if_neg h9, tongues_f h0 h4, Option.bind_some, if_pos (by show (1 : Int) ≤ ((U l).length : Int); rw [U, List.length_map]; omega)]
  show Option.bind (XL.slices_Equal_string_string.f k (L.map ba) ((U l).take 1)) _ = _
  rw [h1, equal_f _ _ (by omega) _ (by omega), Option.bind_some]
  by_cases he : L = (units l).take 1
  ·rw [if_pos (by simp [he]), if_pos he]; rfl
  ·rw [if_neg (by simp [he]), if_neg he]
   have := number_l0 h0 h4 L (by omega) hT (L.length + 1) k (by omega) (by omega)
   rw [show (((L.length + 1 : Nat) : Int) - 1) = (L.length : Int) by omega] at this
   exact this
/-! ### As many words as possible -/
def pfxFrom (l : Nat) (L : List S) (at_ : Nat) : Nat → Option (Nat × Nat)
 | 0 => none
 | m + 1 => match number l ((L.take (at_ + (m + 1))).drop at_) with | some n => some (n, m + 1) | none => pfxFrom l L at_ m
def encP (o : Option (Nat × Nat)) : Int × Int × Bool := match o with | some (n, m) => ((n : Int), (m : Int), true) | none => (0, 0, false)
theorem prefix_l0 {l : Nat} (h0 : 0 < l) (h4 : l < 4) (L : List S) (hL : L.length ≤ 1000000) (at_ : Nat) (hw : tot ((L.take (at_ + 9)).drop at_) ≤ 80000) : ∀ (m k : Nat), at_ + m ≤ L.length → m ≤ 9 → m + 800 ≤ k →
  XA.word_Prefix.l0 k l (L.map ba) at_ m = some (encP (pfxFrom l L at_ m))
 | 0, k + 1, hm, _, _ => by rw [XA.word_Prefix.l0, if_neg (by omega)]; rfl
 | m + 1, k + 1, hm, h9, hk => by
  have ih := prefix_l0 h0 h4 L hL at_ hw m k (by omega) (by omega) (by omega)
  have h1 : wrap64 ((at_ : Int) + ((m + 1 : Nat) : Int)) = ((at_ + (m + 1) : Nat) : Int) := by rw [wrap64_id (by omega) (by omega)]; omega
  have h2 : ((L.map ba).take (at_ + (m + 1))).drop at_ = ((L.take (at_ + (m + 1))).drop at_).map ba := by rw [List.map_drop, List.map_take]
  have h3 : tot ((L.take (at_ + (m + 1))).drop at_) ≤ 80000 := by
   refine Nat.le_trans ?_ hw
   have h5 : (L.take (at_ + (m + 1))).drop at_ = ((L.take (at_ + 9)).drop at_).take (m + 1) := by
    rw [List.drop_take, List.drop_take, List.take_take]; congr 1; omega
   rw [h5]; exact tot_take _ _
  rw [XA.word_Prefix.l0, if_pos (by omega), if_pos (by omega), h1, if_pos (by omega), if_pos (by rw [List.length_map]; omega), Int.toNat_natCast, Int.toNat_natCast, h2, number_f h0 h4 _ h3 _ (by omega), Option.bind_some, pfxFrom]
  cases number l ((L.take (at_ + (m + 1))).drop at_) with
  | some n => rw [if_pos (by rfl)]; rfl
  | none =>
   rw [if_neg (by show ¬ ((110 : Int) = 0); decide)]
   rw [show wrap64 (((m + 1 : Nat) : Int) - 1) = (m : Int) by rw [wrap64_id (by omega) (by omega)]; omega]
   exact ih
def pfx (l : Nat) (L : List S) (at_ : Int) : Option (Nat × Nat) := if at_ < 0 ∨ (L.length : Int) ≤ at_ then none else pfxFrom l L at_.toNat (min (L.length - at_.toNat) 9)
theorem prefix_f {l : Nat} (h0 : 0 < l) (h4 : l < 4) (L : List S) (hL : L.length ≤ 1000000) (at_ : Int) (hw : tot ((L.take (at_.toNat + 9)).drop at_.toNat) ≤ 80000) (k : Nat) (hk : 900 ≤ k) :
  XA.word_Prefix.f k l (L.map ba) at_ = some (encP (pfx l L at_)) := by
 obtain ⟨k, rfl⟩ : ∃ j, k = j + 1 := ⟨k - 1, by omega⟩
 unfold XA.word_Prefix.f pfx
 by_cases h1 : at_ < 0
 ·rw [if_pos h1, XA.word_Prefix.j0, if_pos (by rfl), if_pos (Or.inl h1)]; rfl
 ·rw [if_neg h1, List.length_map]
  by_cases h2 : (L.length : Int) ≤ at_
  ·rw [XA.word_Prefix.j0, if_pos (by simp; omega), if_pos (Or.inr h2)]; rfl
  ·rw [XA.word_Prefix.j0, if_neg (by simp; omega), if_neg (by omega)]
   obtain ⟨a, rfl⟩ : ∃ a : Nat, at_ = a := ⟨at_.toNat, by omega⟩
   have hmn : mn (wrap64 (((L.map ba).length : Int) - (a : Int))) 9 = ((min (L.length - a) 9 : Nat) : Int) := by
    rw [List.length_map, wrap64_id (by omega) (by omega)]
    unfold mn; split <;> omega
   rw [hmn, Int.toNat_natCast]
   exact prefix_l0 h0 h4 L hL a hw (min (L.length - a) 9) k (by omega) (by omega) (by omega)
/-! ### The reference's 'begins' and 'Same' -/
theorem begins_l0 (L w : List S) (a : Nat) (hL : L.length ≤ 1000000) (hw : a + w.length ≤ L.length) : ∀ (m i k : Nat), w.length - i ≤ m → i ≤ w.length → m < k →
  XS.newswireref11_begins.l0 k (L.map ba) a (w.map ba) i = some ((w.drop i).isPrefixOf (L.drop (a + i)))
 | 0, i, k + 1, h, hi, _ => by
  rw [XS.newswireref11_begins.l0, if_neg (by rw [List.length_map]; omega), List.drop_of_length_le (by omega)]; rfl
 | m + 1, i, k + 1, h, hi, hk => by
  rw [XS.newswireref11_begins.l0]
  by_cases hlt : i < w.length
  ·have hltb : a + i < L.length := by omega
   have hai : wrap64 ((a : Int) + (i : Int)) = ((a + i : Nat) : Int) := by rw [wrap64_id (by omega) (by omega)]; rfl
   rw [if_pos (by rw [List.length_map]; omega), hai, if_pos (by omega), if_pos (by rw [List.length_map]; omega), if_pos (by omega), rd_map, rd_map, ba_toList, ba_toList, List.drop_eq_getElem_cons hlt, List.drop_eq_getElem_cons hltb]
   have hg : w.getD i [] = w[i] := by simp [List.getD_eq_getElem?_getD, hlt]
   have hg' : L.getD (a + i) [] = L[a + i] := by simp [List.getD_eq_getElem?_getD, hltb]
   rw [hg, hg']
   by_cases he : L[a + i] = w[i]
   ·rw [if_pos he, wrap64_id (by omega) (by omega)]
    have ih := begins_l0 L w a hL hw m (i + 1) k (by omega) (by omega) (by omega)
    rw [show ((i : Int) + 1) = ((i + 1 : Nat) : Int) from rfl, ih]
    rw [List.isPrefixOf, he, show (w[i] == w[i]) = true by simp, Bool.true_and]; rfl
   ·rw [if_neg he, List.isPrefixOf, show (w[i] == L[a + i]) = false from beq_eq_false_iff_ne.mpr (fun h => he h.symm)]; rfl
  ·rw [if_neg (by rw [List.length_map]; omega), List.drop_of_length_le (by omega)]; rfl
theorem begins_f (L w : List S) (a : Nat) (hL : L.length ≤ 1000000) (hw : w.length ≤ 1000000) (ha : a ≤ L.length) (k : Nat) (hk : w.length < k) :
  XS.newswireref11_begins.f k (L.map ba) a (w.map ba) = some (w.isPrefixOf (L.drop a)) := by
 unfold XS.newswireref11_begins.f
 rw [List.length_map, List.length_map, wrap64_id (by omega) (by omega)]
 by_cases h : a + w.length ≤ L.length
 ·rw [if_neg (by omega)]
  have := begins_l0 L w a hL h w.length 0 k (by omega) (by omega) hk
  simpa using this
 ·rw [if_pos (by omega)]
  congr 1; symm
  rw [Bool.eq_false_iff]
  intro hp
  have := (List.isPrefixOf_iff_prefix.mp hp).length_le
  rw [List.length_drop] at *
  omega
theorem same_f (a b : List S) (ha : a.length ≤ 1000000) (k : Nat) (hk : a.length < k) : XS.newswireref11_Same.f k (a.map ba) (b.map ba) = some (decide (a = b)) := by
 unfold XS.newswireref11_Same.f
 rw [List.length_map, List.length_map]
 by_cases hl : a.length = b.length
 ·rw [if_pos (by omega)]
  have := begins_f a b 0 ha (by omega) (by omega) k (by omega)
  rw [show ((0 : Nat) : Int) = 0 from rfl] at this
  rw [this, Option.bind_some]
  congr 1
  rw [Bool.eq_iff_iff, List.isPrefixOf_iff_prefix, decide_eq_true_iff, List.drop_zero]
  exact ⟨fun h => (h.eq_of_length hl.symm).symm, fun h => h ▸ List.prefix_refl _⟩
 ·rw [if_neg (by omega), decide_eq_false (fun h => hl (by rw [h]))]
/-! ### The small functions of the laws -/
def pk (a : Int) (n : Nat) : Nat := if a < 0 then (-(a + 1)).toNat % n else a.toNat % n
theorem pk_lt (a : Int) {n : Nat} (h : 0 < n) : pk a n < n := by unfold pk; split <;> exact Nat.mod_lt _ h
theorem pick_f (a : Int) (n : Nat) (h1 : -9223372036854775808 ≤ a) (h2 : a ≤ 9223372036854775807) (hn : 0 < n) : XS.newswirelaw11_pick.f a n = some ((pk a n : Nat) : Int) := by
 unfold XS.newswirelaw11_pick.f pk
 by_cases h : a < 0
 ·rw [if_pos h, if_neg (by omega), if_pos h]
  obtain ⟨b, hb⟩ : ∃ b : Nat, -(a + 1) = b := ⟨(-(a + 1)).toNat, by omega⟩
  rw [wrap64_id (n := a + 1) (by omega) (by omega), hb, wrap64_id (by omega) (by omega)]; rfl
 ·rw [if_neg h, if_neg (by omega), if_neg h]
  obtain ⟨b, rfl⟩ : ∃ b : Nat, a = b := ⟨a.toNat, by omega⟩
  rfl
def jnd : List S → S
 | [] => []
 | x :: r => x ++ r.flatMap fun y => sSpace ++ y
theorem joined_l0 (L : List S) (hT : tot L ≤ 1000000) : ∀ (m i k : Nat) (acc : S), L.length - i ≤ m → 1 ≤ i → i ≤ L.length → m < k → acc.length + tot (L.drop i) ≤ 1000000 →
  XS.newswirelaw11_joined.l0 k (L.map ba) (ba acc) i = some (ba (acc ++ (L.drop i).flatMap fun y => sSpace ++ y))
 | 0, i, k + 1, acc, h, h1, hi, _, ht => by
  rw [XS.newswirelaw11_joined.l0, if_neg (by rw [List.length_map]; omega), List.drop_of_length_le (by omega)]; simp
 | m + 1, i, k + 1, acc, h, h1, hi, hk, ht => by
  rw [XS.newswirelaw11_joined.l0]
  have hlen : L.length ≤ tot L := by
   clear h1 h hi ht hT
   induction L with
   | nil => simp
   | cons x r ih => simp only [tot, List.map_cons, List.sum_cons, List.length_cons] at *; omega
  by_cases hlt : i < L.length
  ·have hg : L.getD i [] = L[i] := by simp [List.getD_eq_getElem?_getD, hlt]
   have hs1 : List.length sSpace = 1 := rfl
   rw [List.drop_eq_getElem_cons hlt] at ht ⊢
   simp only [tot, List.map_cons, List.sum_cons] at ht
   rw [if_pos (by rw [List.length_map]; omega), if_pos (by omega), ba_size, if_pos (by omega), if_pos (by omega), rd_map, hg, show (⟨#[32]⟩ : ByteArray) = ba sSpace from rfl, ba_app, ba_size, ba_size, if_pos (by rw [List.length_append]; omega), ba_app, wrap64_id (by omega) (by omega)]
   have ih := joined_l0 L hT m (i + 1) k (acc ++ sSpace ++ L[i]) (by omega) (by omega) (by omega) (by omega) (by simp only [List.length_append, tot]; omega)
   rw [show ((i : Int) + 1) = ((i + 1 : Nat) : Int) from rfl, ih, List.flatMap_cons]
   simp only [List.append_assoc]
  ·rw [if_neg (by rw [List.length_map]; omega), List.drop_of_length_le (by omega)]; simp
theorem lj_f (L : List S) (hT : tot L ≤ 1000000) (k : Nat) (hk : L.length + 1 < k) : XS.newswirelaw11_joined.f k (L.map ba) = some (ba (jnd L)) := by
 obtain ⟨k, rfl⟩ : ∃ j, k = j + 1 := ⟨k - 1, by omega⟩
 unfold XS.newswirelaw11_joined.f
 cases L with
 | nil => rw [XS.newswirelaw11_joined.l0, if_neg (by decide)]; rfl
 | cons x r =>
  rw [XS.newswirelaw11_joined.l0, if_pos (by rw [List.length_map, List.length_cons]; omega), if_neg (by omega), if_pos (by omega)]
  have h := rd_map (x :: r) 0
  rw [show ((0 : Nat) : Int) = 0 from rfl] at h
  have ht2 : x.length + 1 + tot r ≤ 1000000 := by simpa [tot] using hT
  rw [h, show (⟨#[]⟩ : ByteArray) = ba [] from rfl, ba_size, ba_size, if_pos (by simp; omega), ba_app]
  have := joined_l0 (x :: r) hT r.length 1 k x (by simp) (by omega) (by simp) (by simp at hk; omega) (by simpa using (by omega : x.length + tot r ≤ 1000000))
  rw [show wrap64 (0 + 1) = ((1 : Nat) : Int) from wrap64_id (by decide) (by decide)]
  exact this
def nameOf (tab : List S) (first : Nat) (n : Int) : S × Int := if n < first ∨ (tab.length : Int) ≤ n - first then ([], 110) else (tab.getD (n - first).toNat [], 0)
theorem name_j0 (tab : List S) (ht : tab.length ≤ 100) (first : Nat) (hf : first ≤ 10) (n : Int) (h1 : -9223372036854775808 ≤ n) (h2 : n ≤ 9223372036854775807) (k : Nat) :
  XA.word_name.j0 (k + 1) n first (tab.map ba) = some (ba (nameOf tab first n).1, (nameOf tab first n).2) := by
 rw [XA.word_name.j0, nameOf]
 by_cases h : n < first
 ·rw [if_pos h, if_pos (Or.inl h)]; rfl
 ·rw [if_neg h, wrap64_id (by omega) (by omega), List.length_map]
  by_cases h' : (tab.length : Int) ≤ n - first
  ·rw [if_pos h', if_pos (Or.inr h')]; rfl
  ·obtain ⟨b, hb⟩ : ∃ b : Nat, n - first = b := ⟨(n - first).toNat, by omega⟩
   rw [if_neg h', if_pos (by omega), if_pos (by omega), if_neg (by omega), hb, rd_map]; rfl
theorem month_f {l : Nat} (h0 : 0 < l) (h4 : l < 4) (n : Int) (h1 : -9223372036854775808 ≤ n) (h2 : n ≤ 9223372036854775807) (k : Nat) :
  XA.word_Month.f (k + 1) l n = some (ba (nameOf (months l) 1 n).1, (nameOf (months l) 1 n).2) := by
 unfold XA.word_Month.f XA.word_name.f
 rw [known_f h0 h4, Option.bind_some, if_pos (by rfl), tongues_f h0 h4, Option.bind_some, if_pos (by rfl)]
 show Option.bind (Option.bind (some ((months l).map ba)) fun t => XA.word_name.j0 (k + 1) n ((1 : Nat) : Int) t) _ = _
 rw [Option.bind_some, name_j0 _ ((show ∀ l < 4, (months l).length ≤ 100 by decide) l h4) 1 (by omega) n h1 h2 k]; rfl
theorem weekday_f {l : Nat} (h0 : 0 < l) (h4 : l < 4) (n : Int) (h1 : -9223372036854775808 ≤ n) (h2 : n ≤ 9223372036854775807) (k : Nat) :
  XA.word_Weekday.f (k + 1) l n = some (ba (nameOf (days l) 0 n).1, (nameOf (days l) 0 n).2) := by
 unfold XA.word_Weekday.f XA.word_name.f
 rw [known_f h0 h4, Option.bind_some, if_pos (by rfl), tongues_f h0 h4, Option.bind_some, if_neg (by decide), if_pos (by rfl)]
 show Option.bind (Option.bind (some ((days l).map ba)) fun t => XA.word_name.j0 (k + 1) n ((0 : Nat) : Int) t) _ = _
 rw [Option.bind_some, name_j0 _ ((show ∀ l < 4, (days l).length ≤ 100 by decide) l h4) 0 (by omega) n h1 h2 k]; rfl
def placeOf (tab : List S) (first : Nat) (s : S) : Int × Int := match tab.findIdx? (· == s) with | some j => (((j + first : Nat) : Int), 0) | none => (0, 110)
theorem place_j (tab : List S) (ht : tab.length ≤ 100) (first : Nat) (hf : first ≤ 10) (s : S) (k : Nat) (hk : 200 ≤ k) :
  ((XL.slices_Index_string_string.f k (tab.map ba) (ba s)).bind fun t => XA.word_place.j0 k first t) = some (placeOf tab first s) := by
 obtain ⟨k, rfl⟩ : ∃ j, k = j + 1 := ⟨k - 1, by omega⟩
 rw [index_f tab s (by omega) _ (by omega), Option.bind_some, XA.word_place.j0, placeOf]
 cases hx : tab.findIdx? (· == s) with
 | none => rfl
 | some j =>
  have hlt : j < 100 := by have := List.findIdx?_eq_some_iff_findIdx_eq.mp hx; omega
  show (if ((j : Nat) : Int) < 0 then _ else some (wrap64 (((j : Nat) : Int) + (first : Int)), 0)) = _
  rw [if_neg (by omega), wrap64_id (by omega) (by omega)]; rfl
theorem monthOf_f {l : Nat} (h0 : 0 < l) (h4 : l < 4) (s : S) (k : Nat) (hk : 200 ≤ k) : XA.word_MonthOf.f k l (ba s) = some (placeOf (months l) 1 s) := by
 unfold XA.word_MonthOf.f XA.word_place.f
 rw [known_f h0 h4, Option.bind_some, if_pos (by rfl), tongues_f h0 h4, Option.bind_some, if_pos (by rfl)]
 show Option.bind ((XL.slices_Index_string_string.f k ((months l).map ba) (ba s)).bind fun t => XA.word_place.j0 k ((1 : Nat) : Int) t) _ = _
 rw [place_j _ ((show ∀ l < 4, (months l).length ≤ 100 by decide) l h4) 1 (by omega) s k hk]; rfl
theorem weekdayOf_f {l : Nat} (h0 : 0 < l) (h4 : l < 4) (s : S) (k : Nat) (hk : 200 ≤ k) : XA.word_WeekdayOf.f k l (ba s) = some (placeOf (days l) 0 s) := by
 unfold XA.word_WeekdayOf.f XA.word_place.f
 rw [known_f h0 h4, Option.bind_some, if_pos (by rfl), tongues_f h0 h4, Option.bind_some, if_neg (by decide), if_pos (by rfl)]
 show Option.bind ((XL.slices_Index_string_string.f k ((days l).map ba) (ba s)).bind fun t => XA.word_place.j0 k ((0 : Nat) : Int) t) _ = _
 rw [place_j _ ((show ∀ l < 4, (days l).length ≤ 100 by decide) l h4) 0 (by omega) s k hk]; rfl
end Go.Proofs.YtjgobfbjmlacjaaDoor.XP
