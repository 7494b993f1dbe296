/-
 Different numbers have different words, and the words of a number are those of its thousands and those of its rest.
-/
import Derived.Test.YtjgobfbjmlacjaaDoorXPe
set_option linter.unusedSimpArgs false
set_option linter.unusedVariables false
set_option maxRecDepth 100000
namespace Go.Proofs.YtjgobfbjmlacjaaDoor.XP
open Go.RowKit Go.Proofs.YtjgobfbjmlacjaaDoorW.PrintWords Go.Proofs.YtjgobfbjmlacjaaDoorW.PrintLast Go.Proofs.YtjgobfbjmlacjaaDoorW.PrintMore
theorem fieldsGo_app (b : S) : ∀ (a cur : S), Lib.fieldsGo cur (a ++ 32 :: b) = Lib.fieldsGo cur a ++ Lib.fieldsGo [] b
 | [], cur => by
  have h : Lib.isSp 32 = true := by decide
  by_cases hc : cur = []
  ·subst hc
   rw [List.nil_append, Lib.fieldsGo_sp _ _ h]; rfl
  ·rw [List.nil_append, Lib.fieldsGo_end _ _ _ h hc]
   cases cur with
   | nil => exact absurd rfl hc
   | cons x r => rfl
 | x :: a, cur => by
  rw [List.cons_append]
  cases hx : Lib.isSp x
  ·rw [Lib.fieldsGo_more _ _ _ hx, Lib.fieldsGo_more _ _ _ hx, fieldsGo_app b a]
  ·by_cases hc : cur = []
   ·subst hc
    rw [Lib.fieldsGo_sp _ _ hx, Lib.fieldsGo_sp _ _ hx, fieldsGo_app b a]
   ·rw [Lib.fieldsGo_end _ _ _ hx hc, Lib.fieldsGo_end _ _ _ hx hc, fieldsGo_app b a]; rfl
theorem fields_joinS (a b : S) : Lib.fields (joinS a sSpace b) = Lib.fields a ++ Lib.fields b := by
 unfold joinS
 split
 ·rename_i h
  rcases h with rfl | rfl
  ·rfl
  ·rw [List.append_nil]; exact (List.append_nil _).symm
 ·rw [show a ++ sSpace ++ b = a ++ 32 :: b by simp]
  exact fieldsGo_app b a []
theorem small_0 (l : Nat) : small l 0 = [] := rfl
theorem words_big {l n : Nat} (h : 1000 ≤ n) : words l n = Lib.fields (thl l (n / 1000)) ++ Lib.fields (small l (n % 1000)) := by
 unfold words text thl
 rw [if_neg (by omega), if_neg (by omega), fields_joinS]
theorem words_low {l n : Nat} (h1 : 1 ≤ n) (h : n < 1000) : words l n = Lib.fields (small l n) := by
 unfold words text
 rw [if_neg (by omega), if_pos h]
theorem beqN_true {a b : S} (h : beqN a b = true) : a = b := by rw [beqN_eq] at h; exact beq_iff_eq.mp h
theorem chk1_out {l : Nat} (h0 : 0 < l) (h4 : l < 4) {n : Nat} (h1 : 1 ≤ n) (h2 : n < 1000) : Lib.fields (small l n) ≠ [] ∧ jn (Lib.fields (small l n)) = small l n ∧ ∀ w ∈ Lib.fields (small l n), mark l w = false := by
 have h := chk1_all h0 h4 h1 h2
 unfold chk1 at h
 cases hf : Lib.fields (small l n) with
 | nil => rw [hf] at h; cases h
 | cons w r =>
  rw [hf] at h
  simp only [Bool.and_eq_true, List.all_eq_true, Bool.not_eq_true'] at h
  exact ⟨by simp, beqN_true h.1, h.2⟩
theorem chk2_out {l : Nat} (h0 : 0 < l) (h4 : l < 4) {n : Nat} (h1 : 1 ≤ n) (h2 : n < 1000) : jn (Lib.fields (thl l n)) = thl l n ∧ markEnd l (Lib.fields (thl l n)) = true := by
 have h := chk2_all h0 h4 h1 h2
 unfold chk2 at h
 cases hf : Lib.fields (thl l n) with
 | nil => rw [hf] at h; cases h
 | cons w r =>
  rw [hf] at h
  simp only [Bool.and_eq_true] at h
  exact ⟨beqN_true h.1, h.2⟩
theorem small_inj {l : Nat} (h0 : 0 < l) (h4 : l < 4) {a b : Nat} (ha : 1 ≤ a) (ha' : a < 1000) (hb : 1 ≤ b) (hb' : b < 1000) (h : small l a = small l b) : a = b := by
 have h1 := value_small h0 h4 ha ha'
 rw [h, value_small h0 h4 hb hb'] at h1
 exact (Option.some.inj h1).symm
theorem fields_small_inj {l : Nat} (h0 : 0 < l) (h4 : l < 4) {a b : Nat} (ha : a < 1000) (hb : b < 1000) (h : Lib.fields (small l a) = Lib.fields (small l b)) : a = b := by
 rcases Nat.eq_zero_or_pos a with rfl | pa <;> rcases Nat.eq_zero_or_pos b with rfl | pb
 ·rfl
 ·exact absurd h.symm (chk1_out h0 h4 pb hb).1
 ·exact absurd h (chk1_out h0 h4 pa ha).1
 ·have h1 := (chk1_out h0 h4 pa ha).2.1
  rw [h, (chk1_out h0 h4 pb hb).2.1] at h1
  exact small_inj h0 h4 pa ha pb hb h1.symm
/-- Behind the last marked word: the two parts of a list of words are told apart. -/
theorem mark_split {l : Nat} : ∀ {A A' B B' : List S}, markEnd l A = true → markEnd l A' = true → (∀ w ∈ B, mark l w = false) → (∀ w ∈ B', mark l w = false) → A ++ B = A' ++ B' → A = A' ∧ B = B'
 | [], _, _, _, h, _, _, _, _ => by cases h
 | _ :: _, [], _, _, _, h, _, _, _ => by cases h
 | [a], [a'], B, B', _, _, _, _, e => by
  obtain ⟨rfl, rfl⟩ := List.cons.inj e; exact ⟨rfl, rfl⟩
 | [a], a' :: x :: r, B, B', h, h', _, _, e => by
  obtain ⟨rfl, _⟩ := List.cons.inj e
  simp only [markEnd, Bool.and_eq_true, Bool.not_eq_true'] at h h'
  rw [h'.1] at h; cases h
 | a :: x :: r, [a'], B, B', h, h', _, _, e => by
  obtain ⟨rfl, _⟩ := List.cons.inj e
  simp only [markEnd, Bool.and_eq_true, Bool.not_eq_true'] at h h'
  rw [h.1] at h'; cases h'
 | a :: x :: r, a' :: x' :: r', B, B', h, h', hB, hB', e => by
  obtain ⟨rfl, e2⟩ := List.cons.inj e
  simp only [markEnd, Bool.and_eq_true] at h h'
  obtain ⟨e3, e4⟩ := mark_split (A := x :: r) (A' := x' :: r') h.2 h'.2 hB hB' e2
  exact ⟨by rw [e3], e4⟩
theorem fields_unmarked {l : Nat} (h0 : 0 < l) (h4 : l < 4) {n : Nat} (h : n < 1000) : ∀ w ∈ Lib.fields (small l n), mark l w = false := by
 rcases Nat.eq_zero_or_pos n with rfl | p
 ·intro w hw; exact absurd hw (by rw [small_0]; simp [Lib.fields, Lib.fieldsGo])
 ·exact (chk1_out h0 h4 p h).2.2
theorem no_suffix {e a : S} (h : (prefN e.reverse a.reverse).isNone = true) : ¬ e <:+ a := by
 intro hs
 rw [prefN_eq] at h
 have : e.reverse.isPrefixOf a.reverse = true := List.isPrefixOf_iff_prefix.mpr (List.reverse_prefix.mpr hs)
 rw [this] at h; cases h
theorem shorter_inj {e0 : S} {c : UInt8} {a b : S} (ha : ¬ e0 <:+ a) (hb : ¬ e0 <:+ b) (h : shorter a (e0 ++ [c]) = shorter b (e0 ++ [c])) : a = b := by
 have cut : ∀ x : S, (e0 ++ [c]).isSuffixOf x = true → ∃ y, x = y ++ e0 ++ [c] ∧ x.dropLast = y ++ e0 := by
  intro x hx
  obtain ⟨y, rfl⟩ := List.isSuffixOf_iff_suffix.mp hx
  exact ⟨y, by simp, by rw [← List.append_assoc, List.dropLast_concat]⟩
 unfold shorter at h
 by_cases c1 : (e0 ++ [c]).isSuffixOf a = true <;> by_cases c2 : (e0 ++ [c]).isSuffixOf b = true
 ·rw [if_pos c1, if_pos c2] at h
  obtain ⟨y, hy, hy'⟩ := cut a c1
  obtain ⟨z, hz, hz'⟩ := cut b c2
  rw [hy', hz'] at h
  rw [hy, hz, h]
 ·rw [if_pos c1, if_neg c2] at h
  obtain ⟨y, hy, hy'⟩ := cut a c1
  rw [hy'] at h
  exact absurd ⟨y, h⟩ hb
 ·rw [if_neg c1, if_pos c2] at h
  obtain ⟨y, hy, hy'⟩ := cut b c2
  rw [hy'] at h
  exact absurd ⟨y, h.symm⟩ ha
 ·rw [if_neg c1, if_neg c2] at h; exact h
theorem thl_inj {l : Nat} (h0 : 0 < l) (h4 : l < 4) {a b : Nat} (ha : 1 ≤ a) (ha' : a < 1000) (hb : 1 ≤ b) (hb' : b < 1000) (h : thl l a = thl l b) : a = b := by
 have c1 := chk3_all h0 h4 ha ha'
 have c2 := chk3_all h0 h4 hb hb'
 refine small_inj h0 h4 ha ha' hb hb' ?_
 rcases langs h0 h4 with rfl | rfl | rfl
 ·exact List.append_cancel_right h
 ·have h' : shorter (small 2 a) ([101, 105, 110] ++ [115]) = shorter (small 2 b) ([101, 105, 110] ++ [115]) := List.append_cancel_right h
  exact shorter_inj (no_suffix (e := [101, 105, 110]) c1) (no_suffix (e := [101, 105, 110]) c2) h'
 ·have h' : (if a = 1 then sMil else shorter (small 3 a) sUno ++ sSMil) = (if b = 1 then sMil else shorter (small 3 b) sUno ++ sSMil) := h
  have hlen : ∀ x : S, sMil ≠ x ++ sSMil := by
   intro x hx
   have := congrArg List.length hx
   simp only [sMil, sSMil, List.length_append, List.length_cons, List.length_nil] at this
   omega
  by_cases e1 : a = 1 <;> by_cases e2 : b = 1
  ·rw [e1, e2]
  ·rw [if_pos e1, if_neg e2] at h'; exact absurd h' (hlen _)
  ·rw [if_neg e1, if_pos e2] at h'; exact absurd h'.symm (hlen _)
  ·rw [if_neg e1, if_neg e2] at h'
   exact shorter_inj (e0 := [117, 110]) (c := 111) (no_suffix (e := [117, 110]) c1) (no_suffix (e := [117, 110]) c2) (List.append_cancel_right h')
theorem zero_unread : ∀ l < 4, 0 < l → value l ((units l).getD 0 []) = none := by decide +kernel
theorem zero_unmarked : ∀ l < 4, 0 < l → mark l ((units l).getD 0 []) = false ∧ words l 0 = [(units l).getD 0 []] := by decide +kernel
theorem words_zero {l : Nat} (h0 : 0 < l) (h4 : l < 4) {n : Nat} (h1 : 1 ≤ n) (hn : n < 1000000) : words l n ≠ words l 0 := by
 intro h
 have hz := zero_unmarked l h4 h0
 rw [hz.2] at h
 by_cases hl : n < 1000
 ·rw [words_low h1 hl] at h
  have h2 := (chk1_out h0 h4 h1 hl).2.1
  rw [h] at h2
  have h3 := value_small h0 h4 h1 hl
  rw [← h2, show jn [(units l).getD 0 []] = (units l).getD 0 [] from Lib.join_one _ _, zero_unread l h4 h0] at h3
  cases h3
 ·rw [words_big (by omega)] at h
  have hm := (chk2_out h0 h4 (n := n / 1000) (by omega) (by omega)).2
  cases hT : Lib.fields (thl l (n / 1000)) with
  | nil => rw [hT] at hm; cases hm
  | cons x r =>
   rw [hT] at h hm
   obtain ⟨e, hr⟩ := List.cons.inj h
   cases r with
   | nil => have : mark l x = true := hm; rw [e, hz.1] at this; cases this
   | cons y r => cases hr
/-- DIFFERENT NUMBERS HAVE DIFFERENT WORDS. -/
theorem words_inj {l : Nat} (h0 : 0 < l) (h4 : l < 4) {x y : Nat} (hx : x < 1000000) (hy : y < 1000000) (h : words l x = words l y) : x = y := by
 rcases Nat.eq_zero_or_pos x with rfl | px
 ·rcases Nat.eq_zero_or_pos y with rfl | py
  ·rfl
  ·exact absurd h.symm (words_zero h0 h4 py hy)
 rcases Nat.eq_zero_or_pos y with rfl | py
 ·exact absurd h (words_zero h0 h4 px hx)
 have mixed : ∀ {a b : Nat}, 1 ≤ a → a < 1000 → 1000 ≤ b → b < 1000000 → words l a = words l b → False := by
  intro a b h1 h2 h3 h5 e
  rw [words_low h1 h2, words_big h3] at e
  have hm := (chk2_out h0 h4 (n := b / 1000) (by omega) (by omega)).2
  have hu := fields_unmarked h0 h4 h2
  rw [e] at hu
  have hex : ∀ A : List S, markEnd l A = true → ∃ w ∈ A, mark l w = true := by
   intro A
   induction A with
   | nil => intro h; cases h
   | cons w r ih =>
    intro h
    cases r with
    | nil => exact ⟨w, by simp, h⟩
    | cons v r =>
     simp only [markEnd, Bool.and_eq_true] at h
     obtain ⟨u, hu, hm⟩ := ih h.2
     exact ⟨u, List.mem_cons_of_mem _ hu, hm⟩
  obtain ⟨w, hw, hm'⟩ := hex _ hm
  rw [hu w (List.mem_append_left _ hw)] at hm'; cases hm'
 by_cases lx : x < 1000 <;> by_cases ly : y < 1000
 ·rw [words_low px lx, words_low py ly] at h
  exact fields_small_inj h0 h4 lx ly h
 ·exact (mixed px lx (by omega) hy h).elim
 ·exact (mixed py ly (by omega) hx h.symm).elim
 ·rw [words_big (by omega), words_big (by omega)] at h
  have hX := chk2_out h0 h4 (n := x / 1000) (by omega) (by omega)
  have hY := chk2_out h0 h4 (n := y / 1000) (by omega) (by omega)
  obtain ⟨e1, e2⟩ := mark_split hX.2 hY.2 (fields_unmarked h0 h4 (n := x % 1000) (by omega)) (fields_unmarked h0 h4 (n := y % 1000) (by omega)) h
  have q : x / 1000 = y / 1000 := thl_inj h0 h4 (by omega) (by omega) (by omega) (by omega) (by rw [← hX.1, e1, hY.1])
  have r := fields_small_inj h0 h4 (by omega) (by omega) e2
  omega
theorem words_split {l n : Nat} (h : 1000 ≤ n) (hm : n % 1000 ≠ 0) : words l n = words l (n - n % 1000) ++ words l (n % 1000) := by
 rw [words_big h, words_big (n := n - n % 1000) (by omega), words_low (n := n % 1000) (by omega) (by omega), show (n - n % 1000) / 1000 = n / 1000 by omega, show (n - n % 1000) % 1000 = 0 by omega, small_0]
 simp [Lib.fields, Lib.fieldsGo]
theorem lang_pick (language : Int) : 0 < 1 + pk language 3 ∧ 1 + pk language 3 < 4 := ⟨by omega, by have := pk_lt language (n := 3) (by omega); omega⟩
theorem wrap_pick (language : Int) : wrap64 (1 + ((pk language 3 : Nat) : Int)) = ((1 + pk language 3 : Nat) : Int) := by
 have := lang_pick language
 rw [wrap64_id (by omega) (by omega)]; omega
end Go.Proofs.YtjgobfbjmlacjaaDoor.XP
