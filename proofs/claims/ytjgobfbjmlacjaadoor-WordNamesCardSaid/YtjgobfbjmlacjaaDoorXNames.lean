/-
  WordNames returns true for every language, every two numbers and every word, and leaves its arguments as they were. Its only conditions are the row's own: the three package-level tables hold what their initialisers lay.
-/
import Derived.Test.YtjgobfbjmlacjaaDoorXPf
import Derived.Test.YtjgobfbjmlacjaaDoorXN
import Derived.Test.YtjgobfbjmlacjaaDoorXArgs
import Derived.Test.YtjgobfbjmlacjaaDoorCards
import Derived.Test.YtjgobfbjmlacjaaDoorTie
import Derived.ProofKit
import Derived.Below
import Derived.Carry
set_option maxRecDepth 100000
set_option linter.unusedVariables false
set_option linter.unusedSimpArgs false
namespace Go.Proofs.YtjgobfbjmlacjaaDoor.XP
open Go.RowKit Go.Proofs.YtjgobfbjmlacjaaDoorW.PrintWords Go.Proofs.YtjgobfbjmlacjaaDoorW.PrintLast Go.Proofs.YtjgobfbjmlacjaaDoorW.PrintMore
theorem months_ok : ∀ l < 4, 0 < l → (List.range 12).all (fun n => decide (placeOf (months l) 1 ((months l).getD n []) = (((n + 1 : Nat) : Int), 0)) && !isW l ((months l).getD n []) && !((months l).getD n []).isEmpty) = true := by decide +kernel
theorem days_ok : ∀ l < 4, 0 < l → (List.range 7).all (fun n => decide (placeOf (days l) 0 ((days l).getD n []) = ((n : Int), 0)) && !isW l ((days l).getD n []) && !((days l).getD n []).isEmpty) = true := by decide +kernel
theorem names_len : ∀ l < 4, 0 < l → (months l).length = 12 ∧ (days l).length = 7 := by decide
theorem names_le : ∀ l < 4, (∀ n < 12, ((months l).getD n []).length ≤ 100) ∧ ∀ n < 7, ((days l).getD n []).length ≤ 100 := by decide
theorem month_fact {l : Nat} (h0 : 0 < l) (h4 : l < 4) {n : Nat} (hn : n < 12) : placeOf (months l) 1 ((months l).getD n []) = (((n + 1 : Nat) : Int), 0) ∧ isW l ((months l).getD n []) = false ∧ (months l).getD n [] ≠ [] := by
  have h := List.all_eq_true.mp (months_ok l h4 h0) n (List.mem_range.mpr hn)
  simp only [Bool.and_eq_true, decide_eq_true_eq, Bool.not_eq_true'] at h
  exact ⟨h.1.1, h.1.2, fun e => by have := h.2; rw [e] at this; cases this⟩
theorem day_fact {l : Nat} (h0 : 0 < l) (h4 : l < 4) {n : Nat} (hn : n < 7) : placeOf (days l) 0 ((days l).getD n []) = ((n : Int), 0) ∧ isW l ((days l).getD n []) = false ∧ (days l).getD n [] ≠ [] := by
  have h := List.all_eq_true.mp (days_ok l h4 h0) n (List.mem_range.mpr hn)
  simp only [Bool.and_eq_true, decide_eq_true_eq, Bool.not_eq_true'] at h
  exact ⟨h.1.1, h.1.2, fun e => by have := h.2; rw [e] at this; cases this⟩
theorem nameOf_in (tab : List S) (first : Nat) (n : Nat) (hn : n < tab.length) : nameOf tab first ((n + first : Nat) : Int) = (tab.getD n [], 0) := by
  unfold nameOf
  rw [if_neg (by omega)]
  have : (((n + first : Nat) : Int) - (first : Int)).toNat = n := by omega
  rw [this]
theorem nameOf_err (tab : List S) (first : Nat) (n : Int) : (nameOf tab first n).2 = 0 ↔ (first : Int) ≤ n ∧ n - first < (tab.length : Int) := by
  unfold nameOf
  by_cases h : n < first ∨ (tab.length : Int) ≤ n - first
  · rw [if_pos h]; constructor
    · intro h; cases h
    · omega
  · rw [if_neg h]; constructor
    · intro _; omega
    · intro _; rfl
theorem placeOf_some {tab : List S} {first : Nat} {s : S} (h : (placeOf tab first s).2 = 0) : ∃ j, j < tab.length ∧ placeOf tab first s = (((j + first : Nat) : Int), 0) ∧ tab.getD j [] = s := by
  unfold placeOf at h ⊢
  cases hx : tab.findIdx? (· == s) with
  | none => rw [hx] at h; cases h
  | some j =>
    obtain ⟨hj, hs, _⟩ := List.findIdx?_eq_some_iff_getElem.mp hx
    refine ⟨j, hj, rfl, ?_⟩
    rw [List.getD_eq_getElem?_getD, List.getElem?_eq_getElem hj]
    exact beq_iff_eq.mp hs
theorem placeOf_bound (tab : List S) (ht : tab.length ≤ 100) (first : Nat) (hf : first ≤ 10) (s : S) : 0 ≤ (placeOf tab first s).1 ∧ (placeOf tab first s).1 ≤ 200 := by
  unfold placeOf
  cases hx : tab.findIdx? (· == s) with
  | none => exact ⟨Int.le_refl 0, by show (0 : Int) ≤ 200; omega⟩
  | some j =>
    obtain ⟨hj, _⟩ := List.findIdx?_eq_some_iff_getElem.mp hx
    show (0 : Int) ≤ ((j + first : Nat) : Int) ∧ ((j + first : Nat) : Int) ≤ 200
    omega
theorem names_j4 {l : Nat} (h0 : 0 < l) (h4 : l < 4) (s : S) (k : Nat) :
    XN.newswirelaw11_WordNames.j4 (k + 1) (ba s) true (placeOf (months l) 1 (s.take 60)).2 (ba (nameOf (months l) 1 (placeOf (months l) 1 (s.take 60)).1).1) (nameOf (months l) 1 (placeOf (months l) 1 (s.take 60)).1).2 false = some true := by
  rw [XN.newswirelaw11_WordNames.j4, if_neg (by decide), if_pos (by rfl)]
  by_cases h : (placeOf (months l) 1 (s.take 60)).2 = 0
  · obtain ⟨j, hj, hp, ht⟩ := placeOf_some h
    have hmn : mn (((ba s).size : Nat) : Int) 60 = ((min s.length 60 : Nat) : Int) := by rw [ba_size]; unfold mn; split <;> omega
    have e1 : s.take (min s.length 60) = s.take 60 := by
      rcases Nat.le_total s.length 60 with h | h
      · rw [Nat.min_eq_left h, List.take_of_length_le (Nat.le_refl _), List.take_of_length_le h]
      · rw [Nat.min_eq_right h]
    rw [hp, nameOf_in _ _ _ hj, if_pos (by rfl), if_pos (by rfl), hmn, if_pos (by omega), if_pos (by rw [ba_size]; omega), Int.toNat_natCast, ba_take, e1]
    rw [ht]; simp
  · rw [if_neg h]
theorem names_l1 {l : Nat} (h0 : 0 < l) (h4 : l < 4) (a b : Int) (s : S) (ha : -9223372036854775808 ≤ a) (ha' : a ≤ 9223372036854775807) (hb : -9223372036854775808 ≤ b) (hb' : b ≤ 9223372036854775807) : ∀ (m n k : Nat), n + m = 7 → 2 * m + 5000 ≤ k →
    XN.newswirelaw11_WordNames.l1 k a b (ba s) true l n = some true
  | 0, n, k + 1, hn, hk => by
    obtain rfl : n = 7 := by omega
    have hl := names_len l h4 h0
    have hmn : mn (((ba s).size : Nat) : Int) 60 = ((min s.length 60 : Nat) : Int) := by rw [ba_size]; unfold mn; split <;> omega
    have e1 : s.take (min s.length 60) = s.take 60 := by
      rcases Nat.le_total s.length 60 with h | h
      · rw [Nat.min_eq_left h, List.take_of_length_le (Nat.le_refl _), List.take_of_length_le h]
      · rw [Nat.min_eq_right h]
    obtain ⟨k, rfl⟩ : ∃ j, k = j + 1 := ⟨k - 1, by omega⟩
    have hp := placeOf_bound (months l) (by omega) 1 (by omega) (s.take 60)
    rw [XN.newswirelaw11_WordNames.l1, if_neg (by omega), month_f h0 h4 a ha ha', Option.bind_some, weekday_f h0 h4 b hb hb', Option.bind_some, hmn, if_pos (by omega), if_pos (by rw [ba_size]; omega), Int.toNat_natCast, ba_take, e1, monthOf_f h0 h4 _ _ (by omega), Option.bind_some, month_f h0 h4 _ (by omega) (by omega), Option.bind_some]
    have hj := names_j4 h0 h4 s k
    have ea := nameOf_err (months l) 1 a
    have eb := nameOf_err (days l) 0 b
    have ha2 : ((nameOf (months l) 1 a).2 == 0) = decide (1 ≤ a ∧ a ≤ 12) := by
      rw [Bool.eq_iff_iff, beq_iff_eq, decide_eq_true_iff, ea]; omega
    have hb2 : ((nameOf (days l) 0 b).2 == 0) = decide (0 ≤ b ∧ b ≤ 6) := by
      rw [Bool.eq_iff_iff, beq_iff_eq, decide_eq_true_iff, eb]; omega
    simp only [ha2, hb2]
    by_cases a1 : a ≥ 1 <;> by_cases b1 : b ≥ 0
    · have e2 : (decide (1 ≤ a ∧ a ≤ 12) != decide (a ≤ 12)) = false := by rw [bne_eq_false_iff_eq, Bool.eq_iff_iff]; simp; omega
      have e3 : (decide (0 ≤ b ∧ b ≤ 6) != decide (b ≤ 6)) = false := by rw [bne_eq_false_iff_eq, Bool.eq_iff_iff]; simp; omega
      rw [if_pos a1, e2, if_neg (by decide), if_pos b1, e3]; exact hj
    · have e2 : (decide (1 ≤ a ∧ a ≤ 12) != decide (a ≤ 12)) = false := by rw [bne_eq_false_iff_eq, Bool.eq_iff_iff]; simp; omega
      have e3 : (decide (0 ≤ b ∧ b ≤ 6) != false) = false := by rw [bne_eq_false_iff_eq, decide_eq_false (by omega)]
      rw [if_pos a1, e2, if_neg (by decide), if_neg b1, e3]; exact hj
    · have e2 : (decide (1 ≤ a ∧ a ≤ 12) != false) = false := by rw [bne_eq_false_iff_eq, decide_eq_false (by omega)]
      have e3 : (decide (0 ≤ b ∧ b ≤ 6) != decide (b ≤ 6)) = false := by rw [bne_eq_false_iff_eq, Bool.eq_iff_iff]; simp; omega
      rw [if_neg a1, e2, if_neg (by decide), if_pos b1, e3]; exact hj
    · have e2 : (decide (1 ≤ a ∧ a ≤ 12) != false) = false := by rw [bne_eq_false_iff_eq, decide_eq_false (by omega)]
      have e3 : (decide (0 ≤ b ∧ b ≤ 6) != false) = false := by rw [bne_eq_false_iff_eq, decide_eq_false (by omega)]
      rw [if_neg a1, e2, if_neg (by decide), if_neg b1, e3]; exact hj
  | m + 1, n, k + 1, hn, hk => by
    obtain ⟨k, rfl⟩ : ∃ j, k = j + 1 := ⟨k - 1, by omega⟩
    have ih := names_l1 h0 h4 a b s ha ha' hb hb' m (n + 1) k (by omega) (by omega)
    have hl := names_len l h4 h0
    obtain ⟨f1, f2, f3⟩ := day_fact h0 h4 (n := n) (by omega)
    have fl := (names_le l h4).2 n (by omega)
    have hno := nameOf_in (days l) 0 n (by omega)
    rw [XN.newswirelaw11_WordNames.l1, if_pos (by omega), weekday_f h0 h4 n (by omega) (by omega), Option.bind_some, show ((n : Nat) : Int) = ((n + 0 : Nat) : Int) from rfl, hno]
    show Option.bind (XA.word_WeekdayOf.f (k + 1) l (ba ((days l).getD n []))) _ = _
    rw [weekdayOf_f h0 h4 _ _ (by omega), f1, Option.bind_some]
    show Option.bind (XI.word_Is.f (k + 1) l (ba ((days l).getD n []))) _ = _
    rw [is_f h0 h4 _ (by omega) _ (by omega), f2, Option.bind_some, if_pos (by rfl), if_pos (by rfl), if_pos (by rfl), if_neg (by decide)]
    have e : ((ba ((days l).getD n [])).toList == ([] : List UInt8)) = false := by rw [ba_toList, beq_eq_false_iff_ne]; exact f3
    show XN.newswirelaw11_WordNames.j3 (k + 1) a b (ba s) true l n ((ba ((days l).getD n [])).toList == ([] : List UInt8)) = _
    rw [e, XN.newswirelaw11_WordNames.j3, if_neg (by decide), wrap64_id (by omega) (by omega)]
    exact ih
theorem names_l0 {l : Nat} (h0 : 0 < l) (h4 : l < 4) (a b : Int) (s : S) (ha : -9223372036854775808 ≤ a) (ha' : a ≤ 9223372036854775807) (hb : -9223372036854775808 ≤ b) (hb' : b ≤ 9223372036854775807) : ∀ (m n k : Nat), n + m = 13 → 1 ≤ n → 2 * m + 5500 ≤ k →
    XN.newswirelaw11_WordNames.l0 k a b (ba s) true l n = some true
  | 0, n, k + 1, hn, _, hk => by
    rw [XN.newswirelaw11_WordNames.l0, if_neg (by omega)]
    exact names_l1 h0 h4 a b s ha ha' hb hb' 7 0 k (by omega) (by omega)
  | m + 1, n, k + 1, hn, h1, hk => by
    obtain ⟨k, rfl⟩ : ∃ j, k = j + 1 := ⟨k - 1, by omega⟩
    obtain ⟨n, rfl⟩ : ∃ j, n = j + 1 := ⟨n - 1, by omega⟩
    have ih := names_l0 h0 h4 a b s ha ha' hb hb' m (n + 1 + 1) k (by omega) (by omega) (by omega)
    have hl := names_len l h4 h0
    obtain ⟨f1, f2, f3⟩ := month_fact h0 h4 (n := n) (by omega)
    have fl := (names_le l h4).1 n (by omega)
    have hno := nameOf_in (months l) 1 n (by omega)
    rw [XN.newswirelaw11_WordNames.l0, if_pos (by omega), month_f h0 h4 _ (by omega) (by omega), Option.bind_some, hno]
    show Option.bind (XA.word_MonthOf.f (k + 1) l (ba ((months l).getD n []))) _ = _
    rw [monthOf_f h0 h4 _ _ (by omega), f1, Option.bind_some]
    show Option.bind (XI.word_Is.f (k + 1) l (ba ((months l).getD n []))) _ = _
    rw [is_f h0 h4 _ (by omega) _ (by omega), f2, Option.bind_some, if_pos (by rfl), if_pos (by rfl), if_pos (by rfl), if_neg (by decide)]
    have e : ((ba ((months l).getD n [])).toList == ([] : List UInt8)) = false := by rw [ba_toList, beq_eq_false_iff_ne]; exact f3
    show XN.newswirelaw11_WordNames.j1 (k + 1) a b (ba s) true l ((n + 1 : Nat) : Int) ((ba ((months l).getD n [])).toList == ([] : List UInt8)) = _
    rw [e, XN.newswirelaw11_WordNames.j1, if_neg (by decide), wrap64_id (by omega) (by omega)]
    exact ih
/-- WordNames, as it is printed, returns true. -/
theorem names_law (a b c : Int) (s : ByteArray) (ha : -9223372036854775808 ≤ a) (ha' : a ≤ 9223372036854775807) (hb : -9223372036854775808 ≤ b) (hb' : b ≤ 9223372036854775807) (hc : -9223372036854775808 ≤ c) (hc' : c ≤ 9223372036854775807) :
    XN.newswirelaw11_WordNames.f 7000 a b c s = some true := by
  obtain ⟨l0, l4⟩ := lang_pick a
  have p1 : XS.newswirelaw11_pick.f a 3 = some ((pk a 3 : Nat) : Int) := pick_f a 3 ha ha' (by omega)
  unfold XN.newswirelaw11_WordNames.f
  rw [sane_f 7000 (by omega), Option.bind_some, if_pos (by rfl), p1, Option.bind_some, wrap_pick a]
  have := names_l0 l0 l4 b c s.data.toList hb hb' hc hc' 12 1 7000 (by omega) (by omega) (by omega)
  rw [ba_eta] at this
  exact this
end Go.Proofs.YtjgobfbjmlacjaaDoor.XP
namespace Go.Proofs.YtjgobfbjmlacjaaDoor.Names
open Go.ChangeShapes Go.WideShapes Go.ChangeAt Go.RowKit
open Go.ChangeMaps (open_string shut_string)
theorem contract (H : Type) (enc : TypeId × Value → H) (W : World) (base : Nat) (args : Array Value) (ds gs : List (DataW H)) (before : List MemPlace)
    (hval : ∀ (j : Nat) t v, Tryd.f9.params[j]? = some t → args[j]? = some v → Value.okWide Tryd.prog W .any base t v)
    (hW : DataW.Whole enc Tryd.prog Tryd.f9.params.toList Rows.wordNamesSpec.vars false W args.toList ds gs before) (hL : laidMetH Tryd.prog Rows.wordNamesRow.laid W) (hS : W.ShapedOpen Tryd.prog) :
    Calls Tryd.prog 9 args W fun e W' => ∃ v, e = .returned v ∧ Rows.wordNamesSpec.post enc Tryd.prog Tryd.f9 false true false false W args v W' := by
  have hW' := hW
  obtain ⟨p, q, hA0, hV, rfl, hfz, hnd⟩ := hW
  have hA : DataW.TrodAll enc Tryd.prog W 0 (fun _ => true) true Tryd.f9.params.toList args.toList ds p := hA0
  rw [Tryd.params9] at hA hval
  obtain ⟨v0, vs0, d0, ds0, p0, q0, hargs, rfl, rfl, h0, r0⟩ := trodAll_cons hA
  obtain ⟨v1, vs1, d1, ds1, p1, q1, rfl, rfl, rfl, h1, r1⟩ := trodAll_cons r0
  obtain ⟨v2, vs2, d2, ds2, p2, q2, rfl, rfl, rfl, h2, r2⟩ := trodAll_cons r1
  obtain ⟨v3, vs3, d3, ds3, p3, q3, rfl, rfl, rfl, h3, r3⟩ := trodAll_cons r2
  obtain ⟨rfl, rfl, rfl⟩ := trodAll_nil r3
  obtain rfl : args = #[v0, v1, v2, v3] := by cases args; simp_all
  obtain ⟨rfl, rfl⟩ := trodVars_none hV
  obtain ⟨a0, rfl, rfl, rfl, w0⟩ := open_int Tryd.underlying3 (hval 0 _ v0 rfl rfl) h0
  obtain ⟨a1, rfl, rfl, rfl, w1⟩ := open_int Tryd.underlying3 (hval 1 _ v1 rfl rfl) h1
  obtain ⟨a2, rfl, rfl, rfl, w2⟩ := open_int Tryd.underlying3 (hval 2 _ v2 rfl rfl) h2
  obtain ⟨a3, rfl, rfl, rfl, w3⟩ := open_string Tryd.underlying9 (hval 3 _ v3 rfl rfl) h3
  clear hA0
  have hlw : LW W := lw_of hL hS
  have walk := XN.newswirelaw11_WordNames.calls 7000 a0 a1 a2 a3 true W  hlw (XP.names_law a0 a1 a2 a3 (wf64 w0).1 (wf64 w0).2 (wf64 w1).1 (wf64 w1).2 (wf64 w2).1 (wf64 w2).2)
  refine walk.mono fun e W' ⟨he, hb⟩ => ?_
  subst he
  exact ⟨_, rfl, _, _, _, [], _, [], hW', trodAll_mk1 (shut_bool Tryd.underlying4 _), (trodAll_cons_mk (shut_int Tryd.underlying3 w0) (trodAll_cons_mk (shut_int Tryd.underlying3 w1) (trodAll_cons_mk (shut_int Tryd.underlying3 w2) (trodAll_cons_mk (shut_string Tryd.underlying9 w3) trodAll_mk0)))), rfl, hb.frame _, fun h => by cases h⟩
theorem reads (os : Os) {H : Type} (enc : TypeId × Value → H) : ∃ places, DataW.whole enc Tryd.prog ((laidWorld os).forCall (fun _ _ => 0) ⟨#[], #[.int .i64 0, .int .i64 0, .int .i64 0, .string ⟨#[]⟩], []⟩).memory Tryd.f9.params.toList Rows.wordNamesSpec.vars false (#[.int .i64 0, .int .i64 0, .int .i64 0, .string ⟨#[]⟩] : Array Value).toList 8 = some ([.lit (.int .i64 0), .lit (.int .i64 0), .lit (.int .i64 0), .lit (.string [])], [], places) :=
  ⟨[], by kernel_rfl⟩
theorem lifted (os : Os) (started : os.Started) (H : Type) (enc : TypeId × Value → H) (F : Stop.Interp) :
    ReturnsInHanded {} Tryd.checked os 9 .any ((OpenSpec.ofChange Rows.wordNamesSpec).preRow enc Tryd.prog Tryd.f9 Rows.wordNamesRow.domain false Rows.wordNamesRow.laid) (((OpenSpec.ofChange Rows.wordNamesSpec).at F).post enc Tryd.prog Tryd.f9 false true false false) := by
  obtain ⟨places, hx⟩ := reads os enc
  refine returnsInHanded_of_row (C := Tryd.checked) (s := OpenSpec.ofChange Rows.wordNamesSpec) own started (by kernel_rfl) Tryd.func9
    (witness_row_atRef (enc := enc) (C := Tryd.checked) false (laidWorld os) #[.int .i64 0, .int .i64 0, .int .i64 0, .string ⟨#[]⟩] rfl (by kernel_rfl) (by kernel_rfl) (by kernel_rfl)
      (OpenSpec.preRow_of_cond 8 hx (by kernel_rfl) (fun k hk => by cases hk) (by kernel_rfl) (laid_met os _))) ?_
  intro W base args ds gs before hval hW _ _ _ hL hS _
  exact contract H enc W base args ds gs before hval hW hL hS
theorem said : Rows.WordNamesSaid :=
  OpenClaim.holds_of_cond 9 Tryd.f9 rfl rfl rfl rfl rfl rfl rfl ⟨rfl, rfl, rfl, rfl, rfl⟩ rfl rfl rfl rfl rfl (by kernel_rfl) Tryd.func9 (by kernel_rfl)
    (of_decide_eq_true (by kernel_rfl)) (by unfold Func.isWrapper; first | (rw [if_pos (by decide +kernel)]; kernel_rfl) | (rw [if_neg (by decide +kernel)]; exact ⟨rfl, rfl⟩))
    (fun os started H enc _ F => by rw [OpenClaim.pre_eq_preRow]; exact lifted os started H enc F)
theorem plain (f : FuncId) (fn : Func) (hf : Tryd.pinned.checked.prog.funcNamed "newswire/newswirelaw11.WordNames" = some f) (hfn : Tryd.pinned.checked.prog.funcs[f]? = some fn) :
    false = Tryd.pinned.checked.prog.looks [] ∧ ∀ (j : Nat) t, fn.params[j]? = some t → Tryd.pinned.checked.prog.wantsStandIn t = false := by
  obtain rfl : f = 9 := Option.some.inj ((show Tryd.prog.funcNamed "newswire/newswirelaw11.WordNames" = some 9 by kernel_rfl).symm.trans hf) |>.symm
  obtain rfl : fn = Tryd.f9 := (Option.some.inj (Tryd.func9.symm.trans hfn)).symm
  refine ⟨by kernel_rfl, fun j t ht => ?_⟩
  rw [Tryd.params9] at ht
  have hm := Array.mem_of_getElem? ht
  have hs : t = 3 ∨ t = 9 := by simpa using hm
  rcases hs with rfl | rfl
  · exact (show Tryd.prog.wantsStandIn 3 = false by kernel_rfl)
  · exact (show Tryd.prog.wantsStandIn 9 = false by kernel_rfl)
/-- The card of WordNames. -/
theorem card : Rows.WordNamesCardSaid :=
  Claim7.holds_tied_plain_at .later [] _ _ _ _ said (fun _ h => by cases h) (by kernel_rfl) (fun _ h => by cases h) wordNames_row_tie rfl ⟨rfl, rfl⟩ (by kernel_rfl) rfl plain (by kernel_rfl)
end Go.Proofs.YtjgobfbjmlacjaaDoor.Names
#print axioms Go.Proofs.YtjgobfbjmlacjaaDoor.Names.card
