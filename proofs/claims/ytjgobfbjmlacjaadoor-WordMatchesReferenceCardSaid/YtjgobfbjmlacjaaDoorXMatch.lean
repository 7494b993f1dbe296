/-
  WordMatchesReference returns true for every language, number and word, and leaves its arguments as they were. Its only conditions are the row's own: the three package-level tables hold what their initialisers lay.
-/
import Derived.Test.YtjgobfbjmlacjaaDoorXPk
import Derived.Test.YtjgobfbjmlacjaaDoorXM
import Derived.Test.YtjgobfbjmlacjaaDoorXArgs
import Derived.Test.YtjgobfbjmlacjaaDoorCards
import Derived.Test.YtjgobfbjmlacjaaDoorTie
import Derived.ProofKit
import Derived.Below
import Derived.Carry
set_option maxRecDepth 100000
set_option linter.unusedVariables false
set_option linter.unusedSimpArgs false
namespace Go.Proofs.YtjgobfbjmlacjaaDoor.XP
open Go.RowKit Go.Proofs.YtjgobfbjmlacjaaDoorW.PrintWords Go.Proofs.YtjgobfbjmlacjaaDoorW.PrintLast Go.Proofs.YtjgobfbjmlacjaaDoorW.PrintMore
theorem both_words (l n : Int) {k : Nat} (hk : 30 ≤ k) : ∃ (W : List S) (e : Int), XA.word_Words.f k l n = some (W.map ba, e) ∧ XM.newswireref11_Words.f k l n = some (W.map ba, e) ∧ W.length ≤ 10 := by
  obtain ⟨k, rfl⟩ : ∃ j, k = j + 2 := ⟨k - 2, by omega⟩
  by_cases h : (l < 1 ∨ 3 < l) ∨ n < 0 ∨ 999999 < n
  · exact ⟨[], 110, words_no (k + 1) l n h, rWords_no l n h (by omega), by simp⟩
  · obtain ⟨l, rfl⟩ : ∃ j : Nat, l = j := ⟨l.toNat, by omega⟩
    obtain ⟨n, rfl⟩ : ∃ j : Nat, n = j := ⟨n.toNat, by omega⟩
    have h0 : 0 < l := by omega
    have h4 : l < 4 := by omega
    exact ⟨words l n, 0, words_f h0 h4 k n (by omega), rWords_f h0 h4 n (by omega) (by omega), Nat.le_trans (words_pos h0 h4 (by omega)).2 (by omega)⟩
theorem both_month (l n : Int) (h1 : -9223372036854775808 ≤ n) (h2 : n ≤ 9223372036854775807) {k : Nat} (hk : 30 ≤ k) : ∃ (s : S) (e : Int), XA.word_Month.f k l n = some (ba s, e) ∧ XM.newswireref11_Month.f k l n = some (ba s, e) := by
  obtain ⟨k, rfl⟩ : ∃ j, k = j + 1 := ⟨k - 1, by omega⟩
  by_cases h : l < 1 ∨ 3 < l
  · refine ⟨[], 110, ?_, rMonth_no l n h (by omega)⟩
    unfold XA.word_Month.f XA.word_name.f
    rw [known_no h, Option.bind_some, if_neg (by decide)]; rfl
  · obtain ⟨l, rfl⟩ : ∃ j : Nat, l = j := ⟨l.toNat, by omega⟩
    exact ⟨_, _, month_f (by omega) (by omega) n h1 h2 k, rMonth_f (by omega) (by omega) n h1 h2 (by omega)⟩
theorem both_weekday (l n : Int) (h1 : -9223372036854775808 ≤ n) (h2 : n ≤ 9223372036854775807) {k : Nat} (hk : 30 ≤ k) : ∃ (s : S) (e : Int), XA.word_Weekday.f k l n = some (ba s, e) ∧ XM.newswireref11_Weekday.f k l n = some (ba s, e) := by
  obtain ⟨k, rfl⟩ : ∃ j, k = j + 1 := ⟨k - 1, by omega⟩
  by_cases h : l < 1 ∨ 3 < l
  · refine ⟨[], 110, ?_, rWeekday_no l n h (by omega)⟩
    unfold XA.word_Weekday.f XA.word_name.f
    rw [known_no h, Option.bind_some, if_neg (by decide)]; rfl
  · obtain ⟨l, rfl⟩ : ∃ j : Nat, l = j := ⟨l.toNat, by omega⟩
    exact ⟨_, _, weekday_f (by omega) (by omega) n h1 h2 k, rWeekday_f (by omega) (by omega) n (by omega)⟩
theorem both_monthOf (l : Int) (s : S) {k : Nat} (hk : 300 ≤ k) : ∃ p e : Int, XA.word_MonthOf.f k l (ba s) = some (p, e) ∧ XM.newswireref11_MonthOf.f k l (ba s) = some (p, e) := by
  by_cases h : l < 1 ∨ 3 < l
  · refine ⟨0, 110, ?_, ?_⟩
    · unfold XA.word_MonthOf.f XA.word_place.f
      rw [known_no h, Option.bind_some, if_neg (by decide)]; rfl
    · unfold XM.newswireref11_MonthOf.f
      exact rMonthOf_no l h _ 12 1 k (by omega) (by omega)
  · obtain ⟨l, rfl⟩ : ∃ j : Nat, l = j := ⟨l.toNat, by omega⟩
    exact ⟨_, _, monthOf_f (by omega) (by omega) s k (by omega), rMonthOf_f (by omega) (by omega) s (by omega)⟩
theorem both_weekdayOf (l : Int) (s : S) {k : Nat} (hk : 300 ≤ k) : ∃ p e : Int, XA.word_WeekdayOf.f k l (ba s) = some (p, e) ∧ XM.newswireref11_WeekdayOf.f k l (ba s) = some (p, e) := by
  by_cases h : l < 1 ∨ 3 < l
  · refine ⟨0, 110, ?_, ?_⟩
    · unfold XA.word_WeekdayOf.f XA.word_place.f
      rw [known_no h, Option.bind_some, if_neg (by decide)]; rfl
    · unfold XM.newswireref11_WeekdayOf.f
      exact rWeekdayOf_no l h _ 7 0 k (by omega) (by omega)
  · obtain ⟨l, rfl⟩ : ∃ j : Nat, l = j := ⟨l.toNat, by omega⟩
    exact ⟨_, _, weekdayOf_f (by omega) (by omega) s k (by omega), rWeekdayOf_f (by omega) (by omega) s (by omega)⟩
theorem both_is (l : Int) (s : S) (hs : s.length ≤ 100) {k : Nat} (hk : 21000 ≤ k) : ∃ b : Bool, XI.word_Is.f k l (ba s) = some b ∧ XM.newswireref11_Is.f k l (ba s) = some b := by
  by_cases h : l < 1 ∨ 3 < l
  · refine ⟨false, ?_, rIs_no l h _ (by omega)⟩
    obtain ⟨k, rfl⟩ : ∃ j, k = j + 1 := ⟨k - 1, by omega⟩
    unfold XI.word_Is.f
    rw [known_no h, Option.bind_some, if_neg (by decide), XI.word_Is.j0, if_pos (by rfl)]
  · obtain ⟨l, rfl⟩ : ∃ j : Nat, l = j := ⟨l.toNat, by omega⟩
    have h0 : 0 < l := by omega
    have h4 : l < 4 := by omega
    exact ⟨isW l s, is_f h0 h4 s (by omega) k (by omega), rIs_eq h0 h4 s ▸ rIs_f h0 h4 s hs (by omega)⟩
theorem match_l1 (x1 : Int) (s : S) (hs : s.length ≤ 100) (L : Int) (Ls : List Int) (j : Nat) (hj : j < 10) (ys : List Int) (hy : ys.length = 3) (hb : ∀ y ∈ ys, -9223372036854775808 ≤ y ∧ y ≤ 9223372036854775807) (kb : Nat) (hR : ∀ k, kb ≤ k → XM.newswirelaw11_WordMatchesReference.l0 k x1 true (ba s) Ls 2 ((j + 1 : Nat) : Int) = some true) :
    ∀ (m i k : Nat), i + m = 3 → kb + 2 * m + 22000 ≤ k → XM.newswirelaw11_WordMatchesReference.l1 k x1 true (ba s) L Ls 2 j ys 3 i = some true
  | 0, i, k + 1, hi, hk => by
    obtain ⟨k, rfl⟩ : ∃ j, k = j + 1 := ⟨k - 1, by omega⟩
    obtain ⟨p1, e1, a1, a2⟩ := both_monthOf L s (k := k + 1) (by omega)
    obtain ⟨p2, e2, b1, b2⟩ := both_weekdayOf L s (k := k + 1) (by omega)
    obtain ⟨t, c1, c2⟩ := both_is L s hs (k := k + 1) (by omega)
    have hw : wrap64 ((j : Int) + 1) = ((j + 1 : Nat) : Int) := by rw [wrap64_id (by omega) (by omega)]; rfl
    rw [XM.newswirelaw11_WordMatchesReference.l1, if_neg (by omega), a1, Option.bind_some, a2, Option.bind_some, b1, Option.bind_some, b2, Option.bind_some, if_pos rfl, if_pos rfl, if_pos rfl, if_pos rfl, c1, Option.bind_some, c2, Option.bind_some, show (t != t) = false by simp, XM.newswirelaw11_WordMatchesReference.j3, if_neg (by decide), hw]
    exact hR k (by omega)
  | m + 1, i, k + 1, hi, hk => by
    obtain ⟨k, rfl⟩ : ∃ j, k = j + 1 := ⟨k - 1, by omega⟩
    have ih := match_l1 x1 s hs L Ls j hj ys hy hb kb hR m (i + 1) k (by omega) (by omega)
    have hlt : i < ys.length := by omega
    have hg : rd ys (i : Int) = ys[i] := by unfold rd; rw [Int.toNat_natCast]; simp [List.getD_eq_getElem?_getD, hlt]
    obtain ⟨y1, y2⟩ := hb ys[i] (List.getElem_mem hlt)
    have hw : wrap64 ((i : Int) + 1) = ((i + 1 : Nat) : Int) := by rw [wrap64_id (by omega) (by omega)]; rfl
    obtain ⟨W, e0, a1, a2, a3⟩ := both_words L ys[i] (k := k + 1) (by omega)
    obtain ⟨s1, e1, b1, b2⟩ := both_month L ys[i] y1 y2 (k := k + 1) (by omega)
    obtain ⟨s2, e2, c1, c2⟩ := both_weekday L ys[i] y1 y2 (k := k + 1) (by omega)
    rw [XM.newswirelaw11_WordMatchesReference.l1, if_pos (by omega), if_pos (by omega), if_pos (by omega), hg, a1, Option.bind_some, a2, Option.bind_some, b1, Option.bind_some, b2, Option.bind_some, c1, Option.bind_some, c2, Option.bind_some, if_pos rfl]
    show Option.bind (XS.newswireref11_Same.f (k + 1) (W.map ba) (W.map ba)) _ = _
    rw [same_f _ _ (by omega) _ (by omega), Option.bind_some, decide_eq_true rfl, if_pos rfl, if_pos rfl, if_pos rfl, if_pos rfl]
    show XM.newswirelaw11_WordMatchesReference.j2 (k + 1) x1 true (ba s) L Ls 2 j ys 3 i ((ba s2).toList != (ba s2).toList) = _
    rw [show ((ba s2).toList != (ba s2).toList) = false by simp, XM.newswirelaw11_WordMatchesReference.j2, if_neg (by decide), hw]
    exact ih
theorem match_l0 (x1 : Int) (h1 : -9223372036854775808 ≤ x1) (h2 : x1 ≤ 9223372036854775807) (s : S) (hs : s.length ≤ 100) (Ls : List Int) (hL : Ls.length = 2) : ∀ (m j k : Nat), j + m = 2 → 30000 * m + 10 ≤ k → XM.newswirelaw11_WordMatchesReference.l0 k x1 true (ba s) Ls 2 j = some true
  | 0, j, k + 1, hj, hk => by rw [XM.newswirelaw11_WordMatchesReference.l0, if_neg (by omega)]
  | m + 1, j, k + 1, hj, hk => by
    have q1 := pk_lt x1 (n := 1000000) (by omega)
    have q2 := pk_lt x1 (n := 13) (by omega)
    have p1 : XS.newswirelaw11_pick.f x1 1000000 = some ((pk x1 1000000 : Nat) : Int) := pick_f x1 1000000 h1 h2 (by omega)
    have p2 : XS.newswirelaw11_pick.f x1 13 = some ((pk x1 13 : Nat) : Int) := pick_f x1 13 h1 h2 (by omega)
    rw [XM.newswirelaw11_WordMatchesReference.l0, if_pos (by omega), if_pos (by omega), if_pos (by omega), p1, Option.bind_some, p2, Option.bind_some, Option.bind_some]
    exact match_l1 x1 s hs _ Ls j (by omega) _ rfl (fun y hy => by
      simp only [List.mem_cons, List.not_mem_nil, or_false] at hy
      rcases hy with rfl | rfl | rfl <;> omega) (30000 * m + 10) (fun k hk => match_l0 x1 h1 h2 s hs Ls hL m (j + 1) k (by omega) hk) 3 0 k (by omega) (by omega)
/-- WordMatchesReference, as it is printed, returns true. -/
theorem match_law (a b : Int) (s : ByteArray) (ha : -9223372036854775808 ≤ a) (ha' : a ≤ 9223372036854775807) (hb : -9223372036854775808 ≤ b) (hb' : b ≤ 9223372036854775807) : XM.newswirelaw11_WordMatchesReference.f 70000 a b s = some true := by
  have p1 : XS.newswirelaw11_pick.f a 3 = some ((pk a 3 : Nat) : Int) := pick_f a 3 ha ha' (by omega)
  have key : ∀ t : S, XM.newswirelaw11_WordMatchesReference.f 70000 a b (ba t) = some true := by
    intro t
    have hmn : mn (((ba t).size : Nat) : Int) 60 = ((min t.length 60 : Nat) : Int) := by rw [ba_size]; unfold mn; split <;> omega
    unfold XM.newswirelaw11_WordMatchesReference.f
    rw [sane_f 70000 (by omega), Option.bind_some, if_pos (by rfl), hmn, if_pos (by omega), if_pos (by rw [ba_size]; omega), p1, Option.bind_some, Option.bind_some, Int.toNat_natCast, ba_take]
    exact match_l0 b hb hb' _ (by rw [List.length_take]; omega) _ rfl 2 0 70000 (by omega) (by omega)
  have := key s.data.toList
  rwa [ba_eta] at this
end Go.Proofs.YtjgobfbjmlacjaaDoor.XP
namespace Go.Proofs.YtjgobfbjmlacjaaDoor.Match
open Go.ChangeShapes Go.WideShapes Go.ChangeAt Go.RowKit
open Go.ChangeMaps (open_string shut_string)
theorem contract (H : Type) (enc : TypeId × Value → H) (W : World) (base : Nat) (args : Array Value) (ds gs : List (DataW H)) (before : List MemPlace)
    (hval : ∀ (j : Nat) t v, Tryd.f8.params[j]? = some t → args[j]? = some v → Value.okWide Tryd.prog W .any base t v)
    (hW : DataW.Whole enc Tryd.prog Tryd.f8.params.toList Rows.wordMatchesReferenceSpec.vars false W args.toList ds gs before) (hL : laidMetH Tryd.prog Rows.wordMatchesReferenceRow.laid W) (hS : W.ShapedOpen Tryd.prog) :
    Calls Tryd.prog 8 args W fun e W' => ∃ v, e = .returned v ∧ Rows.wordMatchesReferenceSpec.post enc Tryd.prog Tryd.f8 false true false false W args v W' := by
  have hW' := hW
  obtain ⟨p, q, hA0, hV, rfl, hfz, hnd⟩ := hW
  have hA : DataW.TrodAll enc Tryd.prog W 0 (fun _ => true) true Tryd.f8.params.toList args.toList ds p := hA0
  rw [Tryd.params8] at hA hval
  obtain ⟨v0, vs0, d0, ds0, p0, q0, hargs, rfl, rfl, h0, r0⟩ := trodAll_cons hA
  obtain ⟨v1, vs1, d1, ds1, p1, q1, rfl, rfl, rfl, h1, r1⟩ := trodAll_cons r0
  obtain ⟨v2, vs2, d2, ds2, p2, q2, rfl, rfl, rfl, h2, r2⟩ := trodAll_cons r1
  obtain ⟨rfl, rfl, rfl⟩ := trodAll_nil r2
  obtain rfl : args = #[v0, v1, v2] := by cases args; simp_all
  obtain ⟨rfl, rfl⟩ := trodVars_none hV
  obtain ⟨a0, rfl, rfl, rfl, w0⟩ := open_int Tryd.underlying3 (hval 0 _ v0 rfl rfl) h0
  obtain ⟨a1, rfl, rfl, rfl, w1⟩ := open_int Tryd.underlying3 (hval 1 _ v1 rfl rfl) h1
  obtain ⟨a2, rfl, rfl, rfl, w2⟩ := open_string Tryd.underlying9 (hval 2 _ v2 rfl rfl) h2
  clear hA0
  have hlw : LW W := lw_of hL hS
  have walk := XM.newswirelaw11_WordMatchesReference.calls 70000 a0 a1 a2 true W  hlw (XP.match_law a0 a1 a2 (wf64 w0).1 (wf64 w0).2 (wf64 w1).1 (wf64 w1).2)
  refine walk.mono fun e W' ⟨he, hb⟩ => ?_
  subst he
  exact ⟨_, rfl, _, _, _, [], _, [], hW', trodAll_mk1 (shut_bool Tryd.underlying4 _), (trodAll_cons_mk (shut_int Tryd.underlying3 w0) (trodAll_cons_mk (shut_int Tryd.underlying3 w1) (trodAll_cons_mk (shut_string Tryd.underlying9 w2) trodAll_mk0))), rfl, hb.frame _, fun h => by cases h⟩
theorem reads (os : Os) {H : Type} (enc : TypeId × Value → H) : ∃ places, DataW.whole enc Tryd.prog ((laidWorld os).forCall (fun _ _ => 0) ⟨#[], #[.int .i64 0, .int .i64 0, .string ⟨#[]⟩], []⟩).memory Tryd.f8.params.toList Rows.wordMatchesReferenceSpec.vars false (#[.int .i64 0, .int .i64 0, .string ⟨#[]⟩] : Array Value).toList 8 = some ([.lit (.int .i64 0), .lit (.int .i64 0), .lit (.string [])], [], places) :=
  ⟨[], by kernel_rfl⟩
theorem lifted (os : Os) (started : os.Started) (H : Type) (enc : TypeId × Value → H) (F : Stop.Interp) :
    ReturnsInHanded {} Tryd.checked os 8 .any ((OpenSpec.ofChange Rows.wordMatchesReferenceSpec).preRow enc Tryd.prog Tryd.f8 Rows.wordMatchesReferenceRow.domain false Rows.wordMatchesReferenceRow.laid) (((OpenSpec.ofChange Rows.wordMatchesReferenceSpec).at F).post enc Tryd.prog Tryd.f8 false true false false) := by
  obtain ⟨places, hx⟩ := reads os enc
  refine returnsInHanded_of_row (C := Tryd.checked) (s := OpenSpec.ofChange Rows.wordMatchesReferenceSpec) own started (by kernel_rfl) Tryd.func8
    (witness_row_atRef (enc := enc) (C := Tryd.checked) false (laidWorld os) #[.int .i64 0, .int .i64 0, .string ⟨#[]⟩] rfl (by kernel_rfl) (by kernel_rfl) (by kernel_rfl)
      (OpenSpec.preRow_of_cond 8 hx (by kernel_rfl) (fun k hk => by cases hk) (by kernel_rfl) (laid_met os _))) ?_
  intro W base args ds gs before hval hW _ _ _ hL hS _
  exact contract H enc W base args ds gs before hval hW hL hS
theorem said : Rows.WordMatchesReferenceSaid :=
  OpenClaim.holds_of_cond 8 Tryd.f8 rfl rfl rfl rfl rfl rfl rfl ⟨rfl, rfl, rfl, rfl, rfl⟩ rfl rfl rfl rfl rfl (by kernel_rfl) Tryd.func8 (by kernel_rfl)
    (of_decide_eq_true (by kernel_rfl)) (by unfold Func.isWrapper; first | (rw [if_pos (by decide +kernel)]; kernel_rfl) | (rw [if_neg (by decide +kernel)]; exact ⟨rfl, rfl⟩))
    (fun os started H enc _ F => by rw [OpenClaim.pre_eq_preRow]; exact lifted os started H enc F)
theorem plain (f : FuncId) (fn : Func) (hf : Tryd.pinned.checked.prog.funcNamed "newswire/newswirelaw11.WordMatchesReference" = some f) (hfn : Tryd.pinned.checked.prog.funcs[f]? = some fn) :
    false = Tryd.pinned.checked.prog.looks [] ∧ ∀ (j : Nat) t, fn.params[j]? = some t → Tryd.pinned.checked.prog.wantsStandIn t = false := by
  obtain rfl : f = 8 := Option.some.inj ((show Tryd.prog.funcNamed "newswire/newswirelaw11.WordMatchesReference" = some 8 by kernel_rfl).symm.trans hf) |>.symm
  obtain rfl : fn = Tryd.f8 := (Option.some.inj (Tryd.func8.symm.trans hfn)).symm
  refine ⟨by kernel_rfl, fun j t ht => ?_⟩
  rw [Tryd.params8] at ht
  have hm := Array.mem_of_getElem? ht
  have hs : t = 3 ∨ t = 9 := by simpa using hm
  rcases hs with rfl | rfl
  · exact (show Tryd.prog.wantsStandIn 3 = false by kernel_rfl)
  · exact (show Tryd.prog.wantsStandIn 9 = false by kernel_rfl)
/-- The card of WordMatchesReference. -/
theorem card : Rows.WordMatchesReferenceCardSaid :=
  Claim7.holds_tied_plain_at .later [] _ _ _ _ said (fun _ h => by cases h) (by kernel_rfl) (fun _ h => by cases h) wordMatchesReference_row_tie rfl ⟨rfl, rfl⟩ (by kernel_rfl) rfl plain (by kernel_rfl)
end Go.Proofs.YtjgobfbjmlacjaaDoor.Match
#print axioms Go.Proofs.YtjgobfbjmlacjaaDoor.Match.card
