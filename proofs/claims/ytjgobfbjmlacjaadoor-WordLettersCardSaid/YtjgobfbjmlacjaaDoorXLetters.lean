/-
  WordLetters returns true for every language, number, word, byte and place, and leaves its arguments as they were. Its only conditions are the row's own: the three package-level tables hold what their initialisers lay.
-/
import Derived.Test.YtjgobfbjmlacjaaDoorXPh
import Derived.Test.YtjgobfbjmlacjaaDoorXE
import Derived.Test.YtjgobfbjmlacjaaDoorXArgs
import Derived.Test.YtjgobfbjmlacjaaDoorCards
import Derived.Test.YtjgobfbjmlacjaaDoorTie
import Derived.ProofKit
import Derived.Below
import Derived.Carry
set_option maxRecDepth 100000
namespace Go.Proofs.YtjgobfbjmlacjaaDoor.XP
open Go.RowKit Go.Proofs.YtjgobfbjmlacjaaDoorW.PrintWords Go.Proofs.YtjgobfbjmlacjaaDoorW.PrintLast Go.Proofs.YtjgobfbjmlacjaaDoorW.PrintMore
theorem letters_l1 {l : Nat} (h0 : 0 < l) (h4 : l < 4) (Y : List S) (hY : Y.length ≤ 100) (hs : ∀ s ∈ Y, s.length ≤ 2000) : ∀ (m i k : Nat), i + m = Y.length → m + 4300 ≤ k → XE.newswirelaw11_WordLetters.l1 k true l (Y.map ba) (Y.length : Int) i = some true
  | 0, i, k + 1, hi, hk => by rw [XE.newswirelaw11_WordLetters.l1, if_neg (by omega)]
  | m + 1, i, k + 1, hi, hk => by
    have hlt : i < Y.length := by omega
    have hg : Y.getD i [] = Y[i] := by simp [List.getD_eq_getElem?_getD, hlt]
    have hle := hs Y[i] (List.getElem_mem hlt)
    have ih := letters_l1 h0 h4 Y hY hs m (i + 1) k (by omega) (by omega)
    rw [XE.newswirelaw11_WordLetters.l1, if_pos (by omega), if_pos (by omega), if_pos (by rw [List.length_map]; omega), rd_map, hg, is_f h0 h4 _ (by omega) _ (by omega), Option.bind_some, wrap64_id (by omega) (by omega), show ((i : Int) + 1) = ((i + 1 : Nat) : Int) from rfl, ih]
    by_cases c : isW l Y[i] = true
    · rw [if_pos c, plain_f _ (by omega) _ (by omega), Option.bind_some, if_pos (isW_plain h0 h4 c)]
    · rw [if_neg c]
theorem letters_l0 {l : Nat} (h0 : 0 < l) (h4 : l < 4) (W : List S) (hW : W.length ≤ 9) (h1 : 1 ≤ W.length) (hs : ∀ s ∈ W, s.length ≤ 600 ∧ isW l s = true ∧ s ≠ []) (s : S) (b a : Int) (hb : 0 ≤ b) (hb' : b ≤ 255) (ha : -9223372036854775808 ≤ a) (ha' : a ≤ 9223372036854775807) : ∀ (m i k : Nat), i + m = W.length → 2 * m + 5000 ≤ k →
    XE.newswirelaw11_WordLetters.l0 k (ba s) b a true l (W.map ba) i = some true
  | 0, i, k + 1, hi, hk => by
    have hmn : mn (((ba s).size : Nat) : Int) 60 = ((min s.length 60 : Nat) : Int) := by rw [ba_size]; unfold mn; split <;> omega
    have hp := pk_lt a (n := W.length) h1
    have hg : W.getD (pk a W.length) [] = W[pk a W.length] := by simp [List.getD_eq_getElem?_getD, hp]
    have hw := (hs W[pk a W.length] (List.getElem_mem hp)).1
    have hp2 := pk_lt a (n := W[pk a W.length].length + 1) (by omega)
    have p1 : XS.newswirelaw11_pick.f a ((W.map ba).length : Int) = some ((pk a W.length : Nat) : Int) := by rw [List.length_map]; exact pick_f a W.length ha ha' h1
    rw [XE.newswirelaw11_WordLetters.l0, if_neg (by rw [List.length_map]; omega), p1, Option.bind_some, if_pos (by omega), if_pos (by rw [List.length_map]; omega), rd_map, hg, ba_size, wrap64_id (by omega) (by omega)]
    generalize W[pk a W.length] = w at *
    have p2 : XS.newswirelaw11_pick.f a ((w.length : Int) + 1) = some ((pk a (w.length + 1) : Nat) : Int) := pick_f a (w.length + 1) ha ha' (by omega)
    rw [p2, Option.bind_some, hmn, if_pos (by omega), if_pos (by rw [ba_size]; omega), if_pos (by omega), if_pos (by omega), Option.bind_some]
    have e1 : strOfNums [b] = ba [b.toNat.toUInt8] := by simp [strOfNums, ba]
    have e2 : (ba w).extract ((pk a (w.length + 1) : Nat) : Int).toNat w.length = ba (w.drop (pk a (w.length + 1))) := by rw [Int.toNat_natCast]; exact ba_drop w _ (by simp)
    rw [e1, e2, Int.toNat_natCast, Int.toNat_natCast, ba_take, ba_take, ba_size, ba_size, ba_app, ba_size, ba_size, ba_app]
    have l1 : (w.take (pk a (w.length + 1))).length ≤ 600 := by rw [List.length_take]; omega
    have l2 : (w.drop (pk a (w.length + 1))).length ≤ 600 := by rw [List.length_drop]; omega
    rw [if_pos (by simp only [List.length_cons, List.length_nil]; omega), if_pos (by simp only [List.length_append, List.length_cons, List.length_nil]; omega), Option.bind_some]
    have := letters_l1 h0 h4 [s.take (min s.length 60), w.take (pk a (w.length + 1)) ++ [b.toNat.toUInt8] ++ w.drop (pk a (w.length + 1))] (by simp) (fun t ht => by
      rcases List.mem_cons.mp ht with rfl | ht
      · rw [List.length_take]; omega
      · obtain rfl := List.mem_singleton.mp ht
        simp only [List.length_append, List.length_cons, List.length_nil]; omega) 2 0 k (by simp) (by omega)
    exact this
  | m + 1, i, k + 1, hi, hk => by
    have hlt : i < W.length := by omega
    have hg : W.getD i [] = W[i] := by simp [List.getD_eq_getElem?_getD, hlt]
    obtain ⟨hle, hw, hne⟩ := hs W[i] (List.getElem_mem hlt)
    obtain ⟨k, rfl⟩ : ∃ j, k = j + 1 := ⟨k - 1, by omega⟩
    have ih := letters_l0 h0 h4 W hW h1 hs s b a hb hb' ha ha' m (i + 1) k (by omega) (by omega)
    have e : ((ba W[i]).toList == ([] : List UInt8)) = false := by rw [ba_toList, beq_eq_false_iff_ne]; exact hne
    rw [XE.newswirelaw11_WordLetters.l0, if_pos (by rw [List.length_map]; omega), if_pos (by omega), rd_map, hg, is_f h0 h4 _ (by omega) _ (by omega), Option.bind_some, if_pos hw, plain_f _ (by omega) _ (by omega), Option.bind_some, if_pos (isW_plain h0 h4 hw), e, XE.newswirelaw11_WordLetters.j2, if_neg (by decide), wrap64_id (by omega) (by omega)]
    exact ih
/-- WordLetters, as it is printed, returns true. -/
theorem letters_law (a b : Int) (s : ByteArray) (c d : Int) (ha : -9223372036854775808 ≤ a) (ha' : a ≤ 9223372036854775807) (hb : -9223372036854775808 ≤ b) (hb' : b ≤ 9223372036854775807) (hc : 0 ≤ c) (hc' : c ≤ 255) (hd : -9223372036854775808 ≤ d) (hd' : d ≤ 9223372036854775807) :
    XE.newswirelaw11_WordLetters.f 7000 a b s c d = some true := by
  obtain ⟨l0, l4⟩ := lang_pick a
  have hx := pk_lt b (n := 1000000) (by omega)
  have p1 : XS.newswirelaw11_pick.f a 3 = some ((pk a 3 : Nat) : Int) := pick_f a 3 ha ha' (by omega)
  have p2 : XS.newswirelaw11_pick.f b 1000000 = some ((pk b 1000000 : Nat) : Int) := pick_f b 1000000 hb hb' (by omega)
  unfold XE.newswirelaw11_WordLetters.f
  rw [sane_f 7000 (by omega), Option.bind_some, if_pos (by rfl), p1, Option.bind_some, p2, Option.bind_some, wrap_pick a]
  generalize 1 + pk a 3 = l at *
  generalize pk b 1000000 = x at *
  rw [words_f l0 l4 6998 x hx, Option.bind_some, if_pos (by rfl)]
  obtain ⟨w1, w2⟩ := words_pos l0 l4 hx
  have wl : 1 ≤ (words l x).length := by cases hw : words l x with | nil => exact absurd hw w1 | cons x r => simp
  have ht := tot_words l0 l4 hx
  have hj : XE.newswirelaw11_WordLetters.j0 7000 s c d true l ((words l x).map ba) false = some true := by
    rw [XE.newswirelaw11_WordLetters.j0, if_neg (by decide)]
    have := letters_l0 l0 l4 (words l x) w2 wl (fun t ht => ⟨word_len l0 l4 hx t ht, words_isW l0 l4 hx t ht⟩) s.data.toList c d hc hc' hd hd' (words l x).length 0 6999 (by omega) (by omega)
    rw [ba_eta] at this
    exact this
  show (if (((words l x).map ba).length : Int) < 1 then _ else _) = _
  rw [List.length_map, if_neg (by omega), decide_eq_false (by omega)]
  exact hj
end Go.Proofs.YtjgobfbjmlacjaaDoor.XP
namespace Go.Proofs.YtjgobfbjmlacjaaDoor.Letters
open Go.ChangeShapes Go.WideShapes Go.ChangeAt Go.RowKit
open Go.ChangeMaps (open_string shut_string)
theorem contract (H : Type) (enc : TypeId × Value → H) (W : World) (base : Nat) (args : Array Value) (ds gs : List (DataW H)) (before : List MemPlace)
    (hval : ∀ (j : Nat) t v, Tryd.f6.params[j]? = some t → args[j]? = some v → Value.okWide Tryd.prog W .any base t v)
    (hW : DataW.Whole enc Tryd.prog Tryd.f6.params.toList Rows.wordLettersSpec.vars false W args.toList ds gs before) (hL : laidMetH Tryd.prog Rows.wordLettersRow.laid W) (hS : W.ShapedOpen Tryd.prog) :
    Calls Tryd.prog 6 args W fun e W' => ∃ v, e = .returned v ∧ Rows.wordLettersSpec.post enc Tryd.prog Tryd.f6 false true false false W args v W' := by
  have hW' := hW
  obtain ⟨p, q, hA0, hV, rfl, hfz, hnd⟩ := hW
  have hA : DataW.TrodAll enc Tryd.prog W 0 (fun _ => true) true Tryd.f6.params.toList args.toList ds p := hA0
  rw [Tryd.params6] at hA hval
  obtain ⟨v0, vs0, d0, ds0, p0, q0, hargs, rfl, rfl, h0, r0⟩ := trodAll_cons hA
  obtain ⟨v1, vs1, d1, ds1, p1, q1, rfl, rfl, rfl, h1, r1⟩ := trodAll_cons r0
  obtain ⟨v2, vs2, d2, ds2, p2, q2, rfl, rfl, rfl, h2, r2⟩ := trodAll_cons r1
  obtain ⟨v3, vs3, d3, ds3, p3, q3, rfl, rfl, rfl, h3, r3⟩ := trodAll_cons r2
  obtain ⟨v4, vs4, d4, ds4, p4, q4, rfl, rfl, rfl, h4, r4⟩ := trodAll_cons r3
  obtain ⟨rfl, rfl, rfl⟩ := trodAll_nil r4
  obtain rfl : args = #[v0, v1, v2, v3, v4] := by cases args; simp_all
  obtain ⟨rfl, rfl⟩ := trodVars_none hV
  obtain ⟨a0, rfl, rfl, rfl, w0⟩ := open_int Tryd.underlying3 (hval 0 _ v0 rfl rfl) h0
  obtain ⟨a1, rfl, rfl, rfl, w1⟩ := open_int Tryd.underlying3 (hval 1 _ v1 rfl rfl) h1
  obtain ⟨a2, rfl, rfl, rfl, w2⟩ := open_string Tryd.underlying9 (hval 2 _ v2 rfl rfl) h2
  obtain ⟨a3, rfl, rfl, rfl, w3⟩ := open_int Tryd.underlying5 (hval 3 _ v3 rfl rfl) h3
  obtain ⟨a4, rfl, rfl, rfl, w4⟩ := open_int Tryd.underlying3 (hval 4 _ v4 rfl rfl) h4
  clear hA0
  have hlw : LW W := lw_of hL hS
  have walk := XE.newswirelaw11_WordLetters.calls 7000 a0 a1 a2 a3 a4 true W  hlw (XP.letters_law a0 a1 a2 a3 a4 (wf64 w0).1 (wf64 w0).2 (wf64 w1).1 (wf64 w1).2 (wf8 w3).1 (wf8 w3).2 (wf64 w4).1 (wf64 w4).2)
  refine walk.mono fun e W' ⟨he, hb⟩ => ?_
  subst he
  exact ⟨_, rfl, _, _, _, [], _, [], hW', trodAll_mk1 (shut_bool Tryd.underlying4 _), (trodAll_cons_mk (shut_int Tryd.underlying3 w0) (trodAll_cons_mk (shut_int Tryd.underlying3 w1) (trodAll_cons_mk (shut_string Tryd.underlying9 w2) (trodAll_cons_mk (shut_int Tryd.underlying5 w3) (trodAll_cons_mk (shut_int Tryd.underlying3 w4) trodAll_mk0))))), rfl, hb.frame _, fun h => by cases h⟩
theorem reads (os : Os) {H : Type} (enc : TypeId × Value → H) : ∃ places, DataW.whole enc Tryd.prog ((laidWorld os).forCall (fun _ _ => 0) ⟨#[], #[.int .i64 0, .int .i64 0, .string ⟨#[]⟩, .int .u8 0, .int .i64 0], []⟩).memory Tryd.f6.params.toList Rows.wordLettersSpec.vars false (#[.int .i64 0, .int .i64 0, .string ⟨#[]⟩, .int .u8 0, .int .i64 0] : Array Value).toList 8 = some ([.lit (.int .i64 0), .lit (.int .i64 0), .lit (.string []), .lit (.int .u8 0), .lit (.int .i64 0)], [], places) :=
  ⟨[], by kernel_rfl⟩
theorem lifted (os : Os) (started : os.Started) (H : Type) (enc : TypeId × Value → H) (F : Stop.Interp) :
    ReturnsInHanded {} Tryd.checked os 6 .any ((OpenSpec.ofChange Rows.wordLettersSpec).preRow enc Tryd.prog Tryd.f6 Rows.wordLettersRow.domain false Rows.wordLettersRow.laid) (((OpenSpec.ofChange Rows.wordLettersSpec).at F).post enc Tryd.prog Tryd.f6 false true false false) := by
  obtain ⟨places, hx⟩ := reads os enc
  refine returnsInHanded_of_row (C := Tryd.checked) (s := OpenSpec.ofChange Rows.wordLettersSpec) own started (by kernel_rfl) Tryd.func6
    (witness_row_atRef (enc := enc) (C := Tryd.checked) false (laidWorld os) #[.int .i64 0, .int .i64 0, .string ⟨#[]⟩, .int .u8 0, .int .i64 0] rfl (by kernel_rfl) (by kernel_rfl) (by kernel_rfl)
      (OpenSpec.preRow_of_cond 8 hx (by kernel_rfl) (fun k hk => by cases hk) (by kernel_rfl) (laid_met os _))) ?_
  intro W base args ds gs before hval hW _ _ _ hL hS _
  exact contract H enc W base args ds gs before hval hW hL hS
theorem said : Rows.WordLettersSaid :=
  OpenClaim.holds_of_cond 6 Tryd.f6 rfl rfl rfl rfl rfl rfl rfl ⟨rfl, rfl, rfl, rfl, rfl⟩ rfl rfl rfl rfl rfl (by kernel_rfl) Tryd.func6 (by kernel_rfl)
    (of_decide_eq_true (by kernel_rfl)) (by unfold Func.isWrapper; first | (rw [if_pos (by decide +kernel)]; kernel_rfl) | (rw [if_neg (by decide +kernel)]; exact ⟨rfl, rfl⟩))
    (fun os started H enc _ F => by rw [OpenClaim.pre_eq_preRow]; exact lifted os started H enc F)
theorem plain (f : FuncId) (fn : Func) (hf : Tryd.pinned.checked.prog.funcNamed "newswire/newswirelaw11.WordLetters" = some f) (hfn : Tryd.pinned.checked.prog.funcs[f]? = some fn) :
    false = Tryd.pinned.checked.prog.looks [] ∧ ∀ (j : Nat) t, fn.params[j]? = some t → Tryd.pinned.checked.prog.wantsStandIn t = false := by
  obtain rfl : f = 6 := Option.some.inj ((show Tryd.prog.funcNamed "newswire/newswirelaw11.WordLetters" = some 6 by kernel_rfl).symm.trans hf) |>.symm
  obtain rfl : fn = Tryd.f6 := (Option.some.inj (Tryd.func6.symm.trans hfn)).symm
  refine ⟨by kernel_rfl, fun j t ht => ?_⟩
  rw [Tryd.params6] at ht
  have hm := Array.mem_of_getElem? ht
  have hs : t = 3 ∨ t = 9 ∨ t = 5 ∨ t = 3 := by simpa using hm
  rcases hs with rfl | rfl | rfl | rfl
  · exact (show Tryd.prog.wantsStandIn 3 = false by kernel_rfl)
  · exact (show Tryd.prog.wantsStandIn 9 = false by kernel_rfl)
  · exact (show Tryd.prog.wantsStandIn 5 = false by kernel_rfl)
  · exact (show Tryd.prog.wantsStandIn 3 = false by kernel_rfl)
/-- The card of WordLetters. -/
theorem card : Rows.WordLettersCardSaid :=
  Claim7.holds_tied_plain_at .later [] _ _ _ _ said (fun _ h => by cases h) (by kernel_rfl) (fun _ h => by cases h) wordLetters_row_tie rfl ⟨rfl, rfl⟩ (by kernel_rfl) rfl plain (by kernel_rfl)
end Go.Proofs.YtjgobfbjmlacjaaDoor.Letters
#print axioms Go.Proofs.YtjgobfbjmlacjaaDoor.Letters.card
