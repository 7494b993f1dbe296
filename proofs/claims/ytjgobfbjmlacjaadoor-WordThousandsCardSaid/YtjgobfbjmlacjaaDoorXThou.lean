/-
  WordThousands returns true for every language and every two numbers, and leaves its arguments as they were. Its only conditions are the row's own: the three package-level tables hold what their initialisers lay.
-/
import Derived.Test.YtjgobfbjmlacjaaDoorXPf
import Derived.Test.YtjgobfbjmlacjaaDoorXH
import Derived.Test.YtjgobfbjmlacjaaDoorXLaid
set_option maxRecDepth 100000
namespace Go.Proofs.YtjgobfbjmlacjaaDoor.XP
open Go.RowKit Go.Proofs.YtjgobfbjmlacjaaDoorW.PrintWords Go.Proofs.YtjgobfbjmlacjaaDoorW.PrintLast Go.Proofs.YtjgobfbjmlacjaaDoorW.PrintMore
/-- WordThousands, as it is printed, returns true. -/
theorem thousands_law (a b c : Int) (ha : -9223372036854775808 ≤ a) (ha' : a ≤ 9223372036854775807) (hb : -9223372036854775808 ≤ b) (hb' : b ≤ 9223372036854775807) (hc : -9223372036854775808 ≤ c) (hc' : c ≤ 9223372036854775807) :
    XH.newswirelaw11_WordThousands.f 7000 a b c = some true := by
  obtain ⟨l0, l4⟩ := lang_pick a
  have hx := pk_lt b (n := 1000000) (by omega)
  have hy := pk_lt c (n := 1000000) (by omega)
  have p1 : XS.newswirelaw11_pick.f a 3 = some ((pk a 3 : Nat) : Int) := pick_f a 3 ha ha' (by omega)
  have p2 : XS.newswirelaw11_pick.f b 1000000 = some ((pk b 1000000 : Nat) : Int) := pick_f b 1000000 hb hb' (by omega)
  have p3 : XS.newswirelaw11_pick.f c 1000000 = some ((pk c 1000000 : Nat) : Int) := pick_f c 1000000 hc hc' (by omega)
  unfold XH.newswirelaw11_WordThousands.f
  rw [sane_f 7000 (by omega), Option.bind_some, if_pos (by rfl), p1, Option.bind_some, p2, Option.bind_some, p3, Option.bind_some, wrap_pick a]
  generalize 1 + pk a 3 = l at *
  generalize pk b 1000000 = x at *
  generalize pk c 1000000 = y at *
  have hm : Int.tmod (x : Int) 1000 = ((x % 1000 : Nat) : Int) := tmod_n x 1000
  have hd : wrap64 ((x : Int) - Int.tmod (x : Int) 1000) = ((x - x % 1000 : Nat) : Int) := by rw [hm, wrap64_id (by omega) (by omega)]; omega
  rw [hd, hm, words_f l0 l4 6998 x hx, Option.bind_some, words_f l0 l4 6998 y hy, Option.bind_some, words_f l0 l4 6998 (x - x % 1000) (by omega), Option.bind_some, words_f l0 l4 6998 (x % 1000) (by omega), Option.bind_some]
  have w1 := words_len l0 l4 hx
  have w2 := words_len l0 l4 hy
  have w3 := words_len l0 l4 (n := x - x % 1000) (by omega)
  have w4 := words_len l0 l4 (n := x % 1000) (by omega)
  rw [if_pos (by rfl), if_pos (by rfl), if_pos (by rfl), if_pos (by rfl)]
  show Option.bind (XS.newswireref11_Same.f 7000 ((words l x).map ba) ((words l y).map ba)) _ = _
  rw [same_f _ _ (by omega) _ (by omega), Option.bind_some]
  have hb : (decide (words l x = words l y) != ((x : Int) == (y : Int))) = false := by
    rw [bne_eq_false_iff_eq, Bool.eq_iff_iff, decide_eq_true_iff, beq_iff_eq]
    exact ⟨fun h => by rw [words_inj l0 l4 hx hy h], fun h => by rw [Int.ofNat.inj h]⟩
  rw [hb, XH.newswirelaw11_WordThousands.j0, if_neg (by decide), if_pos (by rfl)]
  by_cases h1 : x < 1000
  · rw [if_pos (by omega)]
  rw [if_neg (by omega), hm]
  by_cases h2 : x % 1000 = 0
  · rw [if_pos (by omega)]
  rw [if_neg (by omega), Option.bind_some]
  show (if ([] : List ByteArray).length + ((words l (x - x % 1000)).map ba).length < 8796093022208 then _ else _) = _
  rw [if_pos (by simp only [List.length_nil, List.length_map]; omega), Option.bind_some]
  show (if (([] : List ByteArray) ++ (words l (x - x % 1000)).map ba).length + ((words l (x % 1000)).map ba).length < 8796093022208 then _ else _) = _
  rw [if_pos (by simp only [List.nil_append, List.length_map]; omega), List.nil_append, ← List.map_append]
  show Option.bind (XS.newswireref11_Same.f 6999 ((words l x).map ba) ((words l (x - x % 1000) ++ words l (x % 1000)).map ba)) _ = _
  rw [same_f _ _ (by omega) _ (by omega), Option.bind_some, decide_eq_true (words_split (by omega) h2)]
end Go.Proofs.YtjgobfbjmlacjaaDoor.XP
namespace Go.Proofs.YtjgobfbjmlacjaaDoor.Thou
open Go.ChangeShapes Go.WideShapes Go.ChangeAt Go.RowKit
theorem contract (H : Type) (enc : TypeId × Value → H) (W : World) (base : Nat) (args : Array Value) (ds gs : List (DataW H)) (before : List MemPlace)
    (hval : ∀ (j : Nat) t v, Tryd.f7.params[j]? = some t → args[j]? = some v → Value.okWide Tryd.prog W .any base t v)
    (hW : DataW.Whole enc Tryd.prog Tryd.f7.params.toList Rows.wordThousandsSpec.vars false W args.toList ds gs before) (hL : laidMetH Tryd.prog Rows.wordThousandsRow.laid W) (hS : W.ShapedOpen Tryd.prog) :
    Calls Tryd.prog 7 args W fun e W' => ∃ v, e = .returned v ∧ Rows.wordThousandsSpec.post enc Tryd.prog Tryd.f7 false true false false W args v W' := by
  have hW' := hW
  obtain ⟨p, q, hA0, hV, rfl, hfz, hnd⟩ := hW
  have hA : DataW.TrodAll enc Tryd.prog W 0 (fun _ => true) true Tryd.f7.params.toList args.toList ds p := hA0
  rw [Tryd.params7] at hA hval
  obtain ⟨v0, vs0, d0, ds0, p0, q0, hargs, rfl, rfl, h0, r0⟩ := trodAll_cons hA
  obtain ⟨v1, vs1, d1, ds1, p1, q1, rfl, rfl, rfl, h1, r1⟩ := trodAll_cons r0
  obtain ⟨v2, vs2, d2, ds2, p2, q2, rfl, rfl, rfl, h2, r2⟩ := trodAll_cons r1
  obtain ⟨rfl, rfl, rfl⟩ := trodAll_nil r2
  obtain rfl : args = #[v0, v1, v2] := by cases args; simp_all
  obtain ⟨rfl, rfl⟩ := trodVars_none hV
  obtain ⟨a, rfl, rfl, rfl, wa⟩ := open_int Tryd.underlying3 (hval 0 _ v0 rfl rfl) h0
  obtain ⟨b, rfl, rfl, rfl, wb⟩ := open_int Tryd.underlying3 (hval 1 _ v1 rfl rfl) h1
  obtain ⟨c, rfl, rfl, rfl, wc⟩ := open_int Tryd.underlying3 (hval 2 _ v2 rfl rfl) h2
  clear hA0
  simp only [List.append_nil] at hW'
  have hlw : LW W := lw_of hL hS
  have r64 : ∀ {n : Int}, (Lit.int .i64 n).wf = true → -9223372036854775808 ≤ n ∧ n ≤ 9223372036854775807 := by
    intro n h
    simpa [Lit.wf, IntKind.min, IntKind.max, IntKind.signed, IntKind.bits] using h
  have walk := XH.newswirelaw11_WordThousands.calls 7000 a b c true W hlw (XP.thousands_law a b c (r64 wa).1 (r64 wa).2 (r64 wb).1 (r64 wb).2 (r64 wc).1 (r64 wc).2)
  refine walk.mono fun e W' ⟨he, hb⟩ => ?_
  subst he
  exact ⟨_, rfl, _, _, _, [], _, [], hW', trodAll_mk1 (shut_bool Tryd.underlying4 _), trodAll_mk3 (shut_int Tryd.underlying3 wa) (shut_int Tryd.underlying3 wb) (shut_int Tryd.underlying3 wc), rfl, hb.frame _, fun h => by cases h⟩
theorem reads (os : Os) {H : Type} (enc : TypeId × Value → H) : ∃ places, DataW.whole enc Tryd.prog ((laidWorld os).forCall (fun _ _ => 0) ⟨#[], #[.int .i64 0, .int .i64 0, .int .i64 0], []⟩).memory Tryd.f7.params.toList Rows.wordThousandsSpec.vars false #[Value.int .i64 0, Value.int .i64 0, Value.int .i64 0].toList 8 = some ([.lit (.int .i64 0), .lit (.int .i64 0), .lit (.int .i64 0)], [], places) :=
  ⟨[], by kernel_rfl⟩
theorem lifted (os : Os) (started : os.Started) (H : Type) (enc : TypeId × Value → H) (F : Stop.Interp) :
    ReturnsInHanded {} Tryd.checked os 7 .any ((OpenSpec.ofChange Rows.wordThousandsSpec).preRow enc Tryd.prog Tryd.f7 Rows.wordThousandsRow.domain false Rows.wordThousandsRow.laid) (((OpenSpec.ofChange Rows.wordThousandsSpec).at F).post enc Tryd.prog Tryd.f7 false true false false) := by
  obtain ⟨places, hx⟩ := reads os enc
  refine returnsInHanded_of_row (C := Tryd.checked) (s := OpenSpec.ofChange Rows.wordThousandsSpec) own started (by kernel_rfl) Tryd.func7
    (witness_row_atRef (enc := enc) (C := Tryd.checked) false (laidWorld os) #[.int .i64 0, .int .i64 0, .int .i64 0] rfl (by kernel_rfl) (by kernel_rfl) (by kernel_rfl)
      (OpenSpec.preRow_of_cond 8 hx (by kernel_rfl) (fun k hk => by cases hk) (by kernel_rfl) (laid_met os _))) ?_
  intro W base args ds gs before hval hW _ _ _ hL hS _
  exact contract H enc W base args ds gs before hval hW hL hS
theorem said : Rows.WordThousandsSaid :=
  OpenClaim.holds_of_cond 7 Tryd.f7 rfl rfl rfl rfl rfl rfl rfl ⟨rfl, rfl, rfl, rfl, rfl⟩ rfl rfl rfl rfl rfl (by kernel_rfl) Tryd.func7 (by kernel_rfl)
    (of_decide_eq_true (by kernel_rfl)) (by unfold Func.isWrapper; first | (rw [if_pos (by decide +kernel)]; kernel_rfl) | (rw [if_neg (by decide +kernel)]; exact ⟨rfl, rfl⟩))
    (fun os started H enc _ F => by rw [OpenClaim.pre_eq_preRow]; exact lifted os started H enc F)
theorem plain (f : FuncId) (fn : Func) (hf : Tryd.pinned.checked.prog.funcNamed "newswire/newswirelaw11.WordThousands" = some f) (hfn : Tryd.pinned.checked.prog.funcs[f]? = some fn) :
    false = Tryd.pinned.checked.prog.looks [] ∧ ∀ (j : Nat) t, fn.params[j]? = some t → Tryd.pinned.checked.prog.wantsStandIn t = false := by
  obtain rfl : f = 7 := Option.some.inj ((show Tryd.prog.funcNamed "newswire/newswirelaw11.WordThousands" = some 7 by kernel_rfl).symm.trans hf) |>.symm
  obtain rfl : fn = Tryd.f7 := (Option.some.inj (Tryd.func7.symm.trans hfn)).symm
  refine ⟨by kernel_rfl, fun j t ht => ?_⟩
  rw [Tryd.params7] at ht
  obtain rfl : t = 3 := by simpa using Array.mem_of_getElem? ht
  exact (show Tryd.prog.wantsStandIn 3 = false by kernel_rfl)
/-- The card of WordThousands. -/
theorem card : Rows.WordThousandsCardSaid :=
  Claim7.holds_tied_plain_at .later [] _ _ _ _ said (fun _ h => by cases h) (by kernel_rfl) (fun _ h => by cases h) wordThousands_row_tie rfl ⟨rfl, rfl⟩ (by kernel_rfl) rfl plain (by kernel_rfl)
end Go.Proofs.YtjgobfbjmlacjaaDoor.Thou
#print axioms Go.Proofs.YtjgobfbjmlacjaaDoor.Thou.card
