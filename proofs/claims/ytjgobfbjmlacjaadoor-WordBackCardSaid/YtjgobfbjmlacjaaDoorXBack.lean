/-
  WordBack returns true for every language, every number and every list of words, and leaves its arguments as they were. Its only conditions are the row's own: the three package-level tables hold what their initialisers lay.
-/
import Derived.Test.YtjgobfbjmlacjaaDoorXPg
import Derived.Test.YtjgobfbjmlacjaaDoorXB
import Derived.Test.YtjgobfbjmlacjaaDoorXArgs
import Derived.Test.YtjgobfbjmlacjaaDoorCards
import Derived.Test.YtjgobfbjmlacjaaDoorTie
import Derived.ProofKit
import Derived.Below
import Derived.Carry
set_option maxRecDepth 100000
namespace Go.Proofs.YtjgobfbjmlacjaaDoor.XP
open Go.RowKit Go.Proofs.YtjgobfbjmlacjaaDoorW.PrintWords Go.Proofs.YtjgobfbjmlacjaaDoorW.PrintLast Go.Proofs.YtjgobfbjmlacjaaDoorW.PrintMore
/-- WordBack, as it is printed, returns true. -/
theorem back_law0 (a b : Int) (L : List S) (ha : -9223372036854775808 ≤ a) (ha' : a ≤ 9223372036854775807) (hb : -9223372036854775808 ≤ b) (hb' : b ≤ 9223372036854775807) :
    XB.newswirelaw11_WordBack.f 7000 a b (L.map ba) = some true := by
  obtain ⟨l0, l4⟩ := lang_pick a
  have hx := pk_lt b (n := 1000000) (by omega)
  have p1 : XS.newswirelaw11_pick.f a 3 = some ((pk a 3 : Nat) : Int) := pick_f a 3 ha ha' (by omega)
  have p2 : XS.newswirelaw11_pick.f b 1000000 = some ((pk b 1000000 : Nat) : Int) := pick_f b 1000000 hb hb' (by omega)
  unfold XB.newswirelaw11_WordBack.f
  rw [sane_f 7000 (by omega), Option.bind_some, if_pos (by rfl), p1, Option.bind_some, p2, Option.bind_some, wrap_pick a]
  generalize 1 + pk a 3 = l at *
  generalize pk b 1000000 = x at *
  rw [words_f l0 l4 6998 x hx, Option.bind_some]
  show Option.bind (XA.word_Number.f 7000 l ((words l x).map ba)) _ = _
  rw [number_f l0 l4 _ (by have := tot_words l0 l4 hx; omega) _ (by omega), number_words l0 l4 hx, Option.bind_some, few_f L _ (by omega), Option.bind_some, number_f l0 l4 _ (by have := (few_le L).2; omega) _ (by omega), Option.bind_some, if_pos (by rfl), if_pos (by rfl)]
  have hne : (((encN (some x)).1 : Int) != (x : Int)) = false := by simp [encN]
  rw [hne, XB.newswirelaw11_WordBack.j0, if_neg (by decide)]
  cases hn : number l (few L) with
  | none => rw [if_neg (by show ¬ ((110 : Int) = 0); decide)]
  | some n =>
    obtain ⟨hw, hlt⟩ := number_sound l0 l4 hn
    rw [if_pos (by rfl)]
    show Option.bind (XA.word_Words.f 6999 l (n : Int)) _ = _
    rw [words_f l0 l4 6997 n hlt, Option.bind_some, if_pos (by rfl), if_pos (by rfl)]
    show Option.bind (XS.newswireref11_Same.f 6999 ((words l n).map ba) ((few L).map ba)) _ = _
    rw [hw, same_f _ _ (by have := (few_le L).1; omega) _ (by have := (few_le L).1; omega), Option.bind_some, decide_eq_true rfl]
theorem back_law (a b : Int) (l : List ByteArray) (ha : -9223372036854775808 ≤ a) (ha' : a ≤ 9223372036854775807) (hb : -9223372036854775808 ≤ b) (hb' : b ≤ 9223372036854775807) : XB.newswirelaw11_WordBack.f 7000 a b l = some true := by
  have := back_law0 a b (l.map fun b => b.data.toList) ha ha' hb hb'
  rwa [ba_map_eta] at this
end Go.Proofs.YtjgobfbjmlacjaaDoor.XP
namespace Go.Proofs.YtjgobfbjmlacjaaDoor.Back
open Go.ChangeShapes Go.WideShapes Go.ChangeAt Go.RowKit
open Go.ChangeMaps (open_string shut_string)
theorem contract (H : Type) (enc : TypeId × Value → H) (W : World) (base : Nat) (args : Array Value) (ds gs : List (DataW H)) (before : List MemPlace)
    (hval : ∀ (j : Nat) t v, Tryd.f4.params[j]? = some t → args[j]? = some v → Value.okWide Tryd.prog W .any base t v)
    (hW : DataW.Whole enc Tryd.prog Tryd.f4.params.toList Rows.wordBackSpec.vars false W args.toList ds gs before) (hL : laidMetH Tryd.prog Rows.wordBackRow.laid W) (hS : W.ShapedOpen Tryd.prog) :
    Calls Tryd.prog 4 args W fun e W' => ∃ v, e = .returned v ∧ Rows.wordBackSpec.post enc Tryd.prog Tryd.f4 false true false false W args v W' := by
  have hW' := hW
  obtain ⟨p, q, hA0, hV, rfl, hfz, hnd⟩ := hW
  have hA : DataW.TrodAll enc Tryd.prog W 0 (fun _ => true) true Tryd.f4.params.toList args.toList ds p := hA0
  rw [Tryd.params4] at hA hval
  obtain ⟨v0, vs0, d0, ds0, p0, q0, hargs, rfl, rfl, h0, r0⟩ := trodAll_cons hA
  obtain ⟨v1, vs1, d1, ds1, p1, q1, rfl, rfl, rfl, h1, r1⟩ := trodAll_cons r0
  obtain ⟨v2, vs2, d2, ds2, p2, q2, rfl, rfl, rfl, h2, r2⟩ := trodAll_cons r1
  obtain ⟨rfl, rfl, rfl⟩ := trodAll_nil r2
  obtain rfl : args = #[v0, v1, v2] := by cases args; simp_all
  obtain ⟨rfl, rfl⟩ := trodVars_none hV
  obtain ⟨a0, rfl, rfl, rfl, w0⟩ := open_int Tryd.underlying3 (hval 0 _ v0 rfl rfl) h0
  obtain ⟨a1, rfl, rfl, rfl, w1⟩ := open_int Tryd.underlying3 (hval 1 _ v1 rfl rfl) h1
  have k2 := h2
  have lt2 : ∀ x ∈ p2, x.block < W.heap.size := by obtain ⟨m, hm⟩ := k2; exact DataW.trod_lt m _ _ _ hm
  obtain ⟨A2, c2, l2, rfl, hc2, hr2⟩ := open_strs Tryd.underlying22 Tryd.underlying9 (by kernel_rfl) (hval 2 _ v2 rfl rfl) h2
  clear hA0
  have hlw : LW W := lw_of hL hS
  have walk := XB.newswirelaw11_WordBack.calls 7000 a0 a1 A2 c2 l2 true W hr2 hc2 hlw (XP.back_law a0 a1 l2 (wf64 w0).1 (wf64 w0).2 (wf64 w1).1 (wf64 w1).2)
  refine walk.mono fun e W' ⟨he, hb⟩ => ?_
  subst he
  exact ⟨_, rfl, _, _, _, [], _, [], hW', trodAll_mk1 (shut_bool Tryd.underlying4 _), (trodAll_cons_mk (shut_int Tryd.underlying3 w0) (trodAll_cons_mk (shut_int Tryd.underlying3 w1) (trodAll_cons_mk (Below.trod (by kernel_rfl) (by kernel_rfl) (of_decide_eq_true (by kernel_rfl)) k2 hb lt2) trodAll_mk0))), rfl, hb.frame _, fun h => by cases h⟩
theorem reads (os : Os) {H : Type} (enc : TypeId × Value → H) : ∃ places, DataW.whole enc Tryd.prog ((laidWorld os).forCall (fun _ _ => 0) ⟨#[], #[.int .i64 0, .int .i64 0, .slice none 0 0], []⟩).memory Tryd.f4.params.toList Rows.wordBackSpec.vars false (#[.int .i64 0, .int .i64 0, .slice none 0 0] : Array Value).toList 8 = some ([.lit (.int .i64 0), .lit (.int .i64 0), .nil], [], places) :=
  ⟨[], by kernel_rfl⟩
theorem lifted (os : Os) (started : os.Started) (H : Type) (enc : TypeId × Value → H) (F : Stop.Interp) :
    ReturnsInHanded {} Tryd.checked os 4 .any ((OpenSpec.ofChange Rows.wordBackSpec).preRow enc Tryd.prog Tryd.f4 Rows.wordBackRow.domain false Rows.wordBackRow.laid) (((OpenSpec.ofChange Rows.wordBackSpec).at F).post enc Tryd.prog Tryd.f4 false true false false) := by
  obtain ⟨places, hx⟩ := reads os enc
  refine returnsInHanded_of_row (C := Tryd.checked) (s := OpenSpec.ofChange Rows.wordBackSpec) own started (by kernel_rfl) Tryd.func4
    (witness_row_atRef (enc := enc) (C := Tryd.checked) false (laidWorld os) #[.int .i64 0, .int .i64 0, .slice none 0 0] rfl (by kernel_rfl) (by kernel_rfl) (by kernel_rfl)
      (OpenSpec.preRow_of_cond 8 hx (by kernel_rfl) (fun k hk => by cases hk) (by kernel_rfl) (laid_met os _))) ?_
  intro W base args ds gs before hval hW _ _ _ hL hS _
  exact contract H enc W base args ds gs before hval hW hL hS
theorem said : Rows.WordBackSaid :=
  OpenClaim.holds_of_cond 4 Tryd.f4 rfl rfl rfl rfl rfl rfl rfl ⟨rfl, rfl, rfl, rfl, rfl⟩ rfl rfl rfl rfl rfl (by kernel_rfl) Tryd.func4 (by kernel_rfl)
    (of_decide_eq_true (by kernel_rfl)) (by unfold Func.isWrapper; first | (rw [if_pos (by decide +kernel)]; kernel_rfl) | (rw [if_neg (by decide +kernel)]; exact ⟨rfl, rfl⟩))
    (fun os started H enc _ F => by rw [OpenClaim.pre_eq_preRow]; exact lifted os started H enc F)
theorem plain (f : FuncId) (fn : Func) (hf : Tryd.pinned.checked.prog.funcNamed "newswire/newswirelaw11.WordBack" = some f) (hfn : Tryd.pinned.checked.prog.funcs[f]? = some fn) :
    false = Tryd.pinned.checked.prog.looks [] ∧ ∀ (j : Nat) t, fn.params[j]? = some t → Tryd.pinned.checked.prog.wantsStandIn t = false := by
  obtain rfl : f = 4 := Option.some.inj ((show Tryd.prog.funcNamed "newswire/newswirelaw11.WordBack" = some 4 by kernel_rfl).symm.trans hf) |>.symm
  obtain rfl : fn = Tryd.f4 := (Option.some.inj (Tryd.func4.symm.trans hfn)).symm
  refine ⟨by kernel_rfl, fun j t ht => ?_⟩
  rw [Tryd.params4] at ht
  have hm := Array.mem_of_getElem? ht
  have hs : t = 3 ∨ t = 22 := by simpa using hm
  rcases hs with rfl | rfl
  · exact (show Tryd.prog.wantsStandIn 3 = false by kernel_rfl)
  · exact (show Tryd.prog.wantsStandIn 22 = false by kernel_rfl)
/-- The card of WordBack. -/
theorem card : Rows.WordBackCardSaid :=
  Claim7.holds_tied_plain_at .later [] _ _ _ _ said (fun _ h => by cases h) (by kernel_rfl) (fun _ h => by cases h) wordBack_row_tie rfl ⟨rfl, rfl⟩ (by kernel_rfl) rfl plain (by kernel_rfl)
end Go.Proofs.YtjgobfbjmlacjaaDoor.Back
#print axioms Go.Proofs.YtjgobfbjmlacjaaDoor.Back.card
