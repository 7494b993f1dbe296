/-
  WordInText returns true for every language, every number and every two lists of words, and leaves its arguments as they were. Its only conditions are the row's own: the three package-level tables hold what their initialisers lay.
-/
import Derived.Test.YtjgobfbjmlacjaaDoorXPh
import Derived.Test.YtjgobfbjmlacjaaDoorXX
import Derived.Test.YtjgobfbjmlacjaaDoorXArgs
import Derived.Test.YtjgobfbjmlacjaaDoorCards
import Derived.Test.YtjgobfbjmlacjaaDoorTie
import Derived.ProofKit
import Derived.Below
import Derived.Carry
set_option maxRecDepth 100000
set_option linter.unusedVariables false
set_option linter.unusedSimpArgs false
namespace Go.Proofs.YtjgobfbjmlacjaaDoor.XP
open Go.RowKit Go.Proofs.YtjgobfbjmlacjaaDoorW.PrintWords Go.Proofs.YtjgobfbjmlacjaaDoorW.PrintLast Go.Proofs.YtjgobfbjmlacjaaDoorW.PrintMore
theorem intext_l0 {l : Nat} (h0 : 0 < l) (h4 : l < 4) (L : List S) (hL : L.length ≤ 100) (hT : tot L ≤ 70000) : ∀ (m i k : Nat), i + m = L.length → 2 * m + 3000 ≤ k → XX.newswirelaw11_WordInText.l0 k true l (L.map ba) i = some true
  | 0, i, k + 1, hi, hk => by rw [XX.newswirelaw11_WordInText.l0, if_neg (by rw [List.length_map]; omega)]
  | m + 1, i, k + 1, hi, hk => by
    obtain ⟨k, rfl⟩ : ∃ j, k = j + 1 := ⟨k - 1, by omega⟩
    have ih := intext_l0 h0 h4 L hL hT m (i + 1) k (by omega) (by omega)
    have ih' := intext_l0 h0 h4 L hL hT m (i + 1) (k + 1) (by omega) (by omega)
    have hp := prefix_f h0 h4 L (by omega) (i : Int) (by rw [Int.toNat_natCast]; exact Nat.le_trans (tot_drop _ _) (Nat.le_trans (tot_take _ _) (by omega))) (k + 1) (by omega)
    have hw : wrap64 ((i : Int) + 1) = ((i + 1 : Nat) : Int) := by rw [wrap64_id (by omega) (by omega)]; rfl
    rw [XX.newswirelaw11_WordInText.l0, if_pos (by rw [List.length_map]; omega), hp, Option.bind_some, hw]
    cases hx : pfx l L (i : Int) with
    | none => rw [if_neg (by show ¬ (false = true); decide)]; exact ih'
    | some p =>
      obtain ⟨x, y⟩ := p
      obtain ⟨y1, y2, y3, y4⟩ := pfx_some h0 h4 hx
      have hwy : wrap64 ((i : Int) + (y : Int)) = ((i + y : Nat) : Int) := by rw [wrap64_id (by omega) (by omega)]; rfl
      rw [if_pos (by rfl)]
      show (if (y : Int) < 1 then _ else XX.newswirelaw11_WordInText.j3 (k + 1) true l (L.map ba) i (x : Int) (y : Int) (decide (wrap64 ((i : Int) + (y : Int)) > ((L.map ba).length : Int)))) = _
      obtain ⟨k, rfl⟩ : ∃ j, k = j + 2 := ⟨k - 2, by omega⟩
      rw [if_neg (by omega), hwy, List.length_map, decide_eq_false (by omega), XX.newswirelaw11_WordInText.j3, if_neg (by decide), words_f h0 h4 k x y4, Option.bind_some, if_pos (by rfl), hwy, if_pos (by omega), if_pos (by omega), if_pos (by rw [List.length_map]; omega), Int.toNat_natCast, Int.toNat_natCast, ← List.map_take, ← List.map_drop]
      show Option.bind (XS.newswireref11_Same.f (k + 2) ((words l x).map ba) (((L.take (i + y)).drop i).map ba)) _ = _
      have hwl := (words_pos h0 h4 y4).2
      rw [same_f _ _ (by omega) _ (by omega), Option.bind_some, decide_eq_true y3, if_pos rfl, hw]
      exact ih
theorem intext_j0 {l : Nat} (h0 : 0 < l) (h4 : l < 4) {n : Nat} (hn : n < 1000000) (A B : List S) (hA : A.length ≤ 10 ∧ tot A ≤ 1000) (hB : B.length ≤ 10 ∧ tot B ≤ 1000) (hb : ∀ w ∈ B.head?, isW l w = false) :
    XX.newswirelaw11_WordInText.j0 7000 true l n ((words l n).map ba) (A.map ba) (B.map ba) = some true := by
  obtain ⟨w1, w2⟩ := words_pos h0 h4 hn
  have wt := tot_words h0 h4 hn
  have htot : ∀ a b : List S, tot (a ++ b) = tot a + tot b := fun a b => by simp [tot]
  have hL : (A ++ words l n ++ B).length ≤ 100 := by simp only [List.length_append]; omega
  have hT : tot (A ++ words l n ++ B) ≤ 70000 := by rw [htot, htot]; omega
  have hp := prefix_f h0 h4 (A ++ words l n ++ B) (by omega) (A.length : Int) (by rw [Int.toNat_natCast]; exact Nat.le_trans (tot_drop _ _) (Nat.le_trans (tot_take _ _) (by omega))) 6999 (by omega)
  rw [pfx_words h0 h4 hn A B hb] at hp
  rw [XX.newswirelaw11_WordInText.j0, Option.bind_some, if_pos (by simp only [List.length_map, List.length_nil]; omega), Option.bind_some, if_pos (by simp only [List.length_append, List.length_map, List.length_nil]; omega), Option.bind_some, if_pos (by simp only [List.length_append, List.length_map, List.length_nil]; omega), Option.bind_some, List.nil_append, ← List.map_append, ← List.map_append, List.length_map, hp, Option.bind_some, if_pos (by rfl)]
  show (if (n : Int) = (n : Int) then XX.newswirelaw11_WordInText.j1 6999 true l ((A ++ words l n ++ B).map ba) (((words l n).length : Int) != (((words l n).map ba).length : Int)) else _) = _
  rw [if_pos rfl, List.length_map, show (((words l n).length : Int) != ((words l n).length : Int)) = false by simp, XX.newswirelaw11_WordInText.j1, if_neg (by decide)]
  exact intext_l0 h0 h4 _ hL hT _ 0 6998 (Nat.zero_add _) (by omega)
/-- WordInText, as it is printed, returns true. -/
theorem intext_law0 (a b : Int) (A B : List S) (ha : -9223372036854775808 ≤ a) (ha' : a ≤ 9223372036854775807) (hb : -9223372036854775808 ≤ b) (hb' : b ≤ 9223372036854775807) :
    XX.newswirelaw11_WordInText.f 7000 a b (A.map ba) (B.map ba) = some true := by
  obtain ⟨l0, l4⟩ := lang_pick a
  have hx := pk_lt b (n := 1000000) (by omega)
  have p1 : XS.newswirelaw11_pick.f a 3 = some ((pk a 3 : Nat) : Int) := pick_f a 3 ha ha' (by omega)
  have p2 : XS.newswirelaw11_pick.f b 1000000 = some ((pk b 1000000 : Nat) : Int) := pick_f b 1000000 hb hb' (by omega)
  unfold XX.newswirelaw11_WordInText.f
  rw [sane_f 7000 (by omega), Option.bind_some, if_pos (by rfl), p1, Option.bind_some, p2, Option.bind_some, wrap_pick a]
  generalize 1 + pk a 3 = l at *
  generalize pk b 1000000 = x at *
  rw [words_f l0 l4 6998 x hx, Option.bind_some, if_pos (by rfl), few_f A _ (by omega), Option.bind_some, few_f B _ (by omega), Option.bind_some]
  have hA := few_le A
  have hB := few_le B
  have hl : ∀ s ∈ few B, s.length ≤ 60 := by
    intro s hs
    obtain ⟨t, _, rfl⟩ := List.mem_map.mp hs
    rw [List.length_take]; omega
  show (if (((few B).map ba).length : Int) > 0 then _ else XX.newswirelaw11_WordInText.j0 7000 true l x ((words l x).map ba) ((few A).map ba) ((few B).map ba)) = _
  cases hf : few B with
  | nil =>
    rw [if_neg (by decide)]
    exact intext_j0 l0 l4 hx (few A) [] ⟨hA.1, by omega⟩ ⟨by simp, by simp [tot]⟩ (fun w hw => by cases hw)
  | cons w r =>
    rw [hf] at hB hl
    have h0' : rdOf ByteArray.empty ((w :: r).map ba) 0 = ba w := rd_map (w :: r) 0
    rw [if_pos (by simp only [List.map_cons, List.length_cons]; omega), if_pos (by simp only [List.map_cons, List.length_cons]; omega), h0', is_f l0 l4 _ (by have := hl w (List.mem_cons_self ..); omega) _ (by omega), Option.bind_some]
    by_cases c : isW l w = true
    · rw [if_pos c]
      exact intext_j0 l0 l4 hx (few A) [] ⟨hA.1, by omega⟩ ⟨by simp, by simp [tot]⟩ (fun w hw => by cases hw)
    · rw [if_neg c]
      exact intext_j0 l0 l4 hx (few A) (w :: r) ⟨hA.1, by omega⟩ ⟨hB.1, by omega⟩ (fun v hv => by
        obtain rfl : w = v := by simpa using hv
        exact Bool.eq_false_iff.mpr c)
theorem intext_law (a b : Int) (A B : List ByteArray) (ha : -9223372036854775808 ≤ a) (ha' : a ≤ 9223372036854775807) (hb : -9223372036854775808 ≤ b) (hb' : b ≤ 9223372036854775807) : XX.newswirelaw11_WordInText.f 7000 a b A B = some true := by
  have := intext_law0 a b (A.map fun b => b.data.toList) (B.map fun b => b.data.toList) ha ha' hb hb'
  rwa [ba_map_eta, ba_map_eta] at this
end Go.Proofs.YtjgobfbjmlacjaaDoor.XP
namespace Go.Proofs.YtjgobfbjmlacjaaDoor.Intext
open Go.ChangeShapes Go.WideShapes Go.ChangeAt Go.RowKit
open Go.ChangeMaps (open_string shut_string)
theorem contract (H : Type) (enc : TypeId × Value → H) (W : World) (base : Nat) (args : Array Value) (ds gs : List (DataW H)) (before : List MemPlace)
    (hval : ∀ (j : Nat) t v, Tryd.f5.params[j]? = some t → args[j]? = some v → Value.okWide Tryd.prog W .any base t v)
    (hW : DataW.Whole enc Tryd.prog Tryd.f5.params.toList Rows.wordInTextSpec.vars false W args.toList ds gs before) (hL : laidMetH Tryd.prog Rows.wordInTextRow.laid W) (hS : W.ShapedOpen Tryd.prog) :
    Calls Tryd.prog 5 args W fun e W' => ∃ v, e = .returned v ∧ Rows.wordInTextSpec.post enc Tryd.prog Tryd.f5 false true false false W args v W' := by
  have hW' := hW
  obtain ⟨p, q, hA0, hV, rfl, hfz, hnd⟩ := hW
  have hA : DataW.TrodAll enc Tryd.prog W 0 (fun _ => true) true Tryd.f5.params.toList args.toList ds p := hA0
  rw [Tryd.params5] at hA hval
  obtain ⟨v0, vs0, d0, ds0, p0, q0, hargs, rfl, rfl, h0, r0⟩ := trodAll_cons hA
  obtain ⟨v1, vs1, d1, ds1, p1, q1, rfl, rfl, rfl, h1, r1⟩ := trodAll_cons r0
  obtain ⟨v2, vs2, d2, ds2, p2, q2, rfl, rfl, rfl, h2, r2⟩ := trodAll_cons r1
  obtain ⟨v3, vs3, d3, ds3, p3, q3, rfl, rfl, rfl, h3, r3⟩ := trodAll_cons r2
  obtain ⟨rfl, rfl, rfl⟩ := trodAll_nil r3
  obtain rfl : args = #[v0, v1, v2, v3] := by cases args; simp_all
  obtain ⟨rfl, rfl⟩ := trodVars_none hV
  obtain ⟨a0, rfl, rfl, rfl, w0⟩ := open_int Tryd.underlying3 (hval 0 _ v0 rfl rfl) h0
  obtain ⟨a1, rfl, rfl, rfl, w1⟩ := open_int Tryd.underlying3 (hval 1 _ v1 rfl rfl) h1
  have k2 := h2
  have lt2 : ∀ x ∈ p2, x.block < W.heap.size := by obtain ⟨m, hm⟩ := k2; exact DataW.trod_lt m _ _ _ hm
  obtain ⟨A2, c2, l2, rfl, hc2, hr2⟩ := open_strs Tryd.underlying22 Tryd.underlying9 (by kernel_rfl) (hval 2 _ v2 rfl rfl) h2
  have k3 := h3
  have lt3 : ∀ x ∈ p3, x.block < W.heap.size := by obtain ⟨m, hm⟩ := k3; exact DataW.trod_lt m _ _ _ hm
  obtain ⟨A3, c3, l3, rfl, hc3, hr3⟩ := open_strs Tryd.underlying22 Tryd.underlying9 (by kernel_rfl) (hval 3 _ v3 rfl rfl) h3
  clear hA0
  have hlw : LW W := lw_of hL hS
  have walk := XX.newswirelaw11_WordInText.calls 7000 a0 a1 A2 c2 l2 A3 c3 l3 true W hr2 hc2 hr3 hc3 hlw (XP.intext_law a0 a1 l2 l3 (wf64 w0).1 (wf64 w0).2 (wf64 w1).1 (wf64 w1).2)
  refine walk.mono fun e W' ⟨he, hb⟩ => ?_
  subst he
  exact ⟨_, rfl, _, _, _, [], _, [], hW', trodAll_mk1 (shut_bool Tryd.underlying4 _), (trodAll_cons_mk (shut_int Tryd.underlying3 w0) (trodAll_cons_mk (shut_int Tryd.underlying3 w1) (trodAll_cons_mk (Below.trod (by kernel_rfl) (by kernel_rfl) (of_decide_eq_true (by kernel_rfl)) k2 hb lt2) (trodAll_cons_mk (Below.trod (by kernel_rfl) (by kernel_rfl) (of_decide_eq_true (by kernel_rfl)) k3 hb lt3) trodAll_mk0)))), rfl, hb.frame _, fun h => by cases h⟩
theorem reads (os : Os) {H : Type} (enc : TypeId × Value → H) : ∃ places, DataW.whole enc Tryd.prog ((laidWorld os).forCall (fun _ _ => 0) ⟨#[], #[.int .i64 0, .int .i64 0, .slice none 0 0, .slice none 0 0], []⟩).memory Tryd.f5.params.toList Rows.wordInTextSpec.vars false (#[.int .i64 0, .int .i64 0, .slice none 0 0, .slice none 0 0] : Array Value).toList 8 = some ([.lit (.int .i64 0), .lit (.int .i64 0), .nil, .nil], [], places) :=
  ⟨[], by kernel_rfl⟩
theorem lifted (os : Os) (started : os.Started) (H : Type) (enc : TypeId × Value → H) (F : Stop.Interp) :
    ReturnsInHanded {} Tryd.checked os 5 .any ((OpenSpec.ofChange Rows.wordInTextSpec).preRow enc Tryd.prog Tryd.f5 Rows.wordInTextRow.domain false Rows.wordInTextRow.laid) (((OpenSpec.ofChange Rows.wordInTextSpec).at F).post enc Tryd.prog Tryd.f5 false true false false) := by
  obtain ⟨places, hx⟩ := reads os enc
  refine returnsInHanded_of_row (C := Tryd.checked) (s := OpenSpec.ofChange Rows.wordInTextSpec) own started (by kernel_rfl) Tryd.func5
    (witness_row_atRef (enc := enc) (C := Tryd.checked) false (laidWorld os) #[.int .i64 0, .int .i64 0, .slice none 0 0, .slice none 0 0] rfl (by kernel_rfl) (by kernel_rfl) (by kernel_rfl)
      (OpenSpec.preRow_of_cond 8 hx (by kernel_rfl) (fun k hk => by cases hk) (by kernel_rfl) (laid_met os _))) ?_
  intro W base args ds gs before hval hW _ _ _ hL hS _
  exact contract H enc W base args ds gs before hval hW hL hS
theorem said : Rows.WordInTextSaid :=
  OpenClaim.holds_of_cond 5 Tryd.f5 rfl rfl rfl rfl rfl rfl rfl ⟨rfl, rfl, rfl, rfl, rfl⟩ rfl rfl rfl rfl rfl (by kernel_rfl) Tryd.func5 (by kernel_rfl)
    (of_decide_eq_true (by kernel_rfl)) (by unfold Func.isWrapper; first | (rw [if_pos (by decide +kernel)]; kernel_rfl) | (rw [if_neg (by decide +kernel)]; exact ⟨rfl, rfl⟩))
    (fun os started H enc _ F => by rw [OpenClaim.pre_eq_preRow]; exact lifted os started H enc F)
theorem plain (f : FuncId) (fn : Func) (hf : Tryd.pinned.checked.prog.funcNamed "newswire/newswirelaw11.WordInText" = some f) (hfn : Tryd.pinned.checked.prog.funcs[f]? = some fn) :
    false = Tryd.pinned.checked.prog.looks [] ∧ ∀ (j : Nat) t, fn.params[j]? = some t → Tryd.pinned.checked.prog.wantsStandIn t = false := by
  obtain rfl : f = 5 := Option.some.inj ((show Tryd.prog.funcNamed "newswire/newswirelaw11.WordInText" = some 5 by kernel_rfl).symm.trans hf) |>.symm
  obtain rfl : fn = Tryd.f5 := (Option.some.inj (Tryd.func5.symm.trans hfn)).symm
  refine ⟨by kernel_rfl, fun j t ht => ?_⟩
  rw [Tryd.params5] at ht
  have hm := Array.mem_of_getElem? ht
  have hs : t = 3 ∨ t = 22 := by simpa using hm
  rcases hs with rfl | rfl
  · exact (show Tryd.prog.wantsStandIn 3 = false by kernel_rfl)
  · exact (show Tryd.prog.wantsStandIn 22 = false by kernel_rfl)
/-- The card of WordInText. -/
theorem card : Rows.WordInTextCardSaid :=
  Claim7.holds_tied_plain_at .later [] _ _ _ _ said (fun _ h => by cases h) (by kernel_rfl) (fun _ h => by cases h) wordInText_row_tie rfl ⟨rfl, rfl⟩ (by kernel_rfl) rfl plain (by kernel_rfl)
end Go.Proofs.YtjgobfbjmlacjaaDoor.Intext
#print axioms Go.Proofs.YtjgobfbjmlacjaaDoor.Intext.card
