-- Written by wip/xprint.py (a driver of mine over the kit's printer) for this claim.
import Derived.Test.YtjgobfbjmlacjaaDoorXH0
namespace Go.Proofs.YtjgobfbjmlacjaaDoor.XH
open Go.RowKit Go.Proofs.YtjgobfbjmlacjaaDoorW.PrintWords Go.Proofs.YtjgobfbjmlacjaaDoorW.PrintLast Go.Proofs.YtjgobfbjmlacjaaDoorW.PrintMore
open Bool renaming true → tt, false → ff
open _root_.ByteArray renaming mk → B_
attribute [local go_sem] max2_int min2_int max_two min_two max_three min_three max_four min_four   -- for this text's walks alone
set_option maxHeartbeats 8000000
set_option maxRecDepth 100000
set_option linter.unusedVariables false
set_option linter.unusedSimpArgs false

/-! ### newswirelaw11_WordThousands: function 7 -/
def newswirelaw11_WordThousands.j0 : Nat → Bool → Int → List ByteArray → List ByteArray → List ByteArray → Bool → Option (Bool)
 | 0, _, _, _, _, _, _ => none
 | k + 1, x7, x9, x11, x15, x17, x79 => if x79 = true then (some false) else (if x7 = true then (if x9 < 1000 then (some true) else (if (Int.tmod x9 1000) = 0 then (some true) else ((some (([] : List ByteArray) : List ByteArray)).bind fun y122 => (if y122.length + x15.length < 8796093022208 then ((some (y122 ++ x15 : List ByteArray)).bind fun y125 => (if y125.length + x17.length < 8796093022208 then ((XS.newswireref11_Same.f k x11 (y125 ++ x17)).bind fun t131 => (some t131)) else (none))) else (none))))) else (some false))
def newswirelaw11_WordThousands.f (k : Nat) (a0 : Int) (a1 : Int) (a2 : Int) : Option (Bool) := (XS.newswirelaw11_sane.f k).bind fun t101 => (if t101 = true then ((XS.newswirelaw11_pick.f a0 3).bind fun t102 => ((XS.newswirelaw11_pick.f a1 1000000).bind fun t103 => ((XS.newswirelaw11_pick.f a2 1000000).bind fun t104 => ((XA.word_Words.f k (wrap64 (1 + t102)) t103).bind fun bt105 => ((XA.word_Words.f k (wrap64 (1 + t102)) t104).bind fun bt109 => ((XA.word_Words.f k (wrap64 (1 + t102)) (wrap64 (t103 - (Int.tmod t103 1000)))).bind fun bt113 => ((XA.word_Words.f k (wrap64 (1 + t102)) (Int.tmod t103 1000)).bind fun bt117 => (if bt105.2 = 0 then (if bt109.2 = 0 then (if bt113.2 = 0 then (if bt117.2 = 0 then ((XS.newswireref11_Same.f k bt105.1 bt109.1).bind fun t121 => (newswirelaw11_WordThousands.j0 k t101 t103 bt105.1 bt113.1 bt117.1 (t121 != (t103 == t104)))) else (newswirelaw11_WordThousands.j0 k t101 t103 bt105.1 bt113.1 bt117.1 true)) else (newswirelaw11_WordThousands.j0 k t101 t103 bt105.1 bt113.1 bt117.1 true)) else (newswirelaw11_WordThousands.j0 k t101 t103 bt105.1 bt113.1 bt117.1 true)) else (newswirelaw11_WordThousands.j0 k t101 t103 bt105.1 bt113.1 bt117.1 true))))))))) else (some false))
theorem newswirelaw11_WordThousands.mono_l : ∀ k, (∀ y0 y1 y2 y3 y4 y5, LeO (newswirelaw11_WordThousands.j0 k y0 y1 y2 y3 y4 y5) (newswirelaw11_WordThousands.j0 (k + 1) y0 y1 y2 y3 y4 y5))
 | 0 => fun _ _ _ _ _ _ r h => by simp [newswirelaw11_WordThousands.j0] at h
 | k + 1 => by
  have ih0 := newswirelaw11_WordThousands.mono_l k
  intro y0 y1 y2 y3 y4 y5
  unfold newswirelaw11_WordThousands.j0
  repeat' first
  | (with_reducible exact ih0 _ _ _ _ _ _)
  | (with_reducible exact XA.word_Words.mono _ _ _)
  | (with_reducible exact XS.newswirelaw11_sane.mono _)
  | (with_reducible exact XS.newswireref11_Same.mono _ _ _)
  | (with_reducible exact LeO.refl _)
  | (with_reducible exact LeO.none _)
  | (with_reducible refine LeO.ite ?_ ?_)
  | (with_reducible refine LeO.bind ?_ (fun _ => ?_))
theorem newswirelaw11_WordThousands.mono : ∀ a0 a1 a2 k, LeO (newswirelaw11_WordThousands.f k a0 a1 a2) (newswirelaw11_WordThousands.f (k + 1) a0 a1 a2) := by
 intro a0 a1 a2 k; have ih0 := newswirelaw11_WordThousands.mono_l k
 unfold newswirelaw11_WordThousands.f
 repeat' first
   | (with_reducible exact ih0 _ _ _ _ _ _)
   | (with_reducible exact XA.word_Words.mono _ _ _)
   | (with_reducible exact XS.newswirelaw11_sane.mono _)
   | (with_reducible exact XS.newswireref11_Same.mono _ _ _)
   | (with_reducible exact LeO.refl _)
   | (with_reducible exact LeO.none _)
   | (with_reducible refine LeO.ite ?_ ?_)
   | (with_reducible refine LeO.bind ?_ (fun _ => ?_))
theorem newswirelaw11_WordThousands.calls (k : Nat) (a0 : Int) (a1 : Int) (a2 : Int) (r : Bool) (w : World) (hL_ : LW w) (h : newswirelaw11_WordThousands.f k a0 a1 a2 = some r) :
  Calls Tryd.prog 7 #[.int .i64 a0, .int .i64 a1, .int .i64 a2] w fun e w' => e = .returned (.bool r) ∧ Below w.heap.size w w' := by
 have HLW := am hL_; clear hL_; have HB := am (Below.refl w.heap.size w)
 have H := h; clear h; unfold newswirelaw11_WordThousands.f at H; replace H := bm H; obtain ⟨t101, A4, H⟩ := H; replace A4 := am A4
 by_cases c5 : t101 = true; rotate_left
 ·replace c5 := Bool.eq_false_iff.mpr c5
  subst c5; replace H := inn H
  obtain rfl := Option.some.inj H
  go_enter Tryd.func7, Tryd.ntmps7
  go_wp2_with (first | ((with_reducible refine gate_callee (f := 10) rfl ?_); refine gL (some 19) rfl rfl Tryd.func10 #[] ?_; (refine (XS.newswirelaw11_sane.calls k  false _ ?_ A4.out).mono ?_); exact LW.below HLW.out (bes HB.out); rintro e w40 ⟨rfl, hb⟩; refine ⟨_, rfl, ?_⟩; replace HB := bsp HB hb; (try clear hb)))
  go_ret
  exact ⟨er, by exact bes HB.out⟩
 subst c5; replace H := ip H
 replace H := bm H; obtain ⟨t102, A6, H⟩ := H; replace A6 := am A6; replace H := bm H; obtain ⟨t103, A7, H⟩ := H; replace A7 := am A7; replace H := bm H; obtain ⟨t104, A8, H⟩ := H; replace A8 := am A8; replace H := bm H; obtain ⟨⟨t105, t106⟩, A90, H⟩ := H; replace H : ((XA.word_Words.f k (wrap64 (1 + t102)) t104).bind fun bt109 => ((XA.word_Words.f k (wrap64 (1 + t102)) (wrap64 (t103 - (Int.tmod t103 1000)))).bind fun bt113 => ((XA.word_Words.f k (wrap64 (1 + t102)) (Int.tmod t103 1000)).bind fun bt117 => (if t106 = 0 then (if bt109.2 = 0 then (if bt113.2 = 0 then (if bt117.2 = 0 then ((XS.newswireref11_Same.f k t105 bt109.1).bind fun t121 => (newswirelaw11_WordThousands.j0 k true t103 t105 bt113.1 bt117.1 (t121 != (t103 == t104)))) else (newswirelaw11_WordThousands.j0 k true t103 t105 bt113.1 bt117.1 true)) else (newswirelaw11_WordThousands.j0 k true t103 t105 bt113.1 bt117.1 true)) else (newswirelaw11_WordThousands.j0 k true t103 t105 bt113.1 bt117.1 true)) else (newswirelaw11_WordThousands.j0 k true t103 t105 bt113.1 bt117.1 true))))) = some r := H; have A9 := am A90; clear A90; replace H := bm H; obtain ⟨⟨t109, t110⟩, A100, H⟩ := H; replace H : ((XA.word_Words.f k (wrap64 (1 + t102)) (wrap64 (t103 - (Int.tmod t103 1000)))).bind fun bt113 => ((XA.word_Words.f k (wrap64 (1 + t102)) (Int.tmod t103 1000)).bind fun bt117 => (if t106 = 0 then (if t110 = 0 then (if bt113.2 = 0 then (if bt117.2 = 0 then ((XS.newswireref11_Same.f k t105 t109).bind fun t121 => (newswirelaw11_WordThousands.j0 k true t103 t105 bt113.1 bt117.1 (t121 != (t103 == t104)))) else (newswirelaw11_WordThousands.j0 k true t103 t105 bt113.1 bt117.1 true)) else (newswirelaw11_WordThousands.j0 k true t103 t105 bt113.1 bt117.1 true)) else (newswirelaw11_WordThousands.j0 k true t103 t105 bt113.1 bt117.1 true)) else (newswirelaw11_WordThousands.j0 k true t103 t105 bt113.1 bt117.1 true)))) = some r := H; have A10 := am A100; clear A100; replace H := bm H; obtain ⟨⟨t113, t114⟩, A110, H⟩ := H; replace H : ((XA.word_Words.f k (wrap64 (1 + t102)) (Int.tmod t103 1000)).bind fun bt117 => (if t106 = 0 then (if t110 = 0 then (if t114 = 0 then (if bt117.2 = 0 then ((XS.newswireref11_Same.f k t105 t109).bind fun t121 => (newswirelaw11_WordThousands.j0 k true t103 t105 t113 bt117.1 (t121 != (t103 == t104)))) else (newswirelaw11_WordThousands.j0 k true t103 t105 t113 bt117.1 true)) else (newswirelaw11_WordThousands.j0 k true t103 t105 t113 bt117.1 true)) else (newswirelaw11_WordThousands.j0 k true t103 t105 t113 bt117.1 true)) else (newswirelaw11_WordThousands.j0 k true t103 t105 t113 bt117.1 true))) = some r := H; have A11 := am A110; clear A110; replace H := bm H; obtain ⟨⟨t117, t118⟩, A120, H⟩ := H; replace H : (if t106 = 0 then (if t110 = 0 then (if t114 = 0 then (if t118 = 0 then ((XS.newswireref11_Same.f k t105 t109).bind fun t121 => (newswirelaw11_WordThousands.j0 k true t103 t105 t113 t117 (t121 != (t103 == t104)))) else (newswirelaw11_WordThousands.j0 k true t103 t105 t113 t117 true)) else (newswirelaw11_WordThousands.j0 k true t103 t105 t113 t117 true)) else (newswirelaw11_WordThousands.j0 k true t103 t105 t113 t117 true)) else (newswirelaw11_WordThousands.j0 k true t103 t105 t113 t117 true)) = some r := H; have A12 := am A120; clear A120; have HC13 := am H; clear H
 go_enter Tryd.func7, Tryd.ntmps7
 go_upto_region 11 with (first | ((with_reducible refine gate_callee (f := 10) rfl ?_); refine gL (some 19) rfl rfl Tryd.func10 #[] ?_; (refine (XS.newswirelaw11_sane.calls k  true _ ?_ A4.out).mono ?_); exact LW.below HLW.out (bes HB.out); rintro e w14 ⟨rfl, hb⟩; refine ⟨_, rfl, ?_⟩; replace HB := bsp HB hb; (try clear hb)) | ((with_reducible refine gate_callee (f := 11) rfl ?_); refine gL (some 23) rfl rfl Tryd.func11 #[.int .i64 a0, .int .i64 3] ?_; (with_reducible refine (XS.newswirelaw11_pick.calls a0 3 t102 _ A6.out).mono ?_); rintro e w' ⟨rfl, ⟨nd, rfl⟩⟩; refine ⟨_, rfl, ?_⟩) | ((with_reducible refine gate_callee (f := 11) rfl ?_); refine gL (some 26) rfl rfl Tryd.func11 #[.int .i64 a1, .int .i64 1000000] ?_; (with_reducible refine (XS.newswirelaw11_pick.calls a1 1000000 t103 _ A7.out).mono ?_); rintro e w' ⟨rfl, ⟨nd, rfl⟩⟩; refine ⟨_, rfl, ?_⟩) | ((with_reducible refine gate_callee (f := 11) rfl ?_); refine gL (some 28) rfl rfl Tryd.func11 #[.int .i64 a2, .int .i64 1000000] ?_; (with_reducible refine (XS.newswirelaw11_pick.calls a2 1000000 t104 _ A8.out).mono ?_); rintro e w' ⟨rfl, ⟨nd, rfl⟩⟩; refine ⟨_, rfl, ?_⟩) | ((with_reducible refine gate_callee (f := 18) rfl ?_); refine gL (some 32) rfl rfl Tryd.func18 #[.int .i64 (wrap64 (1 + t102)), .int .i64 t103] ?_; (with_reducible refine (XA.word_Words.calls k (wrap64 (1 + t102)) t103 t105 t106 _ ?_ A9.out).mono ?_); exact LW.below HLW.out (bes HB.out); rintro e w15 ⟨v107, rfl, ho0, hb⟩; refine ⟨_, rfl, ?_⟩; have HO108 := am (Kd.R_lower ho0 (below_size (bes HB.out))); replace HB := bsp HB hb; (try clear hb); (try clear ho0)) | ((with_reducible refine gate_callee (f := 18) rfl ?_); refine gL (some 38) rfl rfl Tryd.func18 #[.int .i64 (wrap64 (1 + t102)), .int .i64 t104] ?_; (with_reducible refine (XA.word_Words.calls k (wrap64 (1 + t102)) t104 t109 t110 _ ?_ A10.out).mono ?_); exact LW.below HLW.out (bes HB.out); rintro e w16 ⟨v111, rfl, ho0, hb⟩; refine ⟨_, rfl, ?_⟩; have HO112 := am (Kd.R_lower (Kd.R_new' ho0 (Kd.R_lt (R_st HO108.out))) (below_size (bes HB.out))); replace HO108 := am (Kd.R_elder' (R_st HO108.out) (Kd.R_base ho0) hb); replace HB := bsp HB hb; (try clear hb); (try clear ho0)) | ((with_reducible refine gate_callee (f := 18) rfl ?_); refine gL (some 47) rfl rfl Tryd.func18 #[.int .i64 (wrap64 (1 + t102)), .int .i64 (wrap64 (t103 - (Int.tmod t103 1000)))] ?_; (with_reducible refine (XA.word_Words.calls k (wrap64 (1 + t102)) (wrap64 (t103 - (Int.tmod t103 1000))) t113 t114 _ ?_ A11.out).mono ?_); exact LW.below HLW.out (bes HB.out); rintro e w17 ⟨v115, rfl, ho0, hb⟩; refine ⟨_, rfl, ?_⟩; have HO116 := am (Kd.R_lower (Kd.R_new' (Kd.R_new' ho0 (Kd.R_lt (R_st HO108.out))) (Kd.R_lt (R_st HO112.out))) (below_size (bes HB.out))); replace HO108 := am (Kd.R_elder' (R_st HO108.out) (Kd.R_base ho0) hb); replace HO112 := am (Kd.R_elder' (R_st HO112.out) (Kd.R_base ho0) hb); replace HB := bsp HB hb; (try clear hb); (try clear ho0)) | ((with_reducible refine gate_callee (f := 18) rfl ?_); refine gL (some 54) rfl rfl Tryd.func18 #[.int .i64 (wrap64 (1 + t102)), .int .i64 (Int.tmod t103 1000)] ?_; (with_reducible refine (XA.word_Words.calls k (wrap64 (1 + t102)) (Int.tmod t103 1000) t117 t118 _ ?_ A12.out).mono ?_); exact LW.below HLW.out (bes HB.out); rintro e w18 ⟨v119, rfl, ho0, hb⟩; refine ⟨_, rfl, ?_⟩; have HO120 := am (Kd.R_lower (Kd.R_new' (Kd.R_new' (Kd.R_new' ho0 (Kd.R_lt (R_st HO108.out))) (Kd.R_lt (R_st HO112.out))) (Kd.R_lt (R_st HO116.out))) (below_size (bes HB.out))); replace HO108 := am (Kd.R_elder' (R_st HO108.out) (Kd.R_base ho0) hb); replace HO112 := am (Kd.R_elder' (R_st HO112.out) (Kd.R_base ho0) hb); replace HO116 := am (Kd.R_elder' (R_st HO116.out) (Kd.R_base ho0) hb); replace HB := bsp HB hb; (try clear hb); (try clear ho0)))
 (try simp only [Act.put, sa_, s0_, s1_])
 go_cut [79] (fun v79 wc => ∃ (kq : Nat) (x79_12 : Bool), v79 = .bool x79_12 ∧ Aside0 (newswirelaw11_WordThousands.j0 kq true t103 t105 t113 t117 x79_12 = some r) ∧ Aside0 (kq ≤ k) ∧ Aside0 (Kd.R Kd.string 9 wc w.heap.size (fun k_ => some k_ ≠ (v115 : Value).ownBlock ∧ some k_ ≠ (v119 : Value).ownBlock) v107 t105) ∧ Aside0 (Kd.R Kd.string 9 wc w.heap.size (fun k_ => some k_ ≠ (v107 : Value).ownBlock ∧ some k_ ≠ (v119 : Value).ownBlock) v115 t113) ∧ Aside0 (Kd.R Kd.string 9 wc w.heap.size (fun k_ => some k_ ≠ (v107 : Value).ownBlock ∧ some k_ ≠ (v115 : Value).ownBlock) v119 t117) ∧ Aside0 (Below w.heap.size w wc))
 case first =>
  have H := HC13.out; clear HC13
  by_cases c19 : t106 = 0; rotate_left
  ·rw [if_neg c19] at H
   have c19b0 := bF c19
   have c19b1 := nT c19
   (first | rw [c19b0] | (simp only [i64_w, i32_w]; rw [c19b0]) | skip)
   have H' := am H; clear H
   go_wp2
   go_meet
   case rel => exact ⟨_, (true), cd, H', ⟨om⟩, ⟨by exact R_st (Kd.R_mono HO108.out (fun _ hk => ⟨hk.1.2, hk.2⟩))⟩, ⟨by exact R_st (Kd.R_mono HO116.out (fun _ hk => ⟨hk.1.1.2, hk.2⟩))⟩, ⟨by exact R_st (Kd.R_mono HO120.out (fun _ hk => ⟨hk.1.1.2, hk.2⟩))⟩, ⟨by exact bes HB.out⟩⟩
  rw [if_pos c19] at H
  have c19b0 := bT c19
  have c19b1 := nF c19; clear c19
  (first | rw [c19b0] | (simp only [i64_w, i32_w]; rw [c19b0]) | skip)
  by_cases c20 : t110 = 0; rotate_left
  ·rw [if_neg c20] at H
   have c20b0 := bF c20
   have c20b1 := nT c20
   have H' := am H; clear H
   go_wp2
   go_meet
   case rel => exact ⟨_, (true), cd, H', ⟨om⟩, ⟨by exact R_st (Kd.R_mono HO108.out (fun _ hk => ⟨hk.1.2, hk.2⟩))⟩, ⟨by exact R_st (Kd.R_mono HO116.out (fun _ hk => ⟨hk.1.1.2, hk.2⟩))⟩, ⟨by exact R_st (Kd.R_mono HO120.out (fun _ hk => ⟨hk.1.1.2, hk.2⟩))⟩, ⟨by exact bes HB.out⟩⟩
  rw [if_pos c20] at H
  have c20b0 := bT c20
  have c20b1 := nF c20; clear c20
  by_cases c21 : t114 = 0; rotate_left
  ·rw [if_neg c21] at H
   have c21b0 := bF c21
   have c21b1 := nT c21
   have H' := am H; clear H
   go_wp2
   go_meet
   case rel => exact ⟨_, (true), cd, H', ⟨om⟩, ⟨by exact R_st (Kd.R_mono HO108.out (fun _ hk => ⟨hk.1.2, hk.2⟩))⟩, ⟨by exact R_st (Kd.R_mono HO116.out (fun _ hk => ⟨hk.1.1.2, hk.2⟩))⟩, ⟨by exact R_st (Kd.R_mono HO120.out (fun _ hk => ⟨hk.1.1.2, hk.2⟩))⟩, ⟨by exact bes HB.out⟩⟩
  rw [if_pos c21] at H
  have c21b0 := bT c21
  have c21b1 := nF c21; clear c21
  by_cases c22 : t118 = 0
  ·rw [if_pos c22] at H
   have c22b0 := bT c22
   have c22b1 := nF c22; clear c22; replace H := bm H; obtain ⟨t121, A23, H⟩ := H; replace A23 := am A23
   have H' := am H; clear H; obtain ⟨Ao24, co24, eo24⟩ := Kd.R_slice HO108.out; subst eo24; obtain ⟨Ao25, co25, eo25⟩ := Kd.R_slice HO112.out; subst eo25
   go_wp2_with (first | (go_at_call 19; (refine (XS.newswireref11_Same.calls k _ _ t105 _ _ t109 t121 _ ?_ ?_ ?_ ?_ A23.out).mono ?_); exact C_st ((Kd.R_reads' HO108.out).2.2); exact (Kd.R_reads' HO108.out).2.1; exact C_st ((Kd.R_reads' HO112.out).2.2); exact (Kd.R_reads' HO112.out).2.1; rintro e w' ⟨rfl, ⟨nd, rfl⟩⟩))
   go_meet
   case rel => exact ⟨_, ((t121 != (t103 == t104))), cd, H', ⟨om⟩, ⟨by exact R_st (Kd.R_mono HO108.out (fun _ hk => ⟨hk.1.2, hk.2⟩))⟩, ⟨by exact R_st (Kd.R_mono HO116.out (fun _ hk => ⟨hk.1.1.2, hk.2⟩))⟩, ⟨by exact R_st (Kd.R_mono HO120.out (fun _ hk => ⟨hk.1.1.2, hk.2⟩))⟩, ⟨by exact bes HB.out⟩⟩
  rw [if_neg c22] at H
  have c22b0 := bF c22
  have c22b1 := nT c22
  have H' := am H; clear H
  go_wp2
  go_meet
  case rel => exact ⟨_, (true), cd, H', ⟨om⟩, ⟨by exact R_st (Kd.R_mono HO108.out (fun _ hk => ⟨hk.1.2, hk.2⟩))⟩, ⟨by exact R_st (Kd.R_mono HO116.out (fun _ hk => ⟨hk.1.1.2, hk.2⟩))⟩, ⟨by exact R_st (Kd.R_mono HO120.out (fun _ hk => ⟨hk.1.1.2, hk.2⟩))⟩, ⟨by exact bes HB.out⟩⟩
 clear HC13
 try clear c1
 try clear c2
 try clear p2
 try clear c5
 try clear p6
 try clear c7
 try clear c10
 try clear c11
 try clear c18
 try clear c19
 try clear c19b0
 try clear c19b1
 try clear c20
 try clear c20b0
 try clear c20b1
 try clear c21
 try clear c21b0
 try clear c21b1
 try clear c22
 try clear c22b0
 try clear c22b1
 obtain ⟨kq, x79_12, rfl, HA, HJ12, O0, O2, O1, HB⟩ := hcut
 cases kq with
 | zero => exact absurd HA.out (by simp [newswirelaw11_WordThousands.j0])
 | succ kj12 =>
  have H := HA.out; clear HA; simp only [newswirelaw11_WordThousands.j0] at H
  by_cases c26 : x79_12 = true
  ·subst c26
   replace H := ip H
   obtain rfl := Option.some.inj H
   go_wp2
   go_ret
   exact ⟨er, by exact bes HB.out⟩
  replace c26 := Bool.eq_false_iff.mpr c26; subst c26; replace H := inn H
  replace H := ip H
  by_cases c27 : t103 < 1000
  ·rw [if_pos c27] at H
   have c27b0 := dT c27; clear c27; obtain rfl := Option.some.inj H
   go_wp2
   go_ret
   exact ⟨er, by exact bes HB.out⟩
  rw [if_neg c27] at H
  have c27b0 := dF c27; clear c27
  by_cases c28 : (Int.tmod t103 1000) = 0
  ·rw [if_pos c28] at H
   have c28b0 := bT c28
   have c28b1 := nF c28; clear c28; obtain rfl := Option.some.inj H
   go_wp2
   go_ret
   exact ⟨er, by exact bes HB.out⟩
  rw [if_neg c28] at H
  have c28b0 := bF c28
  have c28b1 := nT c28; obtain ⟨y122, hy122⟩ : ∃ y_ : List ByteArray, y_ = (([] : List ByteArray)) := ⟨_, rfl⟩; replace H : (if y122.length + t113.length < 8796093022208 then ((some (y122 ++ t113 : List ByteArray)).bind fun y125 => (if y125.length + t117.length < 8796093022208 then ((XS.newswireref11_Same.f kj12 t105 (y125 ++ t117)).bind fun t131 => (some t131)) else (none))) else (none)) = some r := by first | (rw [hy122]; with_reducible exact H) | (have H2_ := (Option.bind_some _ _).symm.trans H; rw [hy122]; with_reducible exact H2_) | (have H2_ := (Option.bind_some _ _).symm.trans H; with_reducible exact H2_) | with_reducible exact H | (rw [hy122]; exact H) | exact H
  have Ny122 := am hy122; clear hy122
  by_cases c29 : y122.length + t113.length < 8796093022208; rotate_left
  ·rw [if_neg c29] at H
   exact absurd H (by simp)
  rw [if_pos c29] at H; have LMc29 := am c29; clear c29; obtain ⟨y125, hy125⟩ : ∃ y_ : List ByteArray, y_ = (y122 ++ t113) := ⟨_, rfl⟩; replace H : (if y125.length + t117.length < 8796093022208 then ((XS.newswireref11_Same.f kj12 t105 (y125 ++ t117)).bind fun t131 => (some t131)) else (none)) = some r := by first | (rw [hy125]; with_reducible exact H) | (have H2_ := (Option.bind_some _ _).symm.trans H; rw [hy125]; with_reducible exact H2_) | (have H2_ := (Option.bind_some _ _).symm.trans H; with_reducible exact H2_) | with_reducible exact H | (rw [hy125]; exact H) | exact H
  have Ny125 := am hy125; clear hy125
  by_cases c30 : y125.length + t117.length < 8796093022208; rotate_left
  ·rw [if_neg c30] at H
   exact absurd H (by simp)
  rw [if_pos c30] at H; have LMc30 := am c30; clear c30; obtain ⟨y128, hy128⟩ : ∃ y_ : List ByteArray, y_ = (y125 ++ t117) := ⟨_, rfl⟩; replace H : ((XS.newswireref11_Same.f kj12 t105 y128).bind fun t131 => (some t131)) = some r := by first | (rw [hy128]; with_reducible exact H) | (have H2_ := (Option.bind_some _ _).symm.trans H; rw [hy128]; with_reducible exact H2_) | (have H2_ := (Option.bind_some _ _).symm.trans H; with_reducible exact H2_) | with_reducible exact H | (rw [hy128]; exact H) | exact H
  have Ny128 := am hy128; clear hy128; replace H := bm H; obtain ⟨t131, A31, H⟩ := H; replace H : (some t131) = some r := H; replace A31 := am A31; obtain rfl := Option.some.inj H
  go_wp2_with (first | ((with_reducible refine gate_dst (N := 91) rfl ?_); (try (refine gate_guard (by rfl) ?_; dsimp only)); refine Kd.R_lit Kd.string _ 9 ?hg (N := 91) ?hd (xs := ([] : List ByteArray)) (inner := []) (ok := fun _ => True) (okp := fun _ => True) ?hr ?hp (fun _ hk => hk) trivial (Below.refl _ _) (Nat.le_refl _) (by simp) ?_; (case hd => rfl); (case hg => rfl); (case hr => first | (go_simp; done) | (go_simp; rfl)); (case hp => exact (Reps.none _ _)); intro v123 w32 ho33 hb hg_ hnew_; clear hg_ hnew_; (first | rw [← Ny122.out] at ho33 | (simp only [Int.reduceToNat] at ho33; rw [← Ny122.out] at ho33)); have HO124 := am (Kd.R_lower (Kd.R_new' (Kd.R_new' (Kd.R_new' ho33 (Kd.R_lt (R_st O0.out))) (Kd.R_lt (R_st O2.out))) (Kd.R_lt (R_st O1.out))) (below_size (bes HB.out))); replace O0 := am (Kd.R_elder' (R_st O0.out) (Kd.R_base ho33) hb); replace O2 := am (Kd.R_elder' (R_st O2.out) (Kd.R_base ho33) hb); replace O1 := am (Kd.R_elder' (R_st O1.out) (Kd.R_base ho33) hb); replace HB := bsp HB hb; clear hb ho33; obtain ⟨Ao35, co35, eo35⟩ := Kd.R_slice O2.out; subst eo35) | ((with_reducible refine gate_builtin (b := .append) (xs := #[.tmp 91, .tmp 92]) rfl ?_); (try (refine gate_guard (by rfl) ?_; dsimp only)); at_builtin; refine Kd.R_append_rows Kd.string (w0 := w) w.heap.size rfl (.tmp 91) (.tmp 92) 22 9 (.string ⟨#[]⟩) 16 rfl Tryd.underlying22 info9 rfl (by decide) (by omega) v123 y122 t113 _ _ _ (fun k_ => some k_ ≠ (v107 : Value).ownBlock ∧ some k_ ≠ (.slice Ao35 t113.length co35 : Value).ownBlock ∧ some k_ ≠ (v119 : Value).ownBlock) (fun _ => False) rfl rfl ?aO ?aR (fun _ _ h => h) (fun _ h => h.elim) ?aF ?aB ?aS ?aL ?_; (case aR => exact C_st ((Kd.R_reads' O2.out).2.2)); (case aB => exact (bes HB.out)); (case aF => exact (fun k_ hk => ⟨Kd.fresh' (Kd.R_lt (R_st O0.out)) k_ hk, Kd.fresh' (Kd.R_lt (R_st O2.out)) k_ hk, Kd.fresh' (Kd.R_lt (R_st O1.out)) k_ hk⟩)); (case aO => exact (by exact R_st (Kd.R_mono HO124.out (fun _ hk => ⟨hk.1.1.2, ⟨hk.1.2, hk.2⟩⟩)))); (case aS => exact (below_size (bes HB.out))); (case aL => have := LMc29.out; omega); intro v126 w34 ho hb hg hat; rw [← Ny125.out] at ho; have n0_ := am (Kd.R_after (ok := (fun k_ => some k_ ≠ (.slice Ao35 t113.length co35 : Value).ownBlock ∧ some k_ ≠ (v119 : Value).ownBlock)) (R_st O0.out) hg hat); have n1_ := am (Kd.R_after (ok := (fun k_ => some k_ ≠ (v107 : Value).ownBlock ∧ some k_ ≠ (v119 : Value).ownBlock)) (R_st O2.out) hg hat); have n2_ := am (Kd.R_after (ok := (fun k_ => some k_ ≠ (v107 : Value).ownBlock ∧ some k_ ≠ (.slice Ao35 t113.length co35 : Value).ownBlock)) (R_st O1.out) hg hat); have n3_ := am (hb); have n4_ := am (ho); clear O0; clear O2; clear O1; clear HB; clear HO124; have O0 := n0_; have O2 := n1_; have O1 := n2_; have HB := n3_; have HO127 := n4_; clear n0_ n1_ n2_ n3_ n4_; clear ho hb hg hat; obtain ⟨Ao37, co37, eo37⟩ := Kd.R_slice O1.out; subst eo37) | ((with_reducible refine gate_builtin (b := .append) (xs := #[.tmp 93, .tmp 94]) rfl ?_); (try (refine gate_guard (by rfl) ?_; dsimp only)); at_builtin; refine Kd.R_append_rows Kd.string (w0 := w) w.heap.size rfl (.tmp 93) (.tmp 94) 22 9 (.string ⟨#[]⟩) 16 rfl Tryd.underlying22 info9 rfl (by decide) (by omega) v126 y125 t117 _ _ _ (fun k_ => some k_ ≠ (v107 : Value).ownBlock ∧ some k_ ≠ (.slice Ao35 t113.length co35 : Value).ownBlock ∧ some k_ ≠ (.slice Ao37 t117.length co37 : Value).ownBlock) (fun _ => False) rfl rfl ?aO ?aR (fun _ _ h => h) (fun _ h => h.elim) ?aF ?aB ?aS ?aL ?_; (case aR => exact C_st ((Kd.R_reads' O1.out).2.2)); (case aB => exact (bes HB.out)); (case aF => exact (fun k_ hk => ⟨Kd.fresh' (Kd.R_lt (R_st O0.out)) k_ hk, Kd.fresh' (Kd.R_lt (R_st O2.out)) k_ hk, Kd.fresh' (Kd.R_lt (R_st O1.out)) k_ hk⟩)); (case aO => exact (R_st HO127.out)); (case aS => exact (below_size (bes HB.out))); (case aL => have := LMc30.out; omega); intro v129 w36 ho hb hg hat; rw [← Ny128.out] at ho; have n0_ := am (Kd.R_after (ok := (fun k_ => some k_ ≠ (.slice Ao35 t113.length co35 : Value).ownBlock ∧ some k_ ≠ (.slice Ao37 t117.length co37 : Value).ownBlock)) (R_st O0.out) hg hat); have n1_ := am (Kd.R_after (ok := (fun k_ => some k_ ≠ (v107 : Value).ownBlock ∧ some k_ ≠ (.slice Ao37 t117.length co37 : Value).ownBlock)) (R_st O2.out) hg hat); have n2_ := am (Kd.R_after (ok := (fun k_ => some k_ ≠ (v107 : Value).ownBlock ∧ some k_ ≠ (.slice Ao35 t113.length co35 : Value).ownBlock)) (R_st O1.out) hg hat); have n3_ := am (hb); have n4_ := am (ho); clear O0; clear O2; clear O1; clear HB; clear HO127; have O0 := n0_; have O2 := n1_; have O1 := n2_; have HB := n3_; have HO130 := n4_; clear n0_ n1_ n2_ n3_ n4_; clear ho hb hg hat; obtain ⟨Ao38, co38, eo38⟩ := Kd.R_slice O0.out; subst eo38; obtain ⟨Ao39, co39, eo39⟩ := Kd.R_slice HO130.out; subst eo39) | (go_at_call 19; (refine (XS.newswireref11_Same.calls kj12 _ _ t105 _ _ y128 t131 _ ?_ ?_ ?_ ?_ A31.out).mono ?_); exact C_st ((Kd.R_reads' O0.out).2.2); exact (Kd.R_reads' O0.out).2.1; exact C_st ((Kd.R_reads' HO130.out).2.2); exact (Kd.R_reads' HO130.out).2.1; rintro e w' ⟨rfl, ⟨nd, rfl⟩⟩))
  go_ret
  exact ⟨er, by exact bes HB.out⟩

end Go.Proofs.YtjgobfbjmlacjaaDoor.XH
