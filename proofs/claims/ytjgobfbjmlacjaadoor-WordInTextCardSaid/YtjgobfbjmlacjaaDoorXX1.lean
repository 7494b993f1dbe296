-- Written by wip/xprint.py (a driver of mine over the kit's printer) for this claim.
import Derived.Test.YtjgobfbjmlacjaaDoorXX0
namespace Go.Proofs.YtjgobfbjmlacjaaDoor.XX
open Go.RowKit Go.Proofs.YtjgobfbjmlacjaaDoorW.PrintWords Go.Proofs.YtjgobfbjmlacjaaDoorW.PrintLast Go.Proofs.YtjgobfbjmlacjaaDoorW.PrintMore
open Bool renaming true → tt, false → ff
open _root_.ByteArray renaming mk → B_
attribute [local go_sem] max2_int min2_int max_two min_two max_three min_three max_four min_four   -- for this text's walks alone
set_option maxHeartbeats 8000000
set_option maxRecDepth 100000
set_option linter.unusedVariables false
set_option linter.unusedSimpArgs false

/-! ### newswirelaw11_WordInText: function 5 -/
mutual
def newswirelaw11_WordInText.j0 : Nat → Bool → Int → Int → List ByteArray → List ByteArray → List ByteArray → Option (Bool)
 | 0, _, _, _, _, _, _ => none
 | k + 1, x9, x10, x11, x12, x14, x15 => (some (([] : List ByteArray) : List ByteArray)).bind fun y116 => (if y116.length + x14.length < 8796093022208 then ((some (y116 ++ x14 : List ByteArray)).bind fun y119 => (if y119.length + x12.length < 8796093022208 then ((some (y119 ++ x12 : List ByteArray)).bind fun y122 => (if y122.length + x15.length < 8796093022208 then ((some (y122 ++ x15 : List ByteArray)).bind fun y125 => ((XA.word_Prefix.f k x10 y125 (x14.length : Int)).bind fun bt128 => (if bt128.2.2 = true then (if bt128.1 = x11 then (newswirelaw11_WordInText.j1 k x9 x10 y125 (bt128.2.1 != (x12.length : Int))) else (newswirelaw11_WordInText.j1 k x9 x10 y125 true)) else (newswirelaw11_WordInText.j1 k x9 x10 y125 true)))) else (none))) else (none))) else (none))
def newswirelaw11_WordInText.j1 : Nat → Bool → Int → List ByteArray → Bool → Option (Bool)
 | 0, _, _, _, _ => none
 | k + 1, x9, x10, x17, x84 => if x84 = true then (some false) else (newswirelaw11_WordInText.l0 k x9 x10 x17 0)
def newswirelaw11_WordInText.l0 : Nat → Bool → Int → List ByteArray → Int → Option (Bool)
 | 0, _, _, _, _ => none
 | k + 1, x9, x10, x17, x21 => if x21 < (x17.length : Int) then ((XA.word_Prefix.f k x10 x17 x21).bind fun bt131 => (if bt131.2.2 = true then (if bt131.2.1 < 1 then (newswirelaw11_WordInText.j3 k x9 x10 x17 x21 bt131.1 bt131.2.1 true) else (newswirelaw11_WordInText.j3 k x9 x10 x17 x21 bt131.1 bt131.2.1 (decide ((wrap64 (x21 + bt131.2.1)) > (x17.length : Int))))) else (newswirelaw11_WordInText.l0 k x9 x10 x17 (wrap64 (x21 + 1))))) else (some x9)
def newswirelaw11_WordInText.j3 : Nat → Bool → Int → List ByteArray → Int → Int → Int → Bool → Option (Bool)
 | 0, _, _, _, _, _, _, _ => none
 | k + 1, x9, x10, x17, x21, x22, x23, x110 => if x110 = true then (some false) else ((XA.word_Words.f k x10 x22).bind fun bt134 => (if bt134.2 = 0 then (if 0 ≤ x21 then (if x21 ≤ (wrap64 (x21 + x23)) then (if (wrap64 (x21 + x23)) ≤ (x17.length : Int) then ((XS.newswireref11_Same.f k bt134.1 ((x17.take ((wrap64 (x21 + x23)) : Int).toNat).drop (x21 : Int).toNat)).bind fun t142 => (if t142 = true then (newswirelaw11_WordInText.l0 k x9 x10 x17 (wrap64 (x21 + 1))) else (some false))) else (none)) else (none)) else (none)) else (some false)))
end
def newswirelaw11_WordInText.f (k : Nat) (a0 : Int) (a1 : Int) (l2 : List ByteArray) (l3 : List ByteArray) : Option (Bool) := (XS.newswirelaw11_sane.f k).bind fun t101 => (if t101 = true then ((XS.newswirelaw11_pick.f a0 3).bind fun t102 => ((XS.newswirelaw11_pick.f a1 1000000).bind fun t103 => ((XA.word_Words.f k (wrap64 (1 + t102)) t103).bind fun bt104 => (if bt104.2 = 0 then ((XS.newswirelaw11_few.f k l2).bind fun t108 => ((XS.newswirelaw11_few.f k l3).bind fun t111 => (if (t111.length : Int) > 0 then (if 0 < (t111.length : Int) then ((XI.word_Is.f k (wrap64 (1 + t102)) (rdOf ByteArray.empty t111 0)).bind fun t115 => (if t115 = true then (newswirelaw11_WordInText.j0 k t101 (wrap64 (1 + t102)) t103 bt104.1 t108 ([] : List ByteArray)) else (newswirelaw11_WordInText.j0 k t101 (wrap64 (1 + t102)) t103 bt104.1 t108 t111))) else (none)) else (newswirelaw11_WordInText.j0 k t101 (wrap64 (1 + t102)) t103 bt104.1 t108 t111)))) else (some false))))) else (some false))
theorem newswirelaw11_WordInText.mono_l : ∀ k, (∀ y0 y1 y2 y3 y4 y5, LeO (newswirelaw11_WordInText.j0 k y0 y1 y2 y3 y4 y5) (newswirelaw11_WordInText.j0 (k + 1) y0 y1 y2 y3 y4 y5)) ∧ (∀ y0 y1 y2 y3, LeO (newswirelaw11_WordInText.j1 k y0 y1 y2 y3) (newswirelaw11_WordInText.j1 (k + 1) y0 y1 y2 y3)) ∧ (∀ y0 y1 y2 y3, LeO (newswirelaw11_WordInText.l0 k y0 y1 y2 y3) (newswirelaw11_WordInText.l0 (k + 1) y0 y1 y2 y3)) ∧ (∀ y0 y1 y2 y3 y4 y5 y6, LeO (newswirelaw11_WordInText.j3 k y0 y1 y2 y3 y4 y5 y6) (newswirelaw11_WordInText.j3 (k + 1) y0 y1 y2 y3 y4 y5 y6))
 | 0 => ⟨fun _ _ _ _ _ _ r h => by simp [newswirelaw11_WordInText.j0] at h, fun _ _ _ _ r h => by simp [newswirelaw11_WordInText.j1] at h, fun _ _ _ _ r h => by simp [newswirelaw11_WordInText.l0] at h, fun _ _ _ _ _ _ _ r h => by simp [newswirelaw11_WordInText.j3] at h⟩
 | k + 1 => by
  obtain ⟨ih0, ih1, ih2, ih3⟩ := newswirelaw11_WordInText.mono_l k
  refine ⟨?_, ?_, ?_, ?_⟩
  all_goals
   intros; first | unfold newswirelaw11_WordInText.j0 | unfold newswirelaw11_WordInText.j1 | unfold newswirelaw11_WordInText.l0 | unfold newswirelaw11_WordInText.j3
   repeat' first
   | (with_reducible exact ih0 _ _ _ _ _ _)
   | (with_reducible exact ih1 _ _ _ _)
   | (with_reducible exact ih2 _ _ _ _)
   | (with_reducible exact ih3 _ _ _ _ _ _ _)
   | (with_reducible exact XA.word_Prefix.mono _ _ _ _)
   | (with_reducible exact XA.word_Words.mono _ _ _)
   | (with_reducible exact XI.word_Is.mono _ _ _)
   | (with_reducible exact XS.newswirelaw11_few.mono _ _)
   | (with_reducible exact XS.newswirelaw11_sane.mono _)
   | (with_reducible exact XS.newswireref11_Same.mono _ _ _)
   | (with_reducible exact LeO.refl _)
   | (with_reducible exact LeO.none _)
   | (with_reducible refine LeO.ite ?_ ?_)
   | (with_reducible refine LeO.bind ?_ (fun _ => ?_))
theorem newswirelaw11_WordInText.mono : ∀ a0 a1 a2 a3 k, LeO (newswirelaw11_WordInText.f k a0 a1 a2 a3) (newswirelaw11_WordInText.f (k + 1) a0 a1 a2 a3) := by
 intro a0 a1 a2 a3 k; obtain ⟨ih0, ih1, ih2, ih3⟩ := newswirelaw11_WordInText.mono_l k
 unfold newswirelaw11_WordInText.f
 repeat' first
   | (with_reducible exact ih0 _ _ _ _ _ _)
   | (with_reducible exact ih1 _ _ _ _)
   | (with_reducible exact ih2 _ _ _ _)
   | (with_reducible exact ih3 _ _ _ _ _ _ _)
   | (with_reducible exact XA.word_Prefix.mono _ _ _ _)
   | (with_reducible exact XA.word_Words.mono _ _ _)
   | (with_reducible exact XI.word_Is.mono _ _ _)
   | (with_reducible exact XS.newswirelaw11_few.mono _ _)
   | (with_reducible exact XS.newswirelaw11_sane.mono _)
   | (with_reducible exact XS.newswireref11_Same.mono _ _ _)
   | (with_reducible exact LeO.refl _)
   | (with_reducible exact LeO.none _)
   | (with_reducible refine LeO.ite ?_ ?_)
   | (with_reducible refine LeO.bind ?_ (fun _ => ?_))
theorem newswirelaw11_WordInText.calls (k : Nat) (a0 : Int) (a1 : Int) (A2 : Option Addr) (c2 : Nat) (l2 : List ByteArray) (A3 : Option Addr) (c3 : Nat) (l3 : List ByteArray) (r : Bool) (w : World) (hr2 : Kd.C Kd.string w A2 l2.length l2) (hc2 : l2.length ≤ c2) (hr3 : Kd.C Kd.string w A3 l3.length l3) (hc3 : l3.length ≤ c3) (hL_ : LW w) (h : newswirelaw11_WordInText.f k a0 a1 l2 l3 = some r) :
  Calls Tryd.prog 5 #[.int .i64 a0, .int .i64 a1, .slice A2 l2.length c2, .slice A3 l3.length c3] w fun e w' => e = .returned (.bool r) ∧ Below w.heap.size w w' := by
 have HR2 := am hr2; have HC2 := am hc2; clear hr2 hc2; have HR3 := am hr3; have HC3 := am hc3; clear hr3 hc3; have HLW := am hL_; clear hL_; have HB := am (Below.refl w.heap.size w)
 have H := h; clear h; unfold newswirelaw11_WordInText.f at H; replace H := bm H; obtain ⟨t101, A5, H⟩ := H; replace A5 := am A5
 by_cases c6 : t101 = true; rotate_left
 ·replace c6 := Bool.eq_false_iff.mpr c6
  subst c6; replace H := inn H
  obtain rfl := Option.some.inj H
  go_enter Tryd.func5, Tryd.ntmps5
  go_wp2_with (first | ((with_reducible refine gate_callee (f := 10) rfl ?_); refine gL (some 27) rfl rfl Tryd.func10 #[] ?_; (refine (XS.newswirelaw11_sane.calls k  false _ ?_ A5.out).mono ?_); exact LW.below HLW.out (bes HB.out); rintro e w67 ⟨rfl, hb⟩; refine ⟨_, rfl, ?_⟩; replace HB := bsp HB hb; (try clear hb)))
  go_ret
  exact ⟨er, by exact bes HB.out⟩
 subst c6; replace H := ip H
 replace H := bm H; obtain ⟨t102, A7, H⟩ := H; replace A7 := am A7; replace H := bm H; obtain ⟨t103, A8, H⟩ := H; replace A8 := am A8; replace H := bm H; obtain ⟨⟨t104, t105⟩, A90, H⟩ := H; replace H : (if t105 = 0 then ((XS.newswirelaw11_few.f k l2).bind fun t108 => ((XS.newswirelaw11_few.f k l3).bind fun t111 => (if (t111.length : Int) > 0 then (if 0 < (t111.length : Int) then ((XI.word_Is.f k (wrap64 (1 + t102)) (rdOf ByteArray.empty t111 0)).bind fun t115 => (if t115 = true then (newswirelaw11_WordInText.j0 k true (wrap64 (1 + t102)) t103 t104 t108 ([] : List ByteArray)) else (newswirelaw11_WordInText.j0 k true (wrap64 (1 + t102)) t103 t104 t108 t111))) else (none)) else (newswirelaw11_WordInText.j0 k true (wrap64 (1 + t102)) t103 t104 t108 t111)))) else (some false)) = some r := H; have A9 := am A90; clear A90
 by_cases c10 : t105 = 0; rotate_left
 ·rw [if_neg c10] at H
  have c10b0 := bF c10
  have c10b1 := nT c10; obtain rfl := Option.some.inj H
  go_enter Tryd.func5, Tryd.ntmps5
  go_wp2_with (first | ((with_reducible refine gate_callee (f := 10) rfl ?_); refine gL (some 27) rfl rfl Tryd.func10 #[] ?_; (refine (XS.newswirelaw11_sane.calls k  true _ ?_ A5.out).mono ?_); exact LW.below HLW.out (bes HB.out); rintro e w65 ⟨rfl, hb⟩; refine ⟨_, rfl, ?_⟩; replace HB := bsp HB hb; (try clear hb)) | ((with_reducible refine gate_callee (f := 11) rfl ?_); refine gL (some 31) rfl rfl Tryd.func11 #[.int .i64 a0, .int .i64 3] ?_; (with_reducible refine (XS.newswirelaw11_pick.calls a0 3 t102 _ A7.out).mono ?_); rintro e w' ⟨rfl, ⟨nd, rfl⟩⟩; refine ⟨_, rfl, ?_⟩) | ((with_reducible refine gate_callee (f := 11) rfl ?_); refine gL (some 34) rfl rfl Tryd.func11 #[.int .i64 a1, .int .i64 1000000] ?_; (with_reducible refine (XS.newswirelaw11_pick.calls a1 1000000 t103 _ A8.out).mono ?_); rintro e w' ⟨rfl, ⟨nd, rfl⟩⟩; refine ⟨_, rfl, ?_⟩) | ((with_reducible refine gate_callee (f := 18) rfl ?_); refine gL (some 38) rfl rfl Tryd.func18 #[.int .i64 (wrap64 (1 + t102)), .int .i64 t103] ?_; (refine (XA.word_Words.calls k (wrap64 (1 + t102)) t103 t104 t105 _ ?_ A9.out).mono ?_); exact LW.below HLW.out (bes HB.out); rintro e w66 ⟨v106, rfl, ho0, hb⟩; refine ⟨_, rfl, ?_⟩; have HO107 := am (Kd.R_lower ho0 (below_size (bes HB.out))); replace HB := bsp HB hb; (try clear hb); (try clear ho0)))
  go_ret
  exact ⟨er, by exact bes HB.out⟩
 rw [if_pos c10] at H
 have c10b0 := bT c10
 have c10b1 := nF c10; clear c10; replace H := bm H; obtain ⟨t108, A11, H⟩ := H; replace A11 := am A11; replace H := bm H; obtain ⟨t111, A12, H⟩ := H; replace A12 := am A12; have HC13 := am H; clear H
 go_enter Tryd.func5, Tryd.ntmps5
 go_upto_if 49 with (first | ((with_reducible refine gate_callee (f := 10) rfl ?_); refine gL (some 27) rfl rfl Tryd.func10 #[] ?_; (refine (XS.newswirelaw11_sane.calls k  true _ ?_ A5.out).mono ?_); exact LW.below HLW.out (bes HB.out); rintro e w14 ⟨rfl, hb⟩; refine ⟨_, rfl, ?_⟩; replace HB := bsp HB hb; (try clear hb)) | ((with_reducible refine gate_callee (f := 11) rfl ?_); refine gL (some 31) rfl rfl Tryd.func11 #[.int .i64 a0, .int .i64 3] ?_; (with_reducible refine (XS.newswirelaw11_pick.calls a0 3 t102 _ A7.out).mono ?_); rintro e w' ⟨rfl, ⟨nd, rfl⟩⟩; refine ⟨_, rfl, ?_⟩) | ((with_reducible refine gate_callee (f := 11) rfl ?_); refine gL (some 34) rfl rfl Tryd.func11 #[.int .i64 a1, .int .i64 1000000] ?_; (with_reducible refine (XS.newswirelaw11_pick.calls a1 1000000 t103 _ A8.out).mono ?_); rintro e w' ⟨rfl, ⟨nd, rfl⟩⟩; refine ⟨_, rfl, ?_⟩) | ((with_reducible refine gate_callee (f := 18) rfl ?_); refine gL (some 38) rfl rfl Tryd.func18 #[.int .i64 (wrap64 (1 + t102)), .int .i64 t103] ?_; (refine (XA.word_Words.calls k (wrap64 (1 + t102)) t103 t104 t105 _ ?_ A9.out).mono ?_); exact LW.below HLW.out (bes HB.out); rintro e w15 ⟨v106, rfl, ho0, hb⟩; refine ⟨_, rfl, ?_⟩; have HO107 := am (Kd.R_lower ho0 (below_size (bes HB.out))); replace HB := bsp HB hb; (try clear hb); (try clear ho0)) | ((with_reducible refine gate_callee (f := 13) rfl ?_); refine gL (some 44) rfl rfl Tryd.func13 #[.slice A2 l2.length c2] ?_; (with_reducible refine (XS.newswirelaw11_few.calls k _ _ l2 t108 _ ?_ ?_ A11.out).mono ?_); exact C_st (Kd.C_below HR2.out HB.out); exact HC2.out; rintro e w16 ⟨v109, rfl, ho0, hb⟩; refine ⟨_, rfl, ?_⟩; have HO110 := am (Kd.R_lower (Kd.R_new' ho0 (Kd.R_lt (R_st HO107.out))) (below_size (bes HB.out))); replace HO107 := am (Kd.R_elder' (R_st HO107.out) (Kd.R_base ho0) hb); replace HB := bsp HB hb; (try clear hb); (try clear ho0)) | ((with_reducible refine gate_callee (f := 13) rfl ?_); refine gL (some 46) rfl rfl Tryd.func13 #[.slice A3 l3.length c3] ?_; (with_reducible refine (XS.newswirelaw11_few.calls k _ _ l3 t111 _ ?_ ?_ A12.out).mono ?_); exact C_st (Kd.C_below HR3.out HB.out); exact HC3.out; rintro e w17 ⟨v112, rfl, ho0, hb⟩; refine ⟨_, rfl, ?_⟩; have HO113 := am (Kd.R_lower (Kd.R_new' (Kd.R_new' ho0 (Kd.R_lt (R_st HO107.out))) (Kd.R_lt (R_st HO110.out))) (below_size (bes HB.out))); replace HO107 := am (Kd.R_elder' (R_st HO107.out) (Kd.R_base ho0) hb); replace HO110 := am (Kd.R_elder' (R_st HO110.out) (Kd.R_base ho0) hb); replace HB := bsp HB hb; (try clear hb); (try clear ho0); obtain ⟨Ao18, co18, eo18⟩ := Kd.R_slice HO113.out; subst eo18))
 (try simp only [Act.put, sa_, s0_, s1_])
 go_cut [15] (fun v15 wc => ∃ (kq : Nat) (x15_12 : List ByteArray), Aside0 (newswirelaw11_WordInText.j0 kq true (wrap64 (1 + t102)) t103 t104 t108 x15_12 = some r) ∧ Aside0 (kq ≤ k) ∧ Aside0 (Kd.R Kd.string 9 wc w.heap.size (fun k_ => some k_ ≠ (v109 : Value).ownBlock ∧ some k_ ≠ (v15 : Value).ownBlock) v106 t104) ∧ Aside0 (Kd.R Kd.string 9 wc w.heap.size (fun k_ => some k_ ≠ (v106 : Value).ownBlock ∧ some k_ ≠ (v15 : Value).ownBlock) v109 t108) ∧ Aside0 (Kd.R Kd.string 9 wc w.heap.size (fun k_ => some k_ ≠ (v106 : Value).ownBlock ∧ some k_ ≠ (v109 : Value).ownBlock) v15 x15_12) ∧ Aside0 (Below w.heap.size w wc))
 case first =>
  have H := HC13.out; clear HC13
  by_cases c19 : (t111.length : Int) > 0; rotate_left
  ·rw [if_neg c19] at H
   have c19b0 := dF c19
   have c19b1 : decide (0 < t111.length) = false := decide_eq_false (by omega); clear c19
   (first | rw [c19b0] | rw [c19b1] | (simp only [i64_w, i32_w]; rw [c19b0]) | skip)
   have H' := am H; clear H
   go_wp2
   go_meet
   case rel => exact ⟨_, (t111), H', ⟨om⟩, ⟨by exact R_st (Kd.R_mono HO107.out (fun _ hk => ⟨hk.1.2, hk.2⟩))⟩, ⟨by exact R_st (Kd.R_mono HO110.out (fun _ hk => ⟨hk.1.2, hk.2⟩))⟩, ⟨by exact R_st (Kd.R_mono HO113.out (fun _ hk => ⟨hk.1.2, hk.2⟩))⟩, ⟨by exact bes HB.out⟩⟩
  rw [if_pos c19] at H
  have c19b0 := dT c19
  have c19b1 : decide (0 < t111.length) = true := decide_eq_true (by omega); clear c19
  (first | rw [c19b0] | rw [c19b1] | (simp only [i64_w, i32_w]; rw [c19b0]) | skip)
  by_cases c20 : 0 < (t111.length : Int); rotate_left
  ·rw [if_neg c20] at H
   exact absurd H (by simp)
  rw [if_pos c20] at H
  have c20b0 := dT c20
  have c20b1 : decide (0 < t111.length) = true := decide_eq_true (by omega); clear c20; replace H := bm H; obtain ⟨t115, A21, H⟩ := H; replace A21 := am A21
  by_cases c22 : t115 = true
  ·subst c22
   replace H := ip H
   have H' := am H; clear H
   have p114 : 0 ≤ (0 : Int) := (by omega)
   have q114 : 0 < (t111.length : Int) := of_decide_eq_true (by assumption); obtain ⟨ad114, e114, hx114_0⟩ := Kd.at_string (Kd.R_reads' HO113.out).2.2 0 p114 q114
   cases e114
   have qi114 : (0 < t111.length) = True := eq_true (by omega)
   (try rw [show ((0 : Int)).toNat = 0 from rfl] at hx114_0)
   (try rw [Addr.add_zero'] at hx114_0); replace p114 := eq_true p114; replace q114 := eq_true q114
   go_wp2_with (first | ((with_reducible refine gate_callee (f := 20) rfl ?_); refine gL (some 54) rfl rfl Tryd.func20 #[.int .i64 (wrap64 (1 + t102)), .string (rdOf ByteArray.empty t111 0)] ?_; (refine (XI.word_Is.calls k (wrap64 (1 + t102)) (rdOf ByteArray.empty t111 0) true _ ?_ A21.out).mono ?_); exact LW.below HLW.out (bes HB.out); rintro e w23 ⟨rfl, hb⟩; refine ⟨_, rfl, ?_⟩; replace HO107 := rb HO107 hb; replace HO110 := rb HO110 hb; replace HO113 := rb HO113 hb; replace HB := bsp HB hb; (try clear hb)))
   go_meet
   case rel => exact ⟨_, (([] : List ByteArray)), H', ⟨om⟩, ⟨by exact R_st (Kd.R_mono HO107.out (fun _ hk => ⟨hk.1.2, (by simp [Value.ownBlock])⟩))⟩, ⟨by exact R_st (Kd.R_mono HO110.out (fun _ hk => ⟨hk.1.2, (by simp [Value.ownBlock])⟩))⟩, ⟨nil0⟩, ⟨by exact bes HB.out⟩⟩
  replace c22 := Bool.eq_false_iff.mpr c22; subst c22; replace H := inn H
  have H' := am H; clear H
  have p114 : 0 ≤ (0 : Int) := (by omega)
  have q114 : 0 < (t111.length : Int) := of_decide_eq_true (by assumption); obtain ⟨ad114, e114, hx114_0⟩ := Kd.at_string (Kd.R_reads' HO113.out).2.2 0 p114 q114
  cases e114
  have qi114 : (0 < t111.length) = True := eq_true (by omega)
  (try rw [show ((0 : Int)).toNat = 0 from rfl] at hx114_0)
  (try rw [Addr.add_zero'] at hx114_0); replace p114 := eq_true p114; replace q114 := eq_true q114
  go_wp2_with (first | ((with_reducible refine gate_callee (f := 20) rfl ?_); refine gL (some 54) rfl rfl Tryd.func20 #[.int .i64 (wrap64 (1 + t102)), .string (rdOf ByteArray.empty t111 0)] ?_; (refine (XI.word_Is.calls k (wrap64 (1 + t102)) (rdOf ByteArray.empty t111 0) false _ ?_ A21.out).mono ?_); exact LW.below HLW.out (bes HB.out); rintro e w24 ⟨rfl, hb⟩; refine ⟨_, rfl, ?_⟩; replace HO107 := rb HO107 hb; replace HO110 := rb HO110 hb; replace HO113 := rb HO113 hb; replace HB := bsp HB hb; (try clear hb)))
  go_meet
  case rel => exact ⟨_, (t111), H', ⟨om⟩, ⟨by exact R_st (Kd.R_mono HO107.out (fun _ hk => ⟨hk.1.2, hk.2⟩))⟩, ⟨by exact R_st (Kd.R_mono HO110.out (fun _ hk => ⟨hk.1.2, hk.2⟩))⟩, ⟨by exact R_st (Kd.R_mono HO113.out (fun _ hk => ⟨hk.1.2, hk.2⟩))⟩, ⟨by exact bes HB.out⟩⟩
 clear HC13
 try clear c1
 try clear p1
 try clear q1
 try clear hx1
 try clear qi1
 try clear c2
 try clear p2
 try clear c3
 try clear c5
 try clear c6
 try clear p6
 try clear c10
 try clear c10b0
 try clear c10b1
 try clear c11
 try clear p11
 try clear q11
 try clear hx11
 try clear qi11
 try clear c13
 try clear c18
 try clear c19
 try clear c19b0
 try clear c19b1
 try clear c20
 try clear c20b0
 try clear c20b1
 try clear c22
 try clear hx114_0
 try clear p114
 try clear q114
 obtain ⟨kq, x15_12, HA, HJ12, O3, O0, O2, HB⟩ := hcut
 cases kq with
 | zero => exact absurd HA.out (by simp [newswirelaw11_WordInText.j0])
 | succ kj12 =>
  have H := HA.out; clear HA; simp only [newswirelaw11_WordInText.j0] at H; obtain ⟨y116, hy116⟩ : ∃ y_ : List ByteArray, y_ = (([] : List ByteArray)) := ⟨_, rfl⟩; replace H : (if y116.length + t108.length < 8796093022208 then ((some (y116 ++ t108 : List ByteArray)).bind fun y119 => (if y119.length + t104.length < 8796093022208 then ((some (y119 ++ t104 : List ByteArray)).bind fun y122 => (if y122.length + x15_12.length < 8796093022208 then ((some (y122 ++ x15_12 : List ByteArray)).bind fun y125 => ((XA.word_Prefix.f kj12 (wrap64 (1 + t102)) y125 (t108.length : Int)).bind fun bt128 => (if bt128.2.2 = true then (if bt128.1 = t103 then (newswirelaw11_WordInText.j1 kj12 true (wrap64 (1 + t102)) y125 (bt128.2.1 != (t104.length : Int))) else (newswirelaw11_WordInText.j1 kj12 true (wrap64 (1 + t102)) y125 true)) else (newswirelaw11_WordInText.j1 kj12 true (wrap64 (1 + t102)) y125 true)))) else (none))) else (none))) else (none)) = some r := by first | (rw [hy116]; with_reducible exact H) | (have H2_ := (Option.bind_some _ _).symm.trans H; rw [hy116]; with_reducible exact H2_) | (have H2_ := (Option.bind_some _ _).symm.trans H; with_reducible exact H2_) | with_reducible exact H | (rw [hy116]; exact H) | exact H
  have Ny116 := am hy116; clear hy116
  by_cases c25 : y116.length + t108.length < 8796093022208; rotate_left
  ·rw [if_neg c25] at H
   exact absurd H (by simp)
  rw [if_pos c25] at H; have LMc25 := am c25; clear c25; obtain ⟨y119, hy119⟩ : ∃ y_ : List ByteArray, y_ = (y116 ++ t108) := ⟨_, rfl⟩; replace H : (if y119.length + t104.length < 8796093022208 then ((some (y119 ++ t104 : List ByteArray)).bind fun y122 => (if y122.length + x15_12.length < 8796093022208 then ((some (y122 ++ x15_12 : List ByteArray)).bind fun y125 => ((XA.word_Prefix.f kj12 (wrap64 (1 + t102)) y125 (t108.length : Int)).bind fun bt128 => (if bt128.2.2 = true then (if bt128.1 = t103 then (newswirelaw11_WordInText.j1 kj12 true (wrap64 (1 + t102)) y125 (bt128.2.1 != (t104.length : Int))) else (newswirelaw11_WordInText.j1 kj12 true (wrap64 (1 + t102)) y125 true)) else (newswirelaw11_WordInText.j1 kj12 true (wrap64 (1 + t102)) y125 true)))) else (none))) else (none)) = some r := by first | (rw [hy119]; with_reducible exact H) | (have H2_ := (Option.bind_some _ _).symm.trans H; rw [hy119]; with_reducible exact H2_) | (have H2_ := (Option.bind_some _ _).symm.trans H; with_reducible exact H2_) | with_reducible exact H | (rw [hy119]; exact H) | exact H
  have Ny119 := am hy119; clear hy119
  by_cases c26 : y119.length + t104.length < 8796093022208; rotate_left
  ·rw [if_neg c26] at H
   exact absurd H (by simp)
  rw [if_pos c26] at H; have LMc26 := am c26; clear c26; obtain ⟨y122, hy122⟩ : ∃ y_ : List ByteArray, y_ = (y119 ++ t104) := ⟨_, rfl⟩; replace H : (if y122.length + x15_12.length < 8796093022208 then ((some (y122 ++ x15_12 : List ByteArray)).bind fun y125 => ((XA.word_Prefix.f kj12 (wrap64 (1 + t102)) y125 (t108.length : Int)).bind fun bt128 => (if bt128.2.2 = true then (if bt128.1 = t103 then (newswirelaw11_WordInText.j1 kj12 true (wrap64 (1 + t102)) y125 (bt128.2.1 != (t104.length : Int))) else (newswirelaw11_WordInText.j1 kj12 true (wrap64 (1 + t102)) y125 true)) else (newswirelaw11_WordInText.j1 kj12 true (wrap64 (1 + t102)) y125 true)))) else (none)) = some r := by first | (rw [hy122]; with_reducible exact H) | (have H2_ := (Option.bind_some _ _).symm.trans H; rw [hy122]; with_reducible exact H2_) | (have H2_ := (Option.bind_some _ _).symm.trans H; with_reducible exact H2_) | with_reducible exact H | (rw [hy122]; exact H) | exact H
  have Ny122 := am hy122; clear hy122
  by_cases c27 : y122.length + x15_12.length < 8796093022208; rotate_left
  ·rw [if_neg c27] at H
   exact absurd H (by simp)
  rw [if_pos c27] at H; have LMc27 := am c27; clear c27; obtain ⟨y125, hy125⟩ : ∃ y_ : List ByteArray, y_ = (y122 ++ x15_12) := ⟨_, rfl⟩; replace H : ((XA.word_Prefix.f kj12 (wrap64 (1 + t102)) y125 (t108.length : Int)).bind fun bt128 => (if bt128.2.2 = true then (if bt128.1 = t103 then (newswirelaw11_WordInText.j1 kj12 true (wrap64 (1 + t102)) y125 (bt128.2.1 != (t104.length : Int))) else (newswirelaw11_WordInText.j1 kj12 true (wrap64 (1 + t102)) y125 true)) else (newswirelaw11_WordInText.j1 kj12 true (wrap64 (1 + t102)) y125 true))) = some r := by first | (rw [hy125]; with_reducible exact H) | (have H2_ := (Option.bind_some _ _).symm.trans H; rw [hy125]; with_reducible exact H2_) | (have H2_ := (Option.bind_some _ _).symm.trans H; with_reducible exact H2_) | with_reducible exact H | (rw [hy125]; exact H) | exact H
  have Ny125 := am hy125; clear hy125; replace H := bm H; obtain ⟨⟨t128, t129, t130⟩, A280, H⟩ := H; replace H : (if t130 = true then (if t128 = t103 then (newswirelaw11_WordInText.j1 kj12 true (wrap64 (1 + t102)) y125 (t129 != (t104.length : Int))) else (newswirelaw11_WordInText.j1 kj12 true (wrap64 (1 + t102)) y125 true)) else (newswirelaw11_WordInText.j1 kj12 true (wrap64 (1 + t102)) y125 true)) = some r := H; have A28 := am A280; clear A280; have HC29 := am H; clear H
  go_upto_region 17 with (first | ((with_reducible refine gate_dst (N := 56) rfl ?_); (try (refine gate_guard (by rfl) ?_; dsimp only)); refine Kd.R_lit Kd.string _ 9 ?hg (N := 56) ?hd (xs := ([] : List ByteArray)) (inner := []) (ok := fun _ => True) (okp := fun _ => True) ?hr ?hp (fun _ hk => hk) trivial (Below.refl _ _) (Nat.le_refl _) (by simp) ?_; (case hd => rfl); (case hg => rfl); (case hr => first | (go_simp; done) | (go_simp; rfl)); (case hp => exact (Reps.none _ _)); intro v117 w30 ho31 hb hg_ hnew_; clear hg_ hnew_; (first | rw [← Ny116.out] at ho31 | (simp only [Int.reduceToNat] at ho31; rw [← Ny116.out] at ho31)); have HO118 := am (Kd.R_lower (Kd.R_new' (Kd.R_new' (Kd.R_new' ho31 (Kd.R_lt (R_st O3.out))) (Kd.R_lt (R_st O0.out))) (Kd.R_lt (R_st O2.out))) (below_size (bes HB.out))); replace O3 := am (Kd.R_elder' (R_st O3.out) (Kd.R_base ho31) hb); replace O0 := am (Kd.R_elder' (R_st O0.out) (Kd.R_base ho31) hb); replace O2 := am (Kd.R_elder' (R_st O2.out) (Kd.R_base ho31) hb); replace HB := bsp HB hb; clear hb ho31; obtain ⟨Ao33, co33, eo33⟩ := Kd.R_slice O0.out; subst eo33) | ((with_reducible refine gate_builtin (b := .append) (xs := #[.tmp 56, .tmp 57]) rfl ?_); (try (refine gate_guard (by rfl) ?_; dsimp only)); at_builtin; refine Kd.R_append_rows Kd.string (w0 := w) w.heap.size rfl (.tmp 56) (.tmp 57) 22 9 (.string ⟨#[]⟩) 16 rfl Tryd.underlying22 info9 rfl (by decide) (by omega) v117 y116 t108 _ _ _ (fun k_ => some k_ ≠ (v106 : Value).ownBlock ∧ some k_ ≠ (.slice Ao33 t108.length co33 : Value).ownBlock ∧ some k_ ≠ (u15 : Value).ownBlock) (fun _ => False) rfl rfl ?aO ?aR (fun _ _ h => h) (fun _ h => h.elim) ?aF ?aB ?aS ?aL ?_; (case aR => exact C_st ((Kd.R_reads' O0.out).2.2)); (case aB => exact (bes HB.out)); (case aF => exact (fun k_ hk => ⟨Kd.fresh' (Kd.R_lt (R_st O3.out)) k_ hk, Kd.fresh' (Kd.R_lt (R_st O0.out)) k_ hk, Kd.fresh' (Kd.R_lt (R_st O2.out)) k_ hk⟩)); (case aO => exact (by exact R_st (Kd.R_mono HO118.out (fun _ hk => ⟨hk.1.1.2, ⟨hk.1.2, hk.2⟩⟩)))); (case aS => exact (below_size (bes HB.out))); (case aL => have := LMc25.out; omega); intro v120 w32 ho hb hg hat; rw [← Ny119.out] at ho; have n0_ := am (Kd.R_after (ok := (fun k_ => some k_ ≠ (.slice Ao33 t108.length co33 : Value).ownBlock ∧ some k_ ≠ (u15 : Value).ownBlock)) (R_st O3.out) hg hat); have n1_ := am (Kd.R_after (ok := (fun k_ => some k_ ≠ (v106 : Value).ownBlock ∧ some k_ ≠ (u15 : Value).ownBlock)) (R_st O0.out) hg hat); have n2_ := am (Kd.R_after (ok := (fun k_ => some k_ ≠ (v106 : Value).ownBlock ∧ some k_ ≠ (.slice Ao33 t108.length co33 : Value).ownBlock)) (R_st O2.out) hg hat); have n3_ := am (hb); have n4_ := am (ho); clear O3; clear O0; clear O2; clear HB; clear HO118; have O3 := n0_; have O0 := n1_; have O2 := n2_; have HB := n3_; have HO121 := n4_; clear n0_ n1_ n2_ n3_ n4_; clear ho hb hg hat; obtain ⟨Ao35, co35, eo35⟩ := Kd.R_slice O3.out; subst eo35) | ((with_reducible refine gate_builtin (b := .append) (xs := #[.tmp 58, .tmp 59]) rfl ?_); (try (refine gate_guard (by rfl) ?_; dsimp only)); at_builtin; refine Kd.R_append_rows Kd.string (w0 := w) w.heap.size rfl (.tmp 58) (.tmp 59) 22 9 (.string ⟨#[]⟩) 16 rfl Tryd.underlying22 info9 rfl (by decide) (by omega) v120 y119 t104 _ _ _ (fun k_ => some k_ ≠ (.slice Ao35 t104.length co35 : Value).ownBlock ∧ some k_ ≠ (.slice Ao33 t108.length co33 : Value).ownBlock ∧ some k_ ≠ (u15 : Value).ownBlock) (fun _ => False) rfl rfl ?aO ?aR (fun _ _ h => h) (fun _ h => h.elim) ?aF ?aB ?aS ?aL ?_; (case aR => exact C_st ((Kd.R_reads' O3.out).2.2)); (case aB => exact (bes HB.out)); (case aF => exact (fun k_ hk => ⟨Kd.fresh' (Kd.R_lt (R_st O3.out)) k_ hk, Kd.fresh' (Kd.R_lt (R_st O0.out)) k_ hk, Kd.fresh' (Kd.R_lt (R_st O2.out)) k_ hk⟩)); (case aO => exact (R_st HO121.out)); (case aS => exact (below_size (bes HB.out))); (case aL => have := LMc26.out; omega); intro v123 w34 ho hb hg hat; rw [← Ny122.out] at ho; have n0_ := am (Kd.R_after (ok := (fun k_ => some k_ ≠ (.slice Ao33 t108.length co33 : Value).ownBlock ∧ some k_ ≠ (u15 : Value).ownBlock)) (R_st O3.out) hg hat); have n1_ := am (Kd.R_after (ok := (fun k_ => some k_ ≠ (.slice Ao35 t104.length co35 : Value).ownBlock ∧ some k_ ≠ (u15 : Value).ownBlock)) (R_st O0.out) hg hat); have n2_ := am (Kd.R_after (ok := (fun k_ => some k_ ≠ (.slice Ao35 t104.length co35 : Value).ownBlock ∧ some k_ ≠ (.slice Ao33 t108.length co33 : Value).ownBlock)) (R_st O2.out) hg hat); have n3_ := am (hb); have n4_ := am (ho); clear O3; clear O0; clear O2; clear HB; clear HO121; have O3 := n0_; have O0 := n1_; have O2 := n2_; have HB := n3_; have HO124 := n4_; clear n0_ n1_ n2_ n3_ n4_; clear ho hb hg hat; obtain ⟨Ao37, co37, eo37⟩ := Kd.R_slice O2.out; subst eo37) | ((with_reducible refine gate_builtin (b := .append) (xs := #[.tmp 60, .tmp 61]) rfl ?_); (try (refine gate_guard (by rfl) ?_; dsimp only)); at_builtin; refine Kd.R_append_rows Kd.string (w0 := w) w.heap.size rfl (.tmp 60) (.tmp 61) 22 9 (.string ⟨#[]⟩) 16 rfl Tryd.underlying22 info9 rfl (by decide) (by omega) v123 y122 x15_12 _ _ _ (fun k_ => some k_ ≠ (.slice Ao35 t104.length co35 : Value).ownBlock ∧ some k_ ≠ (.slice Ao33 t108.length co33 : Value).ownBlock ∧ some k_ ≠ (.slice Ao37 x15_12.length co37 : Value).ownBlock) (fun _ => False) rfl rfl ?aO ?aR (fun _ _ h => h) (fun _ h => h.elim) ?aF ?aB ?aS ?aL ?_; (case aR => exact C_st ((Kd.R_reads' O2.out).2.2)); (case aB => exact (bes HB.out)); (case aF => exact (fun k_ hk => ⟨Kd.fresh' (Kd.R_lt (R_st O3.out)) k_ hk, Kd.fresh' (Kd.R_lt (R_st O0.out)) k_ hk, Kd.fresh' (Kd.R_lt (R_st O2.out)) k_ hk⟩)); (case aO => exact (R_st HO124.out)); (case aS => exact (below_size (bes HB.out))); (case aL => have := LMc27.out; omega); intro v126 w36 ho hb hg hat; rw [← Ny125.out] at ho; have n0_ := am (Kd.R_after (ok := (fun k_ => some k_ ≠ (.slice Ao33 t108.length co33 : Value).ownBlock ∧ some k_ ≠ (.slice Ao37 x15_12.length co37 : Value).ownBlock)) (R_st O3.out) hg hat); have n1_ := am (Kd.R_after (ok := (fun k_ => some k_ ≠ (.slice Ao35 t104.length co35 : Value).ownBlock ∧ some k_ ≠ (.slice Ao37 x15_12.length co37 : Value).ownBlock)) (R_st O0.out) hg hat); have n2_ := am (Kd.R_after (ok := (fun k_ => some k_ ≠ (.slice Ao35 t104.length co35 : Value).ownBlock ∧ some k_ ≠ (.slice Ao33 t108.length co33 : Value).ownBlock)) (R_st O2.out) hg hat); have n3_ := am (hb); have n4_ := am (ho); clear O3; clear O0; clear O2; clear HB; clear HO124; have O3 := n0_; have O0 := n1_; have O2 := n2_; have HB := n3_; have HO127 := n4_; clear n0_ n1_ n2_ n3_ n4_; clear ho hb hg hat; obtain ⟨Ao38, co38, eo38⟩ := Kd.R_slice HO127.out; subst eo38) | ((with_reducible refine gate_callee (f := 16) rfl ?_); refine gL (some 68) rfl rfl Tryd.func16 #[.int .i64 (wrap64 (1 + t102)), .slice Ao38 y125.length co38, .int .i64 (t108.length : Int)] ?_; (refine (XA.word_Prefix.calls kj12 (wrap64 (1 + t102)) _ _ y125 (t108.length : Int) t128 t129 t130 _ ?_ ?_ ?_ A28.out).mono ?_); exact C_st ((Kd.R_reads' HO127.out).2.2); exact (Kd.R_reads' HO127.out).2.1; exact LW.below HLW.out (bes HB.out); rintro e w39 ⟨rfl, hb⟩; refine ⟨_, rfl, ?_⟩; replace O3 := rb O3 hb; replace O0 := rb O0 hb; replace O2 := rb O2 hb; replace HO127 := rb HO127 hb; replace HB := bsp HB hb; (try clear hb)))
  (try simp only [Act.put, sa_, s0_, s1_])
  go_cut [84] (fun v84 wc => ∃ (kq : Nat) (x84_28 : Bool), v84 = .bool x84_28 ∧ Aside0 (newswirelaw11_WordInText.j1 kq true (wrap64 (1 + t102)) y125 x84_28 = some r) ∧ Aside0 (kq ≤ kj12) ∧ Aside0 (Kd.R Kd.string 9 wc w.heap.size (fun _ => True) (.slice Ao38 y125.length co38) y125) ∧ Aside0 (Below w.heap.size w wc))
  case first =>
   have H := HC29.out; clear HC29
   by_cases c40 : t130 = true; rotate_left
   ·replace c40 := Bool.eq_false_iff.mpr c40
    subst c40; replace H := inn H
    have H' := am H; clear H
    go_wp2
    go_meet
    case rel => exact ⟨_, (true), cd, H', ⟨by have := HJ12.out; first | omega | exact Nat.le_refl _⟩, ⟨by exact R_st (Kd.R_mono HO127.out (fun _ hk => trivial))⟩, ⟨by exact bes HB.out⟩⟩
   subst c40; replace H := ip H
   by_cases c41 : t128 = t103
   ·rw [if_pos c41] at H
    have c41b0 := bT c41
    have c41b1 := nF c41; clear c41
    (first | rw [c41b0] | (simp only [i64_w, i32_w]; rw [c41b0]) | skip)
    have H' := am H; clear H
    go_wp2
    go_meet
    case rel => exact ⟨_, ((t129 != (t104.length : Int))), cd, H', ⟨by have := HJ12.out; first | omega | exact Nat.le_refl _⟩, ⟨by exact R_st (Kd.R_mono HO127.out (fun _ hk => trivial))⟩, ⟨by exact bes HB.out⟩⟩
   rw [if_neg c41] at H
   have c41b0 := bF c41
   have c41b1 := nT c41
   (first | rw [c41b0] | (simp only [i64_w, i32_w]; rw [c41b0]) | skip)
   have H' := am H; clear H
   go_wp2
   go_meet
   case rel => exact ⟨_, (true), cd, H', ⟨by have := HJ12.out; first | omega | exact Nat.le_refl _⟩, ⟨by exact R_st (Kd.R_mono HO127.out (fun _ hk => trivial))⟩, ⟨by exact bes HB.out⟩⟩
  clear HC29
  try clear c1
  try clear p1
  try clear q1
  try clear hx1
  try clear qi1
  try clear c2
  try clear p2
  try clear c3
  try clear c4
  try clear c5
  try clear c6
  try clear p6
  try clear c10
  try clear c10b0
  try clear c10b1
  try clear c11
  try clear p11
  try clear q11
  try clear hx11
  try clear qi11
  try clear c13
  try clear c16
  try clear c18
  try clear c19
  try clear c19b0
  try clear c19b1
  try clear c20
  try clear c20b0
  try clear c20b1
  try clear c22
  try clear c25
  try clear c26
  try clear c27
  try clear c40
  try clear c41
  try clear c41b0
  try clear c41b1
  try clear hx114_0
  try clear p1
  try clear p11
  try clear p114
  try clear p2
  try clear p6
  try clear q1
  try clear q11
  try clear q114
  obtain ⟨kq, x84_28, rfl, HA, HJ28, O1, HB⟩ := hcut
  cases kq with
  | zero => exact absurd HA.out (by simp [newswirelaw11_WordInText.j1])
  | succ kj28 =>
   have H := HA.out; clear HA; simp only [newswirelaw11_WordInText.j1] at H
   by_cases c42 : x84_28 = true
   ·subst c42
    replace H := ip H
    obtain rfl := Option.some.inj H
    go_wp2
    go_ret
    exact ⟨er, by exact bes HB.out⟩
   replace c42 := Bool.eq_false_iff.mpr c42; subst c42; replace H := inn H
   have H' := am H; clear H
   go_wp2
   go_loopg [21] kj28 (fun kq v21 w' => ∃ (x21_3 : Int), v21 = .int .i64 x21_3 ∧ Aside0 (newswirelaw11_WordInText.l0 kq true (wrap64 (1 + t102)) y125 x21_3 = some r) ∧ Aside0 (kq ≤ kj28) ∧ Aside0 (Kd.R Kd.string 9 w' w.heap.size (fun _ => True) (.slice Ao38 y125.length co38) y125) ∧ Aside0 (Below w.heap.size w w'))
   case atStart => exact ⟨(0), cd, H', ⟨Nat.le_refl _⟩, ⟨by exact R_st O1.out⟩, ⟨by exact bes HB.out⟩⟩
   clear H'
   try clear c1
   try clear p1
   try clear q1
   try clear hx1
   try clear qi1
   try clear c2
   try clear p2
   try clear c3
   try clear c4
   try clear c5
   try clear c6
   try clear p6
   try clear c10
   try clear c10b0
   try clear c10b1
   try clear c11
   try clear p11
   try clear q11
   try clear hx11
   try clear qi11
   try clear c13
   try clear c16
   try clear c18
   try clear c19
   try clear c19b0
   try clear c19b1
   try clear c20
   try clear c20b0
   try clear c20b1
   try clear c22
   try clear c25
   try clear c26
   try clear c27
   try clear c40
   try clear c41
   try clear c41b0
   try clear c41b1
   try clear c42
   try clear hx114_0
   try clear p1
   try clear p11
   try clear p114
   try clear p2
   try clear p6
   try clear q1
   try clear q11
   try clear q114
   obtain ⟨x21_3, rfl, HA, HK3, O1, HB⟩ := hrel
   cases gk with
   | zero => exact absurd HA.out (by simp [newswirelaw11_WordInText.l0])
   | succ k3 =>
    have H := HA.out; clear HA; simp only [newswirelaw11_WordInText.l0] at H
    by_cases c43 : x21_3 < (y125.length : Int); rotate_left
    ·rw [if_neg c43] at H
     have c43b0 := dF c43; clear c43; obtain rfl := Option.some.inj H
     go_wp2
     go_ret
     exact ⟨er, by exact bes HB.out⟩
    rw [if_pos c43] at H
    have c43b0 := dT c43; clear c43; replace H := bm H; obtain ⟨⟨t131, t132, t133⟩, A440, H⟩ := H; replace H : (if t133 = true then (if t132 < 1 then (newswirelaw11_WordInText.j3 k3 true (wrap64 (1 + t102)) y125 x21_3 t131 t132 true) else (newswirelaw11_WordInText.j3 k3 true (wrap64 (1 + t102)) y125 x21_3 t131 t132 (decide ((wrap64 (x21_3 + t132)) > (y125.length : Int))))) else (newswirelaw11_WordInText.l0 k3 true (wrap64 (1 + t102)) y125 (wrap64 (x21_3 + 1)))) = some r := H; have A44 := am A440; clear A440
    by_cases c45 : t133 = true; rotate_left
    ·replace c45 := Bool.eq_false_iff.mpr c45
     subst c45; replace H := inn H
     have H' := am H; clear H
     go_wp2_with (first | ((with_reducible refine gate_callee (f := 16) rfl ?_); refine gL (some 95) rfl rfl Tryd.func16 #[.int .i64 (wrap64 (1 + t102)), .slice Ao38 y125.length co38, .int .i64 x21_3] ?_; (refine (XA.word_Prefix.calls k3 (wrap64 (1 + t102)) _ _ y125 x21_3 t131 t132 false _ ?_ ?_ ?_ A44.out).mono ?_); exact C_st ((Kd.R_reads' O1.out).2.2); exact (Kd.R_reads' O1.out).2.1; exact LW.below HLW.out (bes HB.out); rintro e w64 ⟨rfl, hb⟩; refine ⟨_, rfl, ?_⟩; replace O1 := rb O1 hb; replace HB := bsp HB hb; (try clear hb)))
     go_roundg k3
     case measure => have := HJ12.out; have := HJ28.out; have := HK3.out; omega
     case rel => exact ⟨(wrap64 (x21_3 + 1)), cd, H', ⟨by have := HJ12.out; have := HJ28.out; have := HK3.out; omega⟩, ⟨by exact R_st O1.out⟩, ⟨by exact bes HB.out⟩⟩
    subst c45; replace H := ip H
    have HC46 := am H; clear H
    go_upto_region 24 with (first | ((with_reducible refine gate_callee (f := 16) rfl ?_); refine gL (some 95) rfl rfl Tryd.func16 #[.int .i64 (wrap64 (1 + t102)), .slice Ao38 y125.length co38, .int .i64 x21_3] ?_; (refine (XA.word_Prefix.calls k3 (wrap64 (1 + t102)) _ _ y125 x21_3 t131 t132 true _ ?_ ?_ ?_ A44.out).mono ?_); exact C_st ((Kd.R_reads' O1.out).2.2); exact (Kd.R_reads' O1.out).2.1; exact LW.below HLW.out (bes HB.out); rintro e w47 ⟨rfl, hb⟩; refine ⟨_, rfl, ?_⟩; replace O1 := rb O1 hb; replace HB := bsp HB hb; (try clear hb)))
    (try simp only [Act.put, sa_, s0_, s1_])
    go_cut [110] (fun v110 wc => ∃ (kq : Nat) (x110_45 : Bool), v110 = .bool x110_45 ∧ Aside0 (newswirelaw11_WordInText.j3 kq true (wrap64 (1 + t102)) y125 x21_3 t131 t132 x110_45 = some r) ∧ Aside0 (kq ≤ k3) ∧ Aside0 (Kd.R Kd.string 9 wc w.heap.size (fun _ => True) (.slice Ao38 y125.length co38) y125) ∧ Aside0 (Below w.heap.size w wc))
    case first =>
     have H := HC46.out; clear HC46
     by_cases c48 : t132 < 1
     ·rw [if_pos c48] at H
      have c48b0 := dT c48; clear c48
      (first | rw [c48b0] | (simp only [i64_w, i32_w]; rw [c48b0]) | skip)
      have H' := am H; clear H
      go_wp2
      go_meet
      case rel => exact ⟨_, (true), cd, H', ⟨by have := HJ12.out; have := HJ28.out; have := HK3.out; first | omega | exact Nat.le_refl _⟩, ⟨by exact R_st O1.out⟩, ⟨by exact bes HB.out⟩⟩
     rw [if_neg c48] at H
     have c48b0 := dF c48; clear c48
     (first | rw [c48b0] | (simp only [i64_w, i32_w]; rw [c48b0]) | skip)
     have H' := am H; clear H
     go_wp2
     go_meet
     case rel => exact ⟨_, (decide ((wrap64 (x21_3 + t132)) > (y125.length : Int))), cd, H', ⟨by have := HJ12.out; have := HJ28.out; have := HK3.out; first | omega | exact Nat.le_refl _⟩, ⟨by exact R_st O1.out⟩, ⟨by exact bes HB.out⟩⟩
    clear HC46
    try clear c1
    try clear p1
    try clear q1
    try clear hx1
    try clear qi1
    try clear c2
    try clear p2
    try clear c3
    try clear c4
    try clear c5
    try clear c6
    try clear p6
    try clear c10
    try clear c10b0
    try clear c10b1
    try clear c11
    try clear p11
    try clear q11
    try clear hx11
    try clear qi11
    try clear c13
    try clear c16
    try clear c18
    try clear c19
    try clear c19b0
    try clear c19b1
    try clear c20
    try clear c20b0
    try clear c20b1
    try clear c22
    try clear c25
    try clear c26
    try clear c27
    try clear c40
    try clear c41
    try clear c41b0
    try clear c41b1
    try clear c42
    try clear c43
    try clear c43b0
    try clear c45
    try clear c48
    try clear c48b0
    try clear hx114_0
    try clear p1
    try clear p11
    try clear p114
    try clear p2
    try clear p6
    try clear q1
    try clear q11
    try clear q114
    obtain ⟨kq, x110_45, rfl, HA, HJ45, O1, HB⟩ := hcut
    cases kq with
    | zero => exact absurd HA.out (by simp [newswirelaw11_WordInText.j3])
    | succ kj45 =>
     have H := HA.out; clear HA; simp only [newswirelaw11_WordInText.j3] at H
     by_cases c49 : x110_45 = true
     ·subst c49
      replace H := ip H
      obtain rfl := Option.some.inj H
      go_wp2
      go_ret
      exact ⟨er, by exact bes HB.out⟩
     replace c49 := Bool.eq_false_iff.mpr c49; subst c49; replace H := inn H
     replace H := bm H; obtain ⟨⟨t134, t135⟩, A500, H⟩ := H; replace H : (if t135 = 0 then (if 0 ≤ x21_3 then (if x21_3 ≤ (wrap64 (x21_3 + t132)) then (if (wrap64 (x21_3 + t132)) ≤ (y125.length : Int) then ((XS.newswireref11_Same.f kj45 t134 ((y125.take ((wrap64 (x21_3 + t132)) : Int).toNat).drop (x21_3 : Int).toNat)).bind fun t142 => (if t142 = true then (newswirelaw11_WordInText.l0 kj45 true (wrap64 (1 + t102)) y125 (wrap64 (x21_3 + 1))) else (some false))) else (none)) else (none)) else (none)) else (some false)) = some r := H; have A50 := am A500; clear A500
     by_cases c51 : t135 = 0; rotate_left
     ·rw [if_neg c51] at H
      have c51b0 := bF c51
      have c51b1 := nT c51; obtain rfl := Option.some.inj H
      go_wp2_with (first | ((with_reducible refine gate_callee (f := 18) rfl ?_); refine gL (some 114) rfl rfl Tryd.func18 #[.int .i64 (wrap64 (1 + t102)), .int .i64 t131] ?_; (refine (XA.word_Words.calls kj45 (wrap64 (1 + t102)) t131 t134 t135 _ ?_ A50.out).mono ?_); exact LW.below HLW.out (bes HB.out); rintro e w63 ⟨v136, rfl, ho0, hb⟩; refine ⟨_, rfl, ?_⟩; have HO137 := am (Kd.R_lower (Kd.R_new' ho0 (Kd.R_lt (R_st O1.out))) (below_size (bes HB.out))); replace O1 := am (Kd.R_elder' (R_st O1.out) (Kd.R_base ho0) hb); replace HB := bsp HB hb; (try clear hb); (try clear ho0)))
      go_ret
      exact ⟨er, by exact bes HB.out⟩
     rw [if_pos c51] at H
     have c51b0 := bT c51
     have c51b1 := nF c51; clear c51
     by_cases c52 : 0 ≤ x21_3; rotate_left
     ·rw [if_neg c52] at H
      exact absurd H (by simp)
     rw [if_pos c52] at H; have c52b0 := eq_true c52
     have c52b1 := dT c52; clear c52
     by_cases c53 : x21_3 ≤ (wrap64 (x21_3 + t132)); rotate_left
     ·rw [if_neg c53] at H
      exact absurd H (by simp)
     rw [if_pos c53] at H; have c53b0 := eq_true c53
     have c53b1 := dT c53
     by_cases c54 : (wrap64 (x21_3 + t132)) ≤ (y125.length : Int); rotate_left
     ·rw [if_neg c54] at H
      exact absurd H (by simp)
     rw [if_pos c54] at H; have c54b0 := eq_true c54
     have c54b1 := dT c54; obtain ⟨y138, hy138⟩ : ∃ y_ : List ByteArray, y_ = ((y125.take ((wrap64 (x21_3 + t132)) : Int).toNat).drop (x21_3 : Int).toNat) := ⟨_, rfl⟩; replace H : ((XS.newswireref11_Same.f kj45 t134 y138).bind fun t142 => (if t142 = true then (newswirelaw11_WordInText.l0 kj45 true (wrap64 (1 + t102)) y125 (wrap64 (x21_3 + 1))) else (some false))) = some r := by first | (rw [hy138]; with_reducible exact H) | (have H2_ := (Option.bind_some _ _).symm.trans H; rw [hy138]; with_reducible exact H2_) | (have H2_ := (Option.bind_some _ _).symm.trans H; with_reducible exact H2_) | with_reducible exact H | (rw [hy138]; exact H) | exact H
     have Ny138 := am hy138; clear hy138; replace H := bm H; obtain ⟨t142, A55, H⟩ := H; replace A55 := am A55
     by_cases c56 : t142 = true
     ·subst c56
      replace H := ip H
      have H' := am H; clear H
      go_wp2_with (first | ((with_reducible refine gate_callee (f := 18) rfl ?_); refine gL (some 114) rfl rfl Tryd.func18 #[.int .i64 (wrap64 (1 + t102)), .int .i64 t131] ?_; (refine (XA.word_Words.calls kj45 (wrap64 (1 + t102)) t131 t134 t135 _ ?_ A50.out).mono ?_); exact LW.below HLW.out (bes HB.out); rintro e w57 ⟨v136, rfl, ho0, hb⟩; refine ⟨_, rfl, ?_⟩; have HO137 := am (Kd.R_lower (Kd.R_new' ho0 (Kd.R_lt (R_st O1.out))) (below_size (bes HB.out))); replace O1 := am (Kd.R_elder' (R_st O1.out) (Kd.R_base ho0) hb); replace HB := bsp HB hb; (try clear hb); (try clear ho0); have q58 : ((wrap64 (x21_3 + t132)) : Int) ≤ ((y125.length : Int) : Int) := of_decide_eq_true (by assumption); obtain ⟨i058, hi058, _, hsz58, _⟩ := info_parts info9; have hroom58 : y125.length ≤ co38 := (Kd.R_reads' O1.out).2.1; have hC58 : Kd.C Kd.string _ Ao38 y125.length y125 := (Kd.R_reads' O1.out).2.2; have ql58 : (x21_3 : Int) ≤ ((wrap64 (x21_3 + t132)) : Int) := of_decide_eq_true (by assumption); have q058 : (0 : Int) ≤ (x21_3 : Int) := of_decide_eq_true (by assumption); have hcut58 := cut_mid (P := Tryd.prog) 22 9 .i64 .i64 Tryd.underlying22 hi058 1 hsz58 Ao38 y125.length co38 x21_3 (wrap64 (x21_3 + t132)) q058 ql58 q58 hroom58; have hr58 := Kd.C_mid (lo := (x21_3 : Int).toNat) (hi := ((wrap64 (x21_3 + t132)) : Int).toNat) (c := co38) hC58 (by omega) (by omega) hroom58; obtain ⟨A58, hA58⟩ : ∃ A1, A1 = (if co38 = (x21_3 : Int).toNat then Ao38 else (Ao38 : Option Addr).map (·.add ((x21_3 : Int).toNat * 1))) := ⟨_, rfl⟩; obtain ⟨c58, hc58⟩ : ∃ c1, c1 = co38 - (x21_3 : Int).toNat := ⟨_, rfl⟩; have hy58 : y138.length = ((wrap64 (x21_3 + t132)) : Int).toNat - (x21_3 : Int).toNat := (by rw [Ny138.out, List.length_drop, List.length_take] <;> omega); rw [show ((y125).take ((wrap64 (x21_3 + t132)) : Int).toNat).drop (x21_3 : Int).toNat = y138 from Ny138.out.symm] at hr58; replace hr58 : Kd.C Kd.string _ A58 y138.length y138 := (by rw [hA58]; exact hr58); rw [← hy58, ← hA58, ← hc58] at hcut58; have HR141 := am hr58; have HC141 := am (show y138.length ≤ c58 from by rw [hy58, hc58]; exact Nat.sub_le_sub_right (Nat.le_trans (by omega) hroom58) _); clear hr58 hC58 hroom58 hi058 hsz58 hc58; have KY58 := am hy58; have KA58 := am hA58; clear hy58 hA58; have KL58 := am (show ((wrap64 (x21_3 + t132)) : Int).toNat ≤ y125.length from by omega); have KM58 := am (show (x21_3 : Int).toNat ≤ ((wrap64 (x21_3 + t132)) : Int).toNat from by omega); replace q58 := eq_true q58; obtain ⟨Ao59, co59, eo59⟩ := Kd.R_slice HO137.out; subst eo59) | (go_at_call 19; (refine (XS.newswireref11_Same.calls kj45 _ _ t134 _ _ y138 true _ ?_ ?_ ?_ ?_ A55.out).mono ?_); exact C_st ((Kd.R_reads' HO137.out).2.2); exact (Kd.R_reads' HO137.out).2.1; exact C_st (by repeat (first | (with_reducible exact HR141.out) | (with_reducible refine Kd.C_alloc ?_ _) | (with_reducible refine Kd.C_drewN ?_ _) | (with_reducible refine Kd.C_drew ?_) | exact HR141.out)); exact HC141.out; rintro e w' ⟨rfl, ⟨nd, rfl⟩⟩))
      go_roundg kj45
      case measure => have := HJ12.out; have := HJ28.out; have := HK3.out; have := HJ45.out; omega
      case rel => exact ⟨(wrap64 (x21_3 + 1)), cd, H', ⟨by have := HJ12.out; have := HJ28.out; have := HK3.out; have := HJ45.out; omega⟩, ⟨by exact R_st (Kd.R_mono O1.out (fun _ hk => trivial))⟩, ⟨by exact bes HB.out⟩⟩
     replace c56 := Bool.eq_false_iff.mpr c56; subst c56; replace H := inn H
     obtain rfl := Option.some.inj H
     go_wp2_with (first | ((with_reducible refine gate_callee (f := 18) rfl ?_); refine gL (some 114) rfl rfl Tryd.func18 #[.int .i64 (wrap64 (1 + t102)), .int .i64 t131] ?_; (refine (XA.word_Words.calls kj45 (wrap64 (1 + t102)) t131 t134 t135 _ ?_ A50.out).mono ?_); exact LW.below HLW.out (bes HB.out); rintro e w60 ⟨v136, rfl, ho0, hb⟩; refine ⟨_, rfl, ?_⟩; have HO137 := am (Kd.R_lower (Kd.R_new' ho0 (Kd.R_lt (R_st O1.out))) (below_size (bes HB.out))); replace O1 := am (Kd.R_elder' (R_st O1.out) (Kd.R_base ho0) hb); replace HB := bsp HB hb; (try clear hb); (try clear ho0); have q61 : ((wrap64 (x21_3 + t132)) : Int) ≤ ((y125.length : Int) : Int) := of_decide_eq_true (by assumption); obtain ⟨i061, hi061, _, hsz61, _⟩ := info_parts info9; have hroom61 : y125.length ≤ co38 := (Kd.R_reads' O1.out).2.1; have hC61 : Kd.C Kd.string _ Ao38 y125.length y125 := (Kd.R_reads' O1.out).2.2; have ql61 : (x21_3 : Int) ≤ ((wrap64 (x21_3 + t132)) : Int) := of_decide_eq_true (by assumption); have q061 : (0 : Int) ≤ (x21_3 : Int) := of_decide_eq_true (by assumption); have hcut61 := cut_mid (P := Tryd.prog) 22 9 .i64 .i64 Tryd.underlying22 hi061 1 hsz61 Ao38 y125.length co38 x21_3 (wrap64 (x21_3 + t132)) q061 ql61 q61 hroom61; have hr61 := Kd.C_mid (lo := (x21_3 : Int).toNat) (hi := ((wrap64 (x21_3 + t132)) : Int).toNat) (c := co38) hC61 (by omega) (by omega) hroom61; obtain ⟨A61, hA61⟩ : ∃ A1, A1 = (if co38 = (x21_3 : Int).toNat then Ao38 else (Ao38 : Option Addr).map (·.add ((x21_3 : Int).toNat * 1))) := ⟨_, rfl⟩; obtain ⟨c61, hc61⟩ : ∃ c1, c1 = co38 - (x21_3 : Int).toNat := ⟨_, rfl⟩; have hy61 : y138.length = ((wrap64 (x21_3 + t132)) : Int).toNat - (x21_3 : Int).toNat := (by rw [Ny138.out, List.length_drop, List.length_take] <;> omega); rw [show ((y125).take ((wrap64 (x21_3 + t132)) : Int).toNat).drop (x21_3 : Int).toNat = y138 from Ny138.out.symm] at hr61; replace hr61 : Kd.C Kd.string _ A61 y138.length y138 := (by rw [hA61]; exact hr61); rw [← hy61, ← hA61, ← hc61] at hcut61; have HR141 := am hr61; have HC141 := am (show y138.length ≤ c61 from by rw [hy61, hc61]; exact Nat.sub_le_sub_right (Nat.le_trans (by omega) hroom61) _); clear hr61 hC61 hroom61 hi061 hsz61 hc61; have KY61 := am hy61; have KA61 := am hA61; clear hy61 hA61; have KL61 := am (show ((wrap64 (x21_3 + t132)) : Int).toNat ≤ y125.length from by omega); have KM61 := am (show (x21_3 : Int).toNat ≤ ((wrap64 (x21_3 + t132)) : Int).toNat from by omega); replace q61 := eq_true q61; obtain ⟨Ao62, co62, eo62⟩ := Kd.R_slice HO137.out; subst eo62) | (go_at_call 19; (refine (XS.newswireref11_Same.calls kj45 _ _ t134 _ _ y138 false _ ?_ ?_ ?_ ?_ A55.out).mono ?_); exact C_st ((Kd.R_reads' HO137.out).2.2); exact (Kd.R_reads' HO137.out).2.1; exact C_st (by repeat (first | (with_reducible exact HR141.out) | (with_reducible refine Kd.C_alloc ?_ _) | (with_reducible refine Kd.C_drewN ?_ _) | (with_reducible refine Kd.C_drew ?_) | exact HR141.out)); exact HC141.out; rintro e w' ⟨rfl, ⟨nd, rfl⟩⟩))
     go_ret
     exact ⟨er, by exact bes HB.out⟩

end Go.Proofs.YtjgobfbjmlacjaaDoor.XX
