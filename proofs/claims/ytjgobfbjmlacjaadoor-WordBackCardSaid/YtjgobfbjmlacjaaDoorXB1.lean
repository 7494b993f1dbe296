-- Written by wip/xprint.py (a driver of mine over the kit's printer) for this claim.
import Derived.Test.YtjgobfbjmlacjaaDoorXB0
namespace Go.Proofs.YtjgobfbjmlacjaaDoor.XB
open Go.RowKit Go.Proofs.YtjgobfbjmlacjaaDoorW.PrintWords Go.Proofs.YtjgobfbjmlacjaaDoorW.PrintLast Go.Proofs.YtjgobfbjmlacjaaDoorW.PrintMore
open Bool renaming true → tt, false → ff
open _root_.ByteArray renaming mk → B_
attribute [local go_sem] max2_int min2_int max_two min_two max_three min_three max_four min_four   -- for this text's walks alone
set_option maxHeartbeats 8000000
set_option maxRecDepth 100000
set_option linter.unusedVariables false
set_option linter.unusedSimpArgs false

/-! ### newswirelaw11_WordBack: function 4 -/
def newswirelaw11_WordBack.j0 : Nat → Bool → Int → List ByteArray → Int → Int → Bool → Option (Bool)
 | 0, _, _, _, _, _, _ => none
 | k + 1, x7, x8, x14, x15, x16, x57 => if x57 = true then (some false) else (if x16 = 0 then ((XA.word_Words.f k x8 x15).bind fun bt115 => (if x7 = true then (if bt115.2 = 0 then ((XS.newswireref11_Same.f k bt115.1 x14).bind fun t119 => (some t119)) else (some false)) else (some false))) else (some x7))
def newswirelaw11_WordBack.f (k : Nat) (a0 : Int) (a1 : Int) (l2 : List ByteArray) : Option (Bool) := (XS.newswirelaw11_sane.f k).bind fun t101 => (if t101 = true then ((XS.newswirelaw11_pick.f a0 3).bind fun t102 => ((XS.newswirelaw11_pick.f a1 1000000).bind fun t103 => ((XA.word_Words.f k (wrap64 (1 + t102)) t103).bind fun bt104 => ((XA.word_Number.f k (wrap64 (1 + t102)) bt104.1).bind fun bt108 => ((XS.newswirelaw11_few.f k l2).bind fun t110 => ((XA.word_Number.f k (wrap64 (1 + t102)) t110).bind fun bt113 => (if bt104.2 = 0 then (if bt108.2 = 0 then (newswirelaw11_WordBack.j0 k t101 (wrap64 (1 + t102)) t110 bt113.1 bt113.2 (bt108.1 != t103)) else (newswirelaw11_WordBack.j0 k t101 (wrap64 (1 + t102)) t110 bt113.1 bt113.2 true)) else (newswirelaw11_WordBack.j0 k t101 (wrap64 (1 + t102)) t110 bt113.1 bt113.2 true)))))))) else (some false))
theorem newswirelaw11_WordBack.mono_l : ∀ k, (∀ y0 y1 y2 y3 y4 y5, LeO (newswirelaw11_WordBack.j0 k y0 y1 y2 y3 y4 y5) (newswirelaw11_WordBack.j0 (k + 1) y0 y1 y2 y3 y4 y5))
 | 0 => fun _ _ _ _ _ _ r h => by simp [newswirelaw11_WordBack.j0] at h
 | k + 1 => by
  have ih0 := newswirelaw11_WordBack.mono_l k
  intro y0 y1 y2 y3 y4 y5
  unfold newswirelaw11_WordBack.j0
  repeat' first
  | (with_reducible exact ih0 _ _ _ _ _ _)
  | (with_reducible exact XA.word_Number.mono _ _ _)
  | (with_reducible exact XA.word_Words.mono _ _ _)
  | (with_reducible exact XS.newswirelaw11_few.mono _ _)
  | (with_reducible exact XS.newswirelaw11_sane.mono _)
  | (with_reducible exact XS.newswireref11_Same.mono _ _ _)
  | (with_reducible exact LeO.refl _)
  | (with_reducible exact LeO.none _)
  | (with_reducible refine LeO.ite ?_ ?_)
  | (with_reducible refine LeO.bind ?_ (fun _ => ?_))
theorem newswirelaw11_WordBack.mono : ∀ a0 a1 a2 k, LeO (newswirelaw11_WordBack.f k a0 a1 a2) (newswirelaw11_WordBack.f (k + 1) a0 a1 a2) := by
 intro a0 a1 a2 k; have ih0 := newswirelaw11_WordBack.mono_l k
 unfold newswirelaw11_WordBack.f
 repeat' first
   | (with_reducible exact ih0 _ _ _ _ _ _)
   | (with_reducible exact XA.word_Number.mono _ _ _)
   | (with_reducible exact XA.word_Words.mono _ _ _)
   | (with_reducible exact XS.newswirelaw11_few.mono _ _)
   | (with_reducible exact XS.newswirelaw11_sane.mono _)
   | (with_reducible exact XS.newswireref11_Same.mono _ _ _)
   | (with_reducible exact LeO.refl _)
   | (with_reducible exact LeO.none _)
   | (with_reducible refine LeO.ite ?_ ?_)
   | (with_reducible refine LeO.bind ?_ (fun _ => ?_))
theorem newswirelaw11_WordBack.calls (k : Nat) (a0 : Int) (a1 : Int) (A2 : Option Addr) (c2 : Nat) (l2 : List ByteArray) (r : Bool) (w : World) (hr2 : Kd.C Kd.string w A2 l2.length l2) (hc2 : l2.length ≤ c2) (hL_ : LW w) (h : newswirelaw11_WordBack.f k a0 a1 l2 = some r) :
  Calls Tryd.prog 4 #[.int .i64 a0, .int .i64 a1, .slice A2 l2.length c2] w fun e w' => e = .returned (.bool r) ∧ Below w.heap.size w w' := by
 have HR2 := am hr2; have HC2 := am hc2; clear hr2 hc2; have HLW := am hL_; clear hL_; have HB := am (Below.refl w.heap.size w)
 have H := h; clear h; unfold newswirelaw11_WordBack.f at H; replace H := bm H; obtain ⟨t101, A4, H⟩ := H; replace A4 := am A4
 by_cases c5 : t101 = true; rotate_left
 ·replace c5 := Bool.eq_false_iff.mpr c5
  subst c5; replace H := inn H
  obtain rfl := Option.some.inj H
  go_enter Tryd.func4, Tryd.ntmps4
  go_wp2_with (first | ((with_reducible refine gate_callee (f := 10) rfl ?_); refine gL (some 19) rfl rfl Tryd.func10 #[] ?_; (refine (XS.newswirelaw11_sane.calls k  false _ ?_ A4.out).mono ?_); exact LW.below HLW.out (bes HB.out); rintro e w30 ⟨rfl, hb⟩; refine ⟨_, rfl, ?_⟩; replace HB := bsp HB hb; (try clear hb)))
  go_ret
  exact ⟨er, by exact bes HB.out⟩
 subst c5; replace H := ip H
 replace H := bm H; obtain ⟨t102, A6, H⟩ := H; replace A6 := am A6; replace H := bm H; obtain ⟨t103, A7, H⟩ := H; replace A7 := am A7; replace H := bm H; obtain ⟨⟨t104, t105⟩, A80, H⟩ := H; replace H : ((XA.word_Number.f k (wrap64 (1 + t102)) t104).bind fun bt108 => ((XS.newswirelaw11_few.f k l2).bind fun t110 => ((XA.word_Number.f k (wrap64 (1 + t102)) t110).bind fun bt113 => (if t105 = 0 then (if bt108.2 = 0 then (newswirelaw11_WordBack.j0 k true (wrap64 (1 + t102)) t110 bt113.1 bt113.2 (bt108.1 != t103)) else (newswirelaw11_WordBack.j0 k true (wrap64 (1 + t102)) t110 bt113.1 bt113.2 true)) else (newswirelaw11_WordBack.j0 k true (wrap64 (1 + t102)) t110 bt113.1 bt113.2 true))))) = some r := H; have A8 := am A80; clear A80; replace H := bm H; obtain ⟨⟨t108, t109⟩, A90, H⟩ := H; replace H : ((XS.newswirelaw11_few.f k l2).bind fun t110 => ((XA.word_Number.f k (wrap64 (1 + t102)) t110).bind fun bt113 => (if t105 = 0 then (if t109 = 0 then (newswirelaw11_WordBack.j0 k true (wrap64 (1 + t102)) t110 bt113.1 bt113.2 (t108 != t103)) else (newswirelaw11_WordBack.j0 k true (wrap64 (1 + t102)) t110 bt113.1 bt113.2 true)) else (newswirelaw11_WordBack.j0 k true (wrap64 (1 + t102)) t110 bt113.1 bt113.2 true)))) = some r := H; have A9 := am A90; clear A90; replace H := bm H; obtain ⟨t110, A10, H⟩ := H; replace A10 := am A10; replace H := bm H; obtain ⟨⟨t113, t114⟩, A110, H⟩ := H; replace H : (if t105 = 0 then (if t109 = 0 then (newswirelaw11_WordBack.j0 k true (wrap64 (1 + t102)) t110 t113 t114 (t108 != t103)) else (newswirelaw11_WordBack.j0 k true (wrap64 (1 + t102)) t110 t113 t114 true)) else (newswirelaw11_WordBack.j0 k true (wrap64 (1 + t102)) t110 t113 t114 true)) = some r := H; have A11 := am A110; clear A110; have HC12 := am H; clear H
 go_enter Tryd.func4, Tryd.ntmps4
 go_upto_region 10 with (first | ((with_reducible refine gate_callee (f := 10) rfl ?_); refine gL (some 19) rfl rfl Tryd.func10 #[] ?_; (refine (XS.newswirelaw11_sane.calls k  true _ ?_ A4.out).mono ?_); exact LW.below HLW.out (bes HB.out); rintro e w13 ⟨rfl, hb⟩; refine ⟨_, rfl, ?_⟩; replace HB := bsp HB hb; (try clear hb)) | ((with_reducible refine gate_callee (f := 11) rfl ?_); refine gL (some 23) rfl rfl Tryd.func11 #[.int .i64 a0, .int .i64 3] ?_; (with_reducible refine (XS.newswirelaw11_pick.calls a0 3 t102 _ A6.out).mono ?_); rintro e w' ⟨rfl, ⟨nd, rfl⟩⟩; refine ⟨_, rfl, ?_⟩) | ((with_reducible refine gate_callee (f := 11) rfl ?_); refine gL (some 26) rfl rfl Tryd.func11 #[.int .i64 a1, .int .i64 1000000] ?_; (with_reducible refine (XS.newswirelaw11_pick.calls a1 1000000 t103 _ A7.out).mono ?_); rintro e w' ⟨rfl, ⟨nd, rfl⟩⟩; refine ⟨_, rfl, ?_⟩) | ((with_reducible refine gate_callee (f := 18) rfl ?_); refine gL (some 30) rfl rfl Tryd.func18 #[.int .i64 (wrap64 (1 + t102)), .int .i64 t103] ?_; (refine (XA.word_Words.calls k (wrap64 (1 + t102)) t103 t104 t105 _ ?_ A8.out).mono ?_); exact LW.below HLW.out (bes HB.out); rintro e w14 ⟨v106, rfl, ho0, hb⟩; refine ⟨_, rfl, ?_⟩; have HO107 := am (Kd.R_lower ho0 (below_size (bes HB.out))); replace HB := bsp HB hb; (try clear hb); (try clear ho0); obtain ⟨Ao15, co15, eo15⟩ := Kd.R_slice HO107.out; subst eo15) | ((with_reducible refine gate_callee (f := 14) rfl ?_); refine gL (some 36) rfl rfl Tryd.func14 #[.int .i64 (wrap64 (1 + t102)), .slice Ao15 t104.length co15] ?_; (with_reducible refine (XA.word_Number.calls k (wrap64 (1 + t102)) _ _ t104 t108 t109 _ ?_ ?_ ?_ A9.out).mono ?_); exact C_st ((Kd.R_reads' HO107.out).2.2); exact (Kd.R_reads' HO107.out).2.1; exact LW.below HLW.out (bes HB.out); rintro e w16 ⟨rfl, hb⟩; refine ⟨_, rfl, ?_⟩; replace HO107 := rb HO107 hb; replace HB := bsp HB hb; (try clear hb)) | ((with_reducible refine gate_callee (f := 13) rfl ?_); refine gL (some 40) rfl rfl Tryd.func13 #[.slice A2 l2.length c2] ?_; (refine (XS.newswirelaw11_few.calls k _ _ l2 t110 _ ?_ ?_ A10.out).mono ?_); exact C_st (Kd.C_below HR2.out HB.out); exact HC2.out; rintro e w17 ⟨v111, rfl, ho0, hb⟩; refine ⟨_, rfl, ?_⟩; have HO112 := am (Kd.R_lower (Kd.R_new' ho0 (Kd.R_lt (R_st HO107.out))) (below_size (bes HB.out))); replace HO107 := am (Kd.R_elder' (R_st HO107.out) (Kd.R_base ho0) hb); replace HB := bsp HB hb; (try clear hb); (try clear ho0); obtain ⟨Ao18, co18, eo18⟩ := Kd.R_slice HO112.out; subst eo18) | ((with_reducible refine gate_callee (f := 14) rfl ?_); refine gL (some 44) rfl rfl Tryd.func14 #[.int .i64 (wrap64 (1 + t102)), .slice Ao18 t110.length co18] ?_; (with_reducible refine (XA.word_Number.calls k (wrap64 (1 + t102)) _ _ t110 t113 t114 _ ?_ ?_ ?_ A11.out).mono ?_); exact C_st ((Kd.R_reads' HO112.out).2.2); exact (Kd.R_reads' HO112.out).2.1; exact LW.below HLW.out (bes HB.out); rintro e w19 ⟨rfl, hb⟩; refine ⟨_, rfl, ?_⟩; replace HO107 := rb HO107 hb; replace HO112 := rb HO112 hb; replace HB := bsp HB hb; (try clear hb)))
 (try simp only [Act.put, sa_, s0_, s1_])
 go_cut [57] (fun v57 wc => ∃ (kq : Nat) (x57_11 : Bool), v57 = .bool x57_11 ∧ Aside0 (newswirelaw11_WordBack.j0 kq true (wrap64 (1 + t102)) t110 t113 t114 x57_11 = some r) ∧ Aside0 (kq ≤ k) ∧ Aside0 (Kd.R Kd.string 9 wc w.heap.size (fun _ => True) (.slice Ao18 t110.length co18) t110) ∧ Aside0 (Below w.heap.size w wc))
 case first =>
  have H := HC12.out; clear HC12
  by_cases c20 : t105 = 0; rotate_left
  ·rw [if_neg c20] at H
   have c20b0 := bF c20
   have c20b1 := nT c20
   (first | rw [c20b0] | (simp only [i64_w, i32_w]; rw [c20b0]) | skip)
   have H' := am H; clear H
   go_wp2
   go_meet
   case rel => exact ⟨_, (true), cd, H', ⟨om⟩, ⟨by exact R_st (Kd.R_mono HO112.out (fun _ hk => trivial))⟩, ⟨by exact bes HB.out⟩⟩
  rw [if_pos c20] at H
  have c20b0 := bT c20
  have c20b1 := nF c20; clear c20
  (first | rw [c20b0] | (simp only [i64_w, i32_w]; rw [c20b0]) | skip)
  by_cases c21 : t109 = 0
  ·rw [if_pos c21] at H
   have c21b0 := bT c21
   have c21b1 := nF c21; clear c21
   have H' := am H; clear H
   go_wp2
   go_meet
   case rel => exact ⟨_, ((t108 != t103)), cd, H', ⟨om⟩, ⟨by exact R_st (Kd.R_mono HO112.out (fun _ hk => trivial))⟩, ⟨by exact bes HB.out⟩⟩
  rw [if_neg c21] at H
  have c21b0 := bF c21
  have c21b1 := nT c21
  have H' := am H; clear H
  go_wp2
  go_meet
  case rel => exact ⟨_, (true), cd, H', ⟨om⟩, ⟨by exact R_st (Kd.R_mono HO112.out (fun _ hk => trivial))⟩, ⟨by exact bes HB.out⟩⟩
 clear HC12
 try clear c1
 try clear c2
 try clear p2
 try clear c4
 try clear c5
 try clear p6
 try clear c10
 try clear c11
 try clear c13
 try clear c14
 try clear c18
 try clear c20
 try clear c20b0
 try clear c20b1
 try clear c21
 try clear c21b0
 try clear c21b1
 obtain ⟨kq, x57_11, rfl, HA, HJ11, O0, HB⟩ := hcut
 cases kq with
 | zero => exact absurd HA.out (by simp [newswirelaw11_WordBack.j0])
 | succ kj11 =>
  have H := HA.out; clear HA; simp only [newswirelaw11_WordBack.j0] at H
  by_cases c22 : x57_11 = true
  ·subst c22
   replace H := ip H
   obtain rfl := Option.some.inj H
   go_wp2
   go_ret
   exact ⟨er, by exact bes HB.out⟩
  replace c22 := Bool.eq_false_iff.mpr c22; subst c22; replace H := inn H
  by_cases c23 : t114 = 0; rotate_left
  ·rw [if_neg c23] at H
   have c23b0 := bF c23
   have c23b1 := nT c23; obtain rfl := Option.some.inj H
   go_wp2
   go_ret
   exact ⟨er, by exact bes HB.out⟩
  rw [if_pos c23] at H
  have c23b0 := bT c23
  have c23b1 := nF c23; clear c23; replace H := bm H; obtain ⟨⟨t115, t116⟩, A240, H⟩ := H; replace H : (if true = true then (if t116 = 0 then ((XS.newswireref11_Same.f kj11 t115 t110).bind fun t119 => (some t119)) else (some false)) else (some false)) = some r := H; have A24 := am A240; clear A240; replace H := ip H
  by_cases c25 : t116 = 0
  ·rw [if_pos c25] at H
   have c25b0 := bT c25
   have c25b1 := nF c25; clear c25; replace H := bm H; obtain ⟨t119, A26, H⟩ := H; replace H : (some t119) = some r := H; replace A26 := am A26; obtain rfl := Option.some.inj H
   go_wp2_with (first | ((with_reducible refine gate_callee (f := 18) rfl ?_); refine gL (some 63) rfl rfl Tryd.func18 #[.int .i64 (wrap64 (1 + t102)), .int .i64 t113] ?_; (refine (XA.word_Words.calls kj11 (wrap64 (1 + t102)) t113 t115 t116 _ ?_ A24.out).mono ?_); exact LW.below HLW.out (bes HB.out); rintro e w27 ⟨v117, rfl, ho0, hb⟩; refine ⟨_, rfl, ?_⟩; have HO118 := am (Kd.R_lower (Kd.R_new' ho0 (Kd.R_lt (R_st O0.out))) (below_size (bes HB.out))); replace O0 := am (Kd.R_elder' (R_st O0.out) (Kd.R_base ho0) hb); replace HB := bsp HB hb; (try clear hb); (try clear ho0); obtain ⟨Ao28, co28, eo28⟩ := Kd.R_slice HO118.out; subst eo28) | (go_at_call 19; (refine (XS.newswireref11_Same.calls kj11 _ _ t115 _ _ t110 t119 _ ?_ ?_ ?_ ?_ A26.out).mono ?_); exact C_st ((Kd.R_reads' HO118.out).2.2); exact (Kd.R_reads' HO118.out).2.1; exact C_st ((Kd.R_reads' O0.out).2.2); exact (Kd.R_reads' O0.out).2.1; rintro e w' ⟨rfl, ⟨nd, rfl⟩⟩))
   go_ret
   exact ⟨er, by exact bes HB.out⟩
  rw [if_neg c25] at H
  have c25b0 := bF c25
  have c25b1 := nT c25; obtain rfl := Option.some.inj H
  go_wp2_with (first | ((with_reducible refine gate_callee (f := 18) rfl ?_); refine gL (some 63) rfl rfl Tryd.func18 #[.int .i64 (wrap64 (1 + t102)), .int .i64 t113] ?_; (refine (XA.word_Words.calls kj11 (wrap64 (1 + t102)) t113 t115 t116 _ ?_ A24.out).mono ?_); exact LW.below HLW.out (bes HB.out); rintro e w29 ⟨v117, rfl, ho0, hb⟩; refine ⟨_, rfl, ?_⟩; have HO118 := am (Kd.R_lower (Kd.R_new' ho0 (Kd.R_lt (R_st O0.out))) (below_size (bes HB.out))); replace O0 := am (Kd.R_elder' (R_st O0.out) (Kd.R_base ho0) hb); replace HB := bsp HB hb; (try clear hb); (try clear ho0)))
  go_ret
  exact ⟨er, by exact bes HB.out⟩

end Go.Proofs.YtjgobfbjmlacjaaDoor.XB
