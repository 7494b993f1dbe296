-- Written by wip/xprint.py (a driver of mine over the kit's printer) for this claim.
import Derived.Test.YtjgobfbjmlacjaaDoorXN0
namespace Go.Proofs.YtjgobfbjmlacjaaDoor.XN
open Go.RowKit Go.Proofs.YtjgobfbjmlacjaaDoorW.PrintWords Go.Proofs.YtjgobfbjmlacjaaDoorW.PrintLast Go.Proofs.YtjgobfbjmlacjaaDoorW.PrintMore
open Bool renaming true → tt, false → ff
open _root_.ByteArray renaming mk → B_
attribute [local go_sem] max2_int min2_int max_two min_two max_three min_three max_four min_four   -- for this text's walks alone
set_option maxHeartbeats 8000000
set_option maxRecDepth 100000
set_option linter.unusedVariables false
set_option linter.unusedSimpArgs false

/-! ### newswirelaw11_WordNames: function 9 -/
mutual
def newswirelaw11_WordNames.l0 : Nat → Int → Int → ByteArray → Bool → Int → Int → Option (Bool)
 | 0, _, _, _, _, _, _ => none
 | k + 1, x1, x2, x3, x9, x10, x11 => if x11 ≤ 12 then ((XA.word_Month.f k x10 x11).bind fun bt103 => ((XA.word_MonthOf.f k x10 bt103.1).bind fun bt105 => ((XI.word_Is.f k x10 bt103.1).bind fun t107 => (if bt103.2 = 0 then (if bt105.2 = 0 then (if bt105.1 = x11 then (if t107 = true then (newswirelaw11_WordNames.j1 k x1 x2 x3 x9 x10 x11 true) else (newswirelaw11_WordNames.j1 k x1 x2 x3 x9 x10 x11 (bt103.1.toList == ([] : List UInt8)))) else (newswirelaw11_WordNames.j1 k x1 x2 x3 x9 x10 x11 true)) else (newswirelaw11_WordNames.j1 k x1 x2 x3 x9 x10 x11 true)) else (newswirelaw11_WordNames.j1 k x1 x2 x3 x9 x10 x11 true))))) else (newswirelaw11_WordNames.l1 k x1 x2 x3 x9 x10 0)
def newswirelaw11_WordNames.j1 : Nat → Int → Int → ByteArray → Bool → Int → Int → Bool → Option (Bool)
 | 0, _, _, _, _, _, _, _ => none
 | k + 1, x1, x2, x3, x9, x10, x11, x73 => if x73 = true then (some false) else (newswirelaw11_WordNames.l0 k x1 x2 x3 x9 x10 (wrap64 (x11 + 1)))
def newswirelaw11_WordNames.l1 : Nat → Int → Int → ByteArray → Bool → Int → Int → Option (Bool)
 | 0, _, _, _, _, _, _ => none
 | k + 1, x1, x2, x3, x9, x10, x17 => if x17 < 7 then ((XA.word_Weekday.f k x10 x17).bind fun bt108 => ((XA.word_WeekdayOf.f k x10 bt108.1).bind fun bt110 => ((XI.word_Is.f k x10 bt108.1).bind fun t112 => (if bt108.2 = 0 then (if bt110.2 = 0 then (if bt110.1 = x17 then (if t112 = true then (newswirelaw11_WordNames.j3 k x1 x2 x3 x9 x10 x17 true) else (newswirelaw11_WordNames.j3 k x1 x2 x3 x9 x10 x17 (bt108.1.toList == ([] : List UInt8)))) else (newswirelaw11_WordNames.j3 k x1 x2 x3 x9 x10 x17 true)) else (newswirelaw11_WordNames.j3 k x1 x2 x3 x9 x10 x17 true)) else (newswirelaw11_WordNames.j3 k x1 x2 x3 x9 x10 x17 true))))) else ((XA.word_Month.f k x10 x1).bind fun bt113 => ((XA.word_Weekday.f k x10 x2).bind fun bt115 => (if 0 ≤ (mn (x3.size : Int) 60) then (if (mn (x3.size : Int) 60) ≤ (x3.size : Int) then ((XA.word_MonthOf.f k x10 (x3.extract 0 ((mn (x3.size : Int) 60) : Int).toNat)).bind fun bt117 => ((XA.word_Month.f k x10 bt117.1).bind fun bt119 => (if x1 ≥ 1 then (if ((bt113.2 == 0) != (decide (x1 ≤ 12))) = true then (newswirelaw11_WordNames.j4 k x3 x9 bt117.2 bt119.1 bt119.2 true) else (if x2 ≥ 0 then (newswirelaw11_WordNames.j4 k x3 x9 bt117.2 bt119.1 bt119.2 ((bt115.2 == 0) != (decide (x2 ≤ 6)))) else (newswirelaw11_WordNames.j4 k x3 x9 bt117.2 bt119.1 bt119.2 ((bt115.2 == 0) != false)))) else (if ((bt113.2 == 0) != false) = true then (newswirelaw11_WordNames.j4 k x3 x9 bt117.2 bt119.1 bt119.2 true) else (if x2 ≥ 0 then (newswirelaw11_WordNames.j4 k x3 x9 bt117.2 bt119.1 bt119.2 ((bt115.2 == 0) != (decide (x2 ≤ 6)))) else (newswirelaw11_WordNames.j4 k x3 x9 bt117.2 bt119.1 bt119.2 ((bt115.2 == 0) != false))))))) else (none)) else (none))))
def newswirelaw11_WordNames.j3 : Nat → Int → Int → ByteArray → Bool → Int → Int → Bool → Option (Bool)
 | 0, _, _, _, _, _, _, _ => none
 | k + 1, x1, x2, x3, x9, x10, x17, x110 => if x110 = true then (some false) else (newswirelaw11_WordNames.l1 k x1 x2 x3 x9 x10 (wrap64 (x17 + 1)))
def newswirelaw11_WordNames.j4 : Nat → ByteArray → Bool → Int → ByteArray → Int → Bool → Option (Bool)
 | 0, _, _, _, _, _, _ => none
 | k + 1, x3, x9, x28, x29, x30, x158 => if x158 = true then (some false) else (if x9 = true then (if x28 = 0 then (if x30 = 0 then (if 0 ≤ (mn (x3.size : Int) 60) then (if (mn (x3.size : Int) 60) ≤ (x3.size : Int) then (some (x29.toList == (x3.extract 0 ((mn (x3.size : Int) 60) : Int).toNat).toList)) else (none)) else (none)) else (some false)) else (some true)) else (some false))
end
def newswirelaw11_WordNames.f (k : Nat) (a0 : Int) (a1 : Int) (a2 : Int) (a3 : ByteArray) : Option (Bool) := (XS.newswirelaw11_sane.f k).bind fun t101 => (if t101 = true then ((XS.newswirelaw11_pick.f a0 3).bind fun t102 => (newswirelaw11_WordNames.l0 k a1 a2 a3 t101 (wrap64 (1 + t102)) 1)) else (some false))
theorem newswirelaw11_WordNames.mono_l : ∀ k, (∀ y0 y1 y2 y3 y4 y5, LeO (newswirelaw11_WordNames.l0 k y0 y1 y2 y3 y4 y5) (newswirelaw11_WordNames.l0 (k + 1) y0 y1 y2 y3 y4 y5)) ∧ (∀ y0 y1 y2 y3 y4 y5 y6, LeO (newswirelaw11_WordNames.j1 k y0 y1 y2 y3 y4 y5 y6) (newswirelaw11_WordNames.j1 (k + 1) y0 y1 y2 y3 y4 y5 y6)) ∧ (∀ y0 y1 y2 y3 y4 y5, LeO (newswirelaw11_WordNames.l1 k y0 y1 y2 y3 y4 y5) (newswirelaw11_WordNames.l1 (k + 1) y0 y1 y2 y3 y4 y5)) ∧ (∀ y0 y1 y2 y3 y4 y5 y6, LeO (newswirelaw11_WordNames.j3 k y0 y1 y2 y3 y4 y5 y6) (newswirelaw11_WordNames.j3 (k + 1) y0 y1 y2 y3 y4 y5 y6)) ∧ (∀ y0 y1 y2 y3 y4 y5, LeO (newswirelaw11_WordNames.j4 k y0 y1 y2 y3 y4 y5) (newswirelaw11_WordNames.j4 (k + 1) y0 y1 y2 y3 y4 y5))
 | 0 => ⟨fun _ _ _ _ _ _ r h => by simp [newswirelaw11_WordNames.l0] at h, fun _ _ _ _ _ _ _ r h => by simp [newswirelaw11_WordNames.j1] at h, fun _ _ _ _ _ _ r h => by simp [newswirelaw11_WordNames.l1] at h, fun _ _ _ _ _ _ _ r h => by simp [newswirelaw11_WordNames.j3] at h, fun _ _ _ _ _ _ r h => by simp [newswirelaw11_WordNames.j4] at h⟩
 | k + 1 => by
  obtain ⟨ih0, ih1, ih2, ih3, ih4⟩ := newswirelaw11_WordNames.mono_l k
  refine ⟨?_, ?_, ?_, ?_, ?_⟩
  all_goals
   intros; first | unfold newswirelaw11_WordNames.l0 | unfold newswirelaw11_WordNames.j1 | unfold newswirelaw11_WordNames.l1 | unfold newswirelaw11_WordNames.j3 | unfold newswirelaw11_WordNames.j4
   repeat' first
   | (with_reducible exact ih0 _ _ _ _ _ _)
   | (with_reducible exact ih1 _ _ _ _ _ _ _)
   | (with_reducible exact ih2 _ _ _ _ _ _)
   | (with_reducible exact ih3 _ _ _ _ _ _ _)
   | (with_reducible exact ih4 _ _ _ _ _ _)
   | (with_reducible exact XA.word_Month.mono _ _ _)
   | (with_reducible exact XA.word_MonthOf.mono _ _ _)
   | (with_reducible exact XA.word_Weekday.mono _ _ _)
   | (with_reducible exact XA.word_WeekdayOf.mono _ _ _)
   | (with_reducible exact XI.word_Is.mono _ _ _)
   | (with_reducible exact XS.newswirelaw11_sane.mono _)
   | (with_reducible exact LeO.refl _)
   | (with_reducible exact LeO.none _)
   | (with_reducible refine LeO.ite ?_ ?_)
   | (with_reducible refine LeO.bind ?_ (fun _ => ?_))
theorem newswirelaw11_WordNames.mono : ∀ a0 a1 a2 a3 k, LeO (newswirelaw11_WordNames.f k a0 a1 a2 a3) (newswirelaw11_WordNames.f (k + 1) a0 a1 a2 a3) := by
 intro a0 a1 a2 a3 k; obtain ⟨ih0, ih1, ih2, ih3, ih4⟩ := newswirelaw11_WordNames.mono_l k
 unfold newswirelaw11_WordNames.f
 repeat' first
   | (with_reducible exact ih0 _ _ _ _ _ _)
   | (with_reducible exact ih1 _ _ _ _ _ _ _)
   | (with_reducible exact ih2 _ _ _ _ _ _)
   | (with_reducible exact ih3 _ _ _ _ _ _ _)
   | (with_reducible exact ih4 _ _ _ _ _ _)
   | (with_reducible exact XA.word_Month.mono _ _ _)
   | (with_reducible exact XA.word_MonthOf.mono _ _ _)
   | (with_reducible exact XA.word_Weekday.mono _ _ _)
   | (with_reducible exact XA.word_WeekdayOf.mono _ _ _)
   | (with_reducible exact XI.word_Is.mono _ _ _)
   | (with_reducible exact XS.newswirelaw11_sane.mono _)
   | (with_reducible exact LeO.refl _)
   | (with_reducible exact LeO.none _)
   | (with_reducible refine LeO.ite ?_ ?_)
   | (with_reducible refine LeO.bind ?_ (fun _ => ?_))
theorem newswirelaw11_WordNames.calls (k : Nat) (a0 : Int) (a1 : Int) (a2 : Int) (a3 : ByteArray) (r : Bool) (w : World) (hL_ : LW w) (h : newswirelaw11_WordNames.f k a0 a1 a2 a3 = some r) :
  Calls Tryd.prog 9 #[.int .i64 a0, .int .i64 a1, .int .i64 a2, .string a3] w fun e w' => e = .returned (.bool r) ∧ Below w.heap.size w w' := by
 have HLW := am hL_; clear hL_; have HB := am (Below.refl w.heap.size w)
 have H := h; clear h; unfold newswirelaw11_WordNames.f at H; replace H := bm H; obtain ⟨t101, A5, H⟩ := H; replace A5 := am A5
 by_cases c6 : t101 = true; rotate_left
 ·replace c6 := Bool.eq_false_iff.mpr c6
  subst c6; replace H := inn H
  obtain rfl := Option.some.inj H
  go_enter Tryd.func9, Tryd.ntmps9
  go_wp2_with (first | ((with_reducible refine gate_callee (f := 10) rfl ?_); refine gL (some 31) rfl rfl Tryd.func10 #[] ?_; (refine (XS.newswirelaw11_sane.calls k  false _ ?_ A5.out).mono ?_); exact LW.below HLW.out (bes HB.out); rintro e w58 ⟨rfl, hb⟩; refine ⟨_, rfl, ?_⟩; replace HB := bsp HB hb; (try clear hb)))
  go_ret
  exact ⟨er, by exact bes HB.out⟩
 subst c6; replace H := ip H
 replace H := bm H; obtain ⟨t102, A7, H⟩ := H; replace A7 := am A7
 have H' := am H; clear H
 go_enter Tryd.func9, Tryd.ntmps9
 go_wp2_with (first | ((with_reducible refine gate_callee (f := 10) rfl ?_); refine gL (some 31) rfl rfl Tryd.func10 #[] ?_; (refine (XS.newswirelaw11_sane.calls k  true _ ?_ A5.out).mono ?_); exact LW.below HLW.out (bes HB.out); rintro e w8 ⟨rfl, hb⟩; refine ⟨_, rfl, ?_⟩; replace HB := bsp HB hb; (try clear hb)) | ((with_reducible refine gate_callee (f := 11) rfl ?_); refine gL (some 35) rfl rfl Tryd.func11 #[.int .i64 a0, .int .i64 3] ?_; (refine (XS.newswirelaw11_pick.calls a0 3 t102 _ A7.out).mono ?_); rintro e w' ⟨rfl, ⟨nd, rfl⟩⟩; refine ⟨_, rfl, ?_⟩))
 go_loopg [11] k (fun kq v11 w' => ∃ (x11_1 : Int), v11 = .int .i64 x11_1 ∧ Aside0 (newswirelaw11_WordNames.l0 kq a1 a2 a3 true (wrap64 (1 + t102)) x11_1 = some r) ∧ Aside0 (kq ≤ k) ∧ Aside0 (Below w.heap.size w w'))
 case atStart => exact ⟨(1), cd, H', ⟨Nat.le_refl _⟩, ⟨by exact bes HB.out⟩⟩
 clear H'
 try clear c1
 try clear p2
 try clear c6
 try clear p6
 obtain ⟨x11_1, rfl, HA, HK1, HB⟩ := hrel
 cases gk with
 | zero => exact absurd HA.out (by simp [newswirelaw11_WordNames.l0])
 | succ k1 =>
  have H := HA.out; clear HA; simp only [newswirelaw11_WordNames.l0] at H
  by_cases c9 : x11_1 ≤ 12
  ·rw [if_pos c9] at H
   have c9b0 := dT c9; clear c9; replace H := bm H; obtain ⟨⟨t103, t104⟩, A100, H⟩ := H; replace H : ((XA.word_MonthOf.f k1 (wrap64 (1 + t102)) t103).bind fun bt105 => ((XI.word_Is.f k1 (wrap64 (1 + t102)) t103).bind fun t107 => (if t104 = 0 then (if bt105.2 = 0 then (if bt105.1 = x11_1 then (if t107 = true then (newswirelaw11_WordNames.j1 k1 a1 a2 a3 true (wrap64 (1 + t102)) x11_1 true) else (newswirelaw11_WordNames.j1 k1 a1 a2 a3 true (wrap64 (1 + t102)) x11_1 (t103.toList == ([] : List UInt8)))) else (newswirelaw11_WordNames.j1 k1 a1 a2 a3 true (wrap64 (1 + t102)) x11_1 true)) else (newswirelaw11_WordNames.j1 k1 a1 a2 a3 true (wrap64 (1 + t102)) x11_1 true)) else (newswirelaw11_WordNames.j1 k1 a1 a2 a3 true (wrap64 (1 + t102)) x11_1 true)))) = some r := H; have A10 := am A100; clear A100; replace H := bm H; obtain ⟨⟨t105, t106⟩, A110, H⟩ := H; replace H : ((XI.word_Is.f k1 (wrap64 (1 + t102)) t103).bind fun t107 => (if t104 = 0 then (if t106 = 0 then (if t105 = x11_1 then (if t107 = true then (newswirelaw11_WordNames.j1 k1 a1 a2 a3 true (wrap64 (1 + t102)) x11_1 true) else (newswirelaw11_WordNames.j1 k1 a1 a2 a3 true (wrap64 (1 + t102)) x11_1 (t103.toList == ([] : List UInt8)))) else (newswirelaw11_WordNames.j1 k1 a1 a2 a3 true (wrap64 (1 + t102)) x11_1 true)) else (newswirelaw11_WordNames.j1 k1 a1 a2 a3 true (wrap64 (1 + t102)) x11_1 true)) else (newswirelaw11_WordNames.j1 k1 a1 a2 a3 true (wrap64 (1 + t102)) x11_1 true))) = some r := H; have A11 := am A110; clear A110; replace H := bm H; obtain ⟨t107, A12, H⟩ := H; replace A12 := am A12; have HC13 := am H; clear H
   go_upto_region 11 with (first | ((with_reducible refine gate_callee (f := 22) rfl ?_); refine gL (some 44) rfl rfl Tryd.func22 #[.int .i64 (wrap64 (1 + t102)), .int .i64 x11_1] ?_; (refine (XA.word_Month.calls k1 (wrap64 (1 + t102)) x11_1 t103 t104 _ A10.out).mono ?_); rintro e w14 ⟨rfl, hb⟩; refine ⟨_, rfl, ?_⟩; replace HB := bsp HB hb; (try clear hb)) | ((with_reducible refine gate_callee (f := 26) rfl ?_); refine gL (some 50) rfl rfl Tryd.func26 #[.int .i64 (wrap64 (1 + t102)), .string t103] ?_; (refine (XA.word_MonthOf.calls k1 (wrap64 (1 + t102)) t103 t105 t106 _ A11.out).mono ?_); rintro e w15 ⟨rfl, hb⟩; refine ⟨_, rfl, ?_⟩; replace HB := bsp HB hb; (try clear hb)) | ((with_reducible refine gate_callee (f := 20) rfl ?_); refine gL (some 55) rfl rfl Tryd.func20 #[.int .i64 (wrap64 (1 + t102)), .string t103] ?_; (refine (XI.word_Is.calls k1 (wrap64 (1 + t102)) t103 t107 _ ?_ A12.out).mono ?_); exact LW.below HLW.out (bes HB.out); rintro e w16 ⟨rfl, hb⟩; refine ⟨_, rfl, ?_⟩; replace HB := bsp HB hb; (try clear hb)))
   (try simp only [Act.put, sa_, s0_, s1_])
   go_cut [73] (fun v73 wc => ∃ (kq : Nat) (x73_12 : Bool), v73 = .bool x73_12 ∧ Aside0 (newswirelaw11_WordNames.j1 kq a1 a2 a3 true (wrap64 (1 + t102)) x11_1 x73_12 = some r) ∧ Aside0 (kq ≤ k1) ∧ Aside0 (Below w.heap.size w wc))
   case first =>
    have H := HC13.out; clear HC13
    by_cases c17 : t104 = 0; rotate_left
    ·rw [if_neg c17] at H
     have c17b0 := bF c17
     have c17b1 := nT c17
     (first | rw [c17b0] | (simp only [i64_w, i32_w]; rw [c17b0]) | skip)
     have H' := am H; clear H
     go_wp2
     go_meet
     case rel => exact ⟨_, (true), cd, H', ⟨by have := HK1.out; first | omega | exact Nat.le_refl _⟩, ⟨by exact bes HB.out⟩⟩
    rw [if_pos c17] at H
    have c17b0 := bT c17
    have c17b1 := nF c17; clear c17
    (first | rw [c17b0] | (simp only [i64_w, i32_w]; rw [c17b0]) | skip)
    by_cases c18 : t106 = 0; rotate_left
    ·rw [if_neg c18] at H
     have c18b0 := bF c18
     have c18b1 := nT c18
     have H' := am H; clear H
     go_wp2
     go_meet
     case rel => exact ⟨_, (true), cd, H', ⟨by have := HK1.out; first | omega | exact Nat.le_refl _⟩, ⟨by exact bes HB.out⟩⟩
    rw [if_pos c18] at H
    have c18b0 := bT c18
    have c18b1 := nF c18; clear c18
    by_cases c19 : t105 = x11_1; rotate_left
    ·rw [if_neg c19] at H
     have c19b0 := bF c19
     have c19b1 := nT c19
     have H' := am H; clear H
     go_wp2
     go_meet
     case rel => exact ⟨_, (true), cd, H', ⟨by have := HK1.out; first | omega | exact Nat.le_refl _⟩, ⟨by exact bes HB.out⟩⟩
    rw [if_pos c19] at H
    have c19b0 := bT c19
    have c19b1 := nF c19; clear c19
    by_cases c20 : t107 = true
    ·subst c20
     replace H := ip H
     have H' := am H; clear H
     go_wp2
     go_meet
     case rel => exact ⟨_, (true), cd, H', ⟨by have := HK1.out; first | omega | exact Nat.le_refl _⟩, ⟨by exact bes HB.out⟩⟩
    replace c20 := Bool.eq_false_iff.mpr c20; subst c20; replace H := inn H
    have H' := am H; clear H
    go_wp2
    go_meet
    case rel => exact ⟨_, ((t103.toList == ([] : List UInt8))), cd, H', ⟨by have := HK1.out; first | omega | exact Nat.le_refl _⟩, ⟨by exact bes HB.out⟩⟩
   clear HC13
   try clear c1
   try clear c2
   try clear p2
   try clear c6
   try clear p6
   try clear c9
   try clear c9b0
   try clear c10
   try clear c11
   try clear c17
   try clear c17b0
   try clear c17b1
   try clear c18
   try clear c18b0
   try clear c18b1
   try clear c19
   try clear c19b0
   try clear c19b1
   try clear c20
   try clear p2
   try clear p6
   obtain ⟨kq, x73_12, rfl, HA, HJ12, HB⟩ := hcut
   cases kq with
   | zero => exact absurd HA.out (by simp [newswirelaw11_WordNames.j1])
   | succ kj12 =>
    have H := HA.out; clear HA; simp only [newswirelaw11_WordNames.j1] at H
    by_cases c21 : x73_12 = true
    ·subst c21
     replace H := ip H
     obtain rfl := Option.some.inj H
     go_wp2
     go_ret
     exact ⟨er, by exact bes HB.out⟩
    replace c21 := Bool.eq_false_iff.mpr c21; subst c21; replace H := inn H
    have H' := am H; clear H
    go_wp2
    go_roundg kj12
    case measure => have := HK1.out; have := HJ12.out; omega
    case rel => exact ⟨(wrap64 (x11_1 + 1)), cd, H', ⟨by have := HK1.out; have := HJ12.out; omega⟩, ⟨by exact bes HB.out⟩⟩
  rw [if_neg c9] at H
  have c9b0 := dF c9; clear c9
  have H' := am H; clear H
  go_wp2
  go_loopg [17] k1 (fun kq v17 w' => ∃ (x17_2 : Int), v17 = .int .i64 x17_2 ∧ Aside0 (newswirelaw11_WordNames.l1 kq a1 a2 a3 true (wrap64 (1 + t102)) x17_2 = some r) ∧ Aside0 (kq ≤ k1) ∧ Aside0 (Below w.heap.size w w'))
  case atStart => exact ⟨(0), cd, H', ⟨Nat.le_refl _⟩, ⟨by exact bes HB.out⟩⟩
  clear H'
  try clear c1
  try clear c2
  try clear p2
  try clear c6
  try clear p6
  try clear c9
  try clear c9b0
  try clear c10
  try clear c11
  try clear c17
  try clear c17b0
  try clear c17b1
  try clear c18
  try clear c18b0
  try clear c18b1
  try clear c19
  try clear c19b0
  try clear c19b1
  try clear c20
  try clear c21
  try clear p2
  try clear p6
  obtain ⟨x17_2, rfl, HA, HK2, HB⟩ := hrel
  cases gk with
  | zero => exact absurd HA.out (by simp [newswirelaw11_WordNames.l1])
  | succ k2 =>
   have H := HA.out; clear HA; simp only [newswirelaw11_WordNames.l1] at H
   by_cases c22 : x17_2 < 7
   ·rw [if_pos c22] at H
    have c22b0 := dT c22; clear c22; replace H := bm H; obtain ⟨⟨t108, t109⟩, A230, H⟩ := H; replace H : ((XA.word_WeekdayOf.f k2 (wrap64 (1 + t102)) t108).bind fun bt110 => ((XI.word_Is.f k2 (wrap64 (1 + t102)) t108).bind fun t112 => (if t109 = 0 then (if bt110.2 = 0 then (if bt110.1 = x17_2 then (if t112 = true then (newswirelaw11_WordNames.j3 k2 a1 a2 a3 true (wrap64 (1 + t102)) x17_2 true) else (newswirelaw11_WordNames.j3 k2 a1 a2 a3 true (wrap64 (1 + t102)) x17_2 (t108.toList == ([] : List UInt8)))) else (newswirelaw11_WordNames.j3 k2 a1 a2 a3 true (wrap64 (1 + t102)) x17_2 true)) else (newswirelaw11_WordNames.j3 k2 a1 a2 a3 true (wrap64 (1 + t102)) x17_2 true)) else (newswirelaw11_WordNames.j3 k2 a1 a2 a3 true (wrap64 (1 + t102)) x17_2 true)))) = some r := H; have A23 := am A230; clear A230; replace H := bm H; obtain ⟨⟨t110, t111⟩, A240, H⟩ := H; replace H : ((XI.word_Is.f k2 (wrap64 (1 + t102)) t108).bind fun t112 => (if t109 = 0 then (if t111 = 0 then (if t110 = x17_2 then (if t112 = true then (newswirelaw11_WordNames.j3 k2 a1 a2 a3 true (wrap64 (1 + t102)) x17_2 true) else (newswirelaw11_WordNames.j3 k2 a1 a2 a3 true (wrap64 (1 + t102)) x17_2 (t108.toList == ([] : List UInt8)))) else (newswirelaw11_WordNames.j3 k2 a1 a2 a3 true (wrap64 (1 + t102)) x17_2 true)) else (newswirelaw11_WordNames.j3 k2 a1 a2 a3 true (wrap64 (1 + t102)) x17_2 true)) else (newswirelaw11_WordNames.j3 k2 a1 a2 a3 true (wrap64 (1 + t102)) x17_2 true))) = some r := H; have A24 := am A240; clear A240; replace H := bm H; obtain ⟨t112, A25, H⟩ := H; replace A25 := am A25; have HC26 := am H; clear H
    go_upto_region 19 with (first | ((with_reducible refine gate_callee (f := 24) rfl ?_); refine gL (some 81) rfl rfl Tryd.func24 #[.int .i64 (wrap64 (1 + t102)), .int .i64 x17_2] ?_; (refine (XA.word_Weekday.calls k2 (wrap64 (1 + t102)) x17_2 t108 t109 _ A23.out).mono ?_); rintro e w27 ⟨rfl, hb⟩; refine ⟨_, rfl, ?_⟩; replace HB := bsp HB hb; (try clear hb)) | ((with_reducible refine gate_callee (f := 28) rfl ?_); refine gL (some 87) rfl rfl Tryd.func28 #[.int .i64 (wrap64 (1 + t102)), .string t108] ?_; (refine (XA.word_WeekdayOf.calls k2 (wrap64 (1 + t102)) t108 t110 t111 _ A24.out).mono ?_); rintro e w28 ⟨rfl, hb⟩; refine ⟨_, rfl, ?_⟩; replace HB := bsp HB hb; (try clear hb)) | ((with_reducible refine gate_callee (f := 20) rfl ?_); refine gL (some 92) rfl rfl Tryd.func20 #[.int .i64 (wrap64 (1 + t102)), .string t108] ?_; (refine (XI.word_Is.calls k2 (wrap64 (1 + t102)) t108 t112 _ ?_ A25.out).mono ?_); exact LW.below HLW.out (bes HB.out); rintro e w29 ⟨rfl, hb⟩; refine ⟨_, rfl, ?_⟩; replace HB := bsp HB hb; (try clear hb)))
    (try simp only [Act.put, sa_, s0_, s1_])
    go_cut [110] (fun v110 wc => ∃ (kq : Nat) (x110_25 : Bool), v110 = .bool x110_25 ∧ Aside0 (newswirelaw11_WordNames.j3 kq a1 a2 a3 true (wrap64 (1 + t102)) x17_2 x110_25 = some r) ∧ Aside0 (kq ≤ k2) ∧ Aside0 (Below w.heap.size w wc))
    case first =>
     have H := HC26.out; clear HC26
     by_cases c30 : t109 = 0; rotate_left
     ·rw [if_neg c30] at H
      have c30b0 := bF c30
      have c30b1 := nT c30
      (first | rw [c30b0] | (simp only [i64_w, i32_w]; rw [c30b0]) | skip)
      have H' := am H; clear H
      go_wp2
      go_meet
      case rel => exact ⟨_, (true), cd, H', ⟨by have := HK1.out; have := HK2.out; first | omega | exact Nat.le_refl _⟩, ⟨by exact bes HB.out⟩⟩
     rw [if_pos c30] at H
     have c30b0 := bT c30
     have c30b1 := nF c30; clear c30
     (first | rw [c30b0] | (simp only [i64_w, i32_w]; rw [c30b0]) | skip)
     by_cases c31 : t111 = 0; rotate_left
     ·rw [if_neg c31] at H
      have c31b0 := bF c31
      have c31b1 := nT c31
      have H' := am H; clear H
      go_wp2
      go_meet
      case rel => exact ⟨_, (true), cd, H', ⟨by have := HK1.out; have := HK2.out; first | omega | exact Nat.le_refl _⟩, ⟨by exact bes HB.out⟩⟩
     rw [if_pos c31] at H
     have c31b0 := bT c31
     have c31b1 := nF c31; clear c31
     by_cases c32 : t110 = x17_2; rotate_left
     ·rw [if_neg c32] at H
      have c32b0 := bF c32
      have c32b1 := nT c32
      have H' := am H; clear H
      go_wp2
      go_meet
      case rel => exact ⟨_, (true), cd, H', ⟨by have := HK1.out; have := HK2.out; first | omega | exact Nat.le_refl _⟩, ⟨by exact bes HB.out⟩⟩
     rw [if_pos c32] at H
     have c32b0 := bT c32
     have c32b1 := nF c32; clear c32
     by_cases c33 : t112 = true
     ·subst c33
      replace H := ip H
      have H' := am H; clear H
      go_wp2
      go_meet
      case rel => exact ⟨_, (true), cd, H', ⟨by have := HK1.out; have := HK2.out; first | omega | exact Nat.le_refl _⟩, ⟨by exact bes HB.out⟩⟩
     replace c33 := Bool.eq_false_iff.mpr c33; subst c33; replace H := inn H
     have H' := am H; clear H
     go_wp2
     go_meet
     case rel => exact ⟨_, ((t108.toList == ([] : List UInt8))), cd, H', ⟨by have := HK1.out; have := HK2.out; first | omega | exact Nat.le_refl _⟩, ⟨by exact bes HB.out⟩⟩
    clear HC26
    try clear c1
    try clear c2
    try clear p2
    try clear c3
    try clear c6
    try clear p6
    try clear c9
    try clear c9b0
    try clear c10
    try clear c11
    try clear c17
    try clear c17b0
    try clear c17b1
    try clear c18
    try clear c18b0
    try clear c18b1
    try clear c19
    try clear c19b0
    try clear c19b1
    try clear c20
    try clear c21
    try clear c22
    try clear c22b0
    try clear c24
    try clear c26
    try clear c28
    try clear c30
    try clear c30b0
    try clear c30b1
    try clear c31
    try clear c31b0
    try clear c31b1
    try clear c32
    try clear c32b0
    try clear c32b1
    try clear c33
    try clear p2
    try clear p6
    obtain ⟨kq, x110_25, rfl, HA, HJ25, HB⟩ := hcut
    cases kq with
    | zero => exact absurd HA.out (by simp [newswirelaw11_WordNames.j3])
    | succ kj25 =>
     have H := HA.out; clear HA; simp only [newswirelaw11_WordNames.j3] at H
     by_cases c34 : x110_25 = true
     ·subst c34
      replace H := ip H
      obtain rfl := Option.some.inj H
      go_wp2
      go_ret
      exact ⟨er, by exact bes HB.out⟩
     replace c34 := Bool.eq_false_iff.mpr c34; subst c34; replace H := inn H
     have H' := am H; clear H
     go_wp2
     go_roundg kj25
     case measure => have := HK1.out; have := HK2.out; have := HJ25.out; omega
     case rel => exact ⟨(wrap64 (x17_2 + 1)), cd, H', ⟨by have := HK1.out; have := HK2.out; have := HJ25.out; omega⟩, ⟨by exact bes HB.out⟩⟩
   rw [if_neg c22] at H
   have c22b0 := dF c22; clear c22; replace H := bm H; obtain ⟨⟨t113, t114⟩, A350, H⟩ := H; replace H : ((XA.word_Weekday.f k2 (wrap64 (1 + t102)) a2).bind fun bt115 => (if 0 ≤ (mn (a3.size : Int) 60) then (if (mn (a3.size : Int) 60) ≤ (a3.size : Int) then ((XA.word_MonthOf.f k2 (wrap64 (1 + t102)) (a3.extract 0 ((mn (a3.size : Int) 60) : Int).toNat)).bind fun bt117 => ((XA.word_Month.f k2 (wrap64 (1 + t102)) bt117.1).bind fun bt119 => (if a1 ≥ 1 then (if ((t114 == 0) != (decide (a1 ≤ 12))) = true then (newswirelaw11_WordNames.j4 k2 a3 true bt117.2 bt119.1 bt119.2 true) else (if a2 ≥ 0 then (newswirelaw11_WordNames.j4 k2 a3 true bt117.2 bt119.1 bt119.2 ((bt115.2 == 0) != (decide (a2 ≤ 6)))) else (newswirelaw11_WordNames.j4 k2 a3 true bt117.2 bt119.1 bt119.2 ((bt115.2 == 0) != false)))) else (if ((t114 == 0) != false) = true then (newswirelaw11_WordNames.j4 k2 a3 true bt117.2 bt119.1 bt119.2 true) else (if a2 ≥ 0 then (newswirelaw11_WordNames.j4 k2 a3 true bt117.2 bt119.1 bt119.2 ((bt115.2 == 0) != (decide (a2 ≤ 6)))) else (newswirelaw11_WordNames.j4 k2 a3 true bt117.2 bt119.1 bt119.2 ((bt115.2 == 0) != false))))))) else (none)) else (none))) = some r := H; have A35 := am A350; clear A350; replace H := bm H; obtain ⟨⟨t115, t116⟩, A360, H⟩ := H; replace H : (if 0 ≤ (mn (a3.size : Int) 60) then (if (mn (a3.size : Int) 60) ≤ (a3.size : Int) then ((XA.word_MonthOf.f k2 (wrap64 (1 + t102)) (a3.extract 0 ((mn (a3.size : Int) 60) : Int).toNat)).bind fun bt117 => ((XA.word_Month.f k2 (wrap64 (1 + t102)) bt117.1).bind fun bt119 => (if a1 ≥ 1 then (if ((t114 == 0) != (decide (a1 ≤ 12))) = true then (newswirelaw11_WordNames.j4 k2 a3 true bt117.2 bt119.1 bt119.2 true) else (if a2 ≥ 0 then (newswirelaw11_WordNames.j4 k2 a3 true bt117.2 bt119.1 bt119.2 ((t116 == 0) != (decide (a2 ≤ 6)))) else (newswirelaw11_WordNames.j4 k2 a3 true bt117.2 bt119.1 bt119.2 ((t116 == 0) != false)))) else (if ((t114 == 0) != false) = true then (newswirelaw11_WordNames.j4 k2 a3 true bt117.2 bt119.1 bt119.2 true) else (if a2 ≥ 0 then (newswirelaw11_WordNames.j4 k2 a3 true bt117.2 bt119.1 bt119.2 ((t116 == 0) != (decide (a2 ≤ 6)))) else (newswirelaw11_WordNames.j4 k2 a3 true bt117.2 bt119.1 bt119.2 ((t116 == 0) != false))))))) else (none)) else (none)) = some r := H; have A36 := am A360; clear A360; obtain ⟨ji37, hji37⟩ : ∃ j_ : Int, (mn (a3.size : Int) 60) = j_ := ⟨_, rfl⟩; replace H : (if 0 ≤ (ji37) then (if (ji37) ≤ (a3.size : Int) then ((XA.word_MonthOf.f k2 (wrap64 (1 + t102)) (a3.extract 0 ((ji37) : Int).toNat)).bind fun bt117 => ((XA.word_Month.f k2 (wrap64 (1 + t102)) bt117.1).bind fun bt119 => (if a1 ≥ 1 then (if ((t114 == 0) != (decide (a1 ≤ 12))) = true then (newswirelaw11_WordNames.j4 k2 a3 true bt117.2 bt119.1 bt119.2 true) else (if a2 ≥ 0 then (newswirelaw11_WordNames.j4 k2 a3 true bt117.2 bt119.1 bt119.2 ((t116 == 0) != (decide (a2 ≤ 6)))) else (newswirelaw11_WordNames.j4 k2 a3 true bt117.2 bt119.1 bt119.2 ((t116 == 0) != false)))) else (if ((t114 == 0) != false) = true then (newswirelaw11_WordNames.j4 k2 a3 true bt117.2 bt119.1 bt119.2 true) else (if a2 ≥ 0 then (newswirelaw11_WordNames.j4 k2 a3 true bt117.2 bt119.1 bt119.2 ((t116 == 0) != (decide (a2 ≤ 6)))) else (newswirelaw11_WordNames.j4 k2 a3 true bt117.2 bt119.1 bt119.2 ((t116 == 0) != false))))))) else (none)) else (none)) = some r := by first | (rw [hji37] at H; exact H) | (simp only [hji37] at H ⊢; exact H)
   (try rw [hji37] at A35)
   (try rw [hji37] at A36)
   have hji37_ : (if 60 < (a3.size : Int) then 60 else (a3.size : Int)) = ji37 := hji37
   by_cases c38 : 0 ≤ (ji37); rotate_left
   ·rw [if_neg c38] at H
    exact absurd H (by simp)
   rw [if_pos c38] at H; have c38b0 := eq_true c38
   have c38b1 := dT c38; clear c38
   by_cases c39 : (ji37) ≤ (a3.size : Int); rotate_left
   ·rw [if_neg c39] at H
    exact absurd H (by simp)
   rw [if_pos c39] at H; have c39b0 := eq_true c39
   have c39b1 := dT c39; clear c39; replace H := bm H; obtain ⟨⟨t117, t118⟩, A400, H⟩ := H; replace H : ((XA.word_Month.f k2 (wrap64 (1 + t102)) t117).bind fun bt119 => (if a1 ≥ 1 then (if ((t114 == 0) != (decide (a1 ≤ 12))) = true then (newswirelaw11_WordNames.j4 k2 a3 true t118 bt119.1 bt119.2 true) else (if a2 ≥ 0 then (newswirelaw11_WordNames.j4 k2 a3 true t118 bt119.1 bt119.2 ((t116 == 0) != (decide (a2 ≤ 6)))) else (newswirelaw11_WordNames.j4 k2 a3 true t118 bt119.1 bt119.2 ((t116 == 0) != false)))) else (if ((t114 == 0) != false) = true then (newswirelaw11_WordNames.j4 k2 a3 true t118 bt119.1 bt119.2 true) else (if a2 ≥ 0 then (newswirelaw11_WordNames.j4 k2 a3 true t118 bt119.1 bt119.2 ((t116 == 0) != (decide (a2 ≤ 6)))) else (newswirelaw11_WordNames.j4 k2 a3 true t118 bt119.1 bt119.2 ((t116 == 0) != false)))))) = some r := H; have A40 := am A400; clear A400; replace H := bm H; obtain ⟨⟨t119, t120⟩, A410, H⟩ := H; replace H : (if a1 ≥ 1 then (if ((t114 == 0) != (decide (a1 ≤ 12))) = true then (newswirelaw11_WordNames.j4 k2 a3 true t118 t119 t120 true) else (if a2 ≥ 0 then (newswirelaw11_WordNames.j4 k2 a3 true t118 t119 t120 ((t116 == 0) != (decide (a2 ≤ 6)))) else (newswirelaw11_WordNames.j4 k2 a3 true t118 t119 t120 ((t116 == 0) != false)))) else (if ((t114 == 0) != false) = true then (newswirelaw11_WordNames.j4 k2 a3 true t118 t119 t120 true) else (if a2 ≥ 0 then (newswirelaw11_WordNames.j4 k2 a3 true t118 t119 t120 ((t116 == 0) != (decide (a2 ≤ 6)))) else (newswirelaw11_WordNames.j4 k2 a3 true t118 t119 t120 ((t116 == 0) != false))))) = some r := H; have A41 := am A410; clear A410; have HC42 := am H; clear H
   go_upto_region 25 with (first | ((with_reducible refine gate_callee (f := 22) rfl ?_); refine gL (some 114) rfl rfl Tryd.func22 #[.int .i64 (wrap64 (1 + t102)), .int .i64 a1] ?_; (with_reducible refine (XA.word_Month.calls k2 (wrap64 (1 + t102)) a1 t113 t114 _ A35.out).mono ?_); rintro e w43 ⟨rfl, hb⟩; refine ⟨_, rfl, ?_⟩; replace HB := bsp HB hb; (try clear hb)) | ((with_reducible refine gate_callee (f := 24) rfl ?_); refine gL (some 120) rfl rfl Tryd.func24 #[.int .i64 (wrap64 (1 + t102)), .int .i64 a2] ?_; (refine (XA.word_Weekday.calls k2 (wrap64 (1 + t102)) a2 t115 t116 _ A36.out).mono ?_); rintro e w44 ⟨rfl, hb⟩; refine ⟨_, rfl, ?_⟩; replace HB := bsp HB hb; (try clear hb)) | ((with_reducible refine gate_callee (f := 26) rfl ?_); refine goesL_ (some 130) rfl rfl Tryd.func26 (by kernel_rfl) rfl #[.int .i64 (wrap64 (1 + t102)), .string (a3.extract 0 ((ji37) : Int).toNat)] rfl (by (try simp only [List.map_toArray, List.map_cons, List.map_nil]); first | done | (simp only [hji37]; rfl) | rfl | (simp only [List.length_drop, List.length_take]; rfl)) ?_; (refine (XA.word_MonthOf.calls k2 (wrap64 (1 + t102)) (a3.extract 0 ((ji37) : Int).toNat) t117 t118 _ A40.out).mono ?_); rintro e w45 ⟨rfl, hb⟩; refine ⟨_, rfl, ?_⟩; replace HB := bsp HB hb; (try clear hb)) | ((with_reducible refine gate_callee (f := 22) rfl ?_); refine gL (some 136) rfl rfl Tryd.func22 #[.int .i64 (wrap64 (1 + t102)), .int .i64 t117] ?_; (with_reducible refine (XA.word_Month.calls k2 (wrap64 (1 + t102)) t117 t119 t120 _ A41.out).mono ?_); rintro e w46 ⟨rfl, hb⟩; refine ⟨_, rfl, ?_⟩; replace HB := bsp HB hb; (try clear hb)))
   (try simp only [Act.put, sa_, s0_, s1_])
   go_cut [158] (fun v158 wc => ∃ (kq : Nat) (x158_41 : Bool), v158 = .bool x158_41 ∧ Aside0 (newswirelaw11_WordNames.j4 kq a3 true t118 t119 t120 x158_41 = some r) ∧ Aside0 (kq ≤ k2) ∧ Aside0 (Below w.heap.size w wc))
   case first =>
    have H := HC42.out; clear HC42
    by_cases c47 : a1 ≥ 1
    ·rw [if_pos c47] at H
     have c47b0 := dT c47; clear c47
     (first | rw [c47b0] | (simp only [i64_w, i32_w]; rw [c47b0]) | skip)
     by_cases c48 : ((t114 == 0) != (decide (a1 ≤ 12))) = true
     ·rw [if_pos c48] at H
      have c48b0 : ((t114 == 0) != (decide (a1 ≤ 12))) = true := c48
      (try (have c48b1 : decide ((t114 == 0) = (decide (a1 ≤ 12))) = false := by simpa using c48))
      (try (have c48b2 : ((t114 == 0) == (decide (a1 ≤ 12))) = false := by simpa using c48))
      (try (have c48b3 : ¬ ((t114 == 0) = (decide (a1 ≤ 12))) := by simpa using c48)); clear c48
      have H' := am H; clear H
      go_wp2
      go_meet
      case rel => exact ⟨_, (true), cd, H', ⟨by have := HK1.out; have := HK2.out; first | omega | exact Nat.le_refl _⟩, ⟨by exact bes HB.out⟩⟩
     rw [if_neg c48] at H
     have c48b0 : ((t114 == 0) != (decide (a1 ≤ 12))) = false := by simpa using c48
     (try (have c48b1 : decide ((t114 == 0) = (decide (a1 ≤ 12))) = true := by simpa using c48))
     (try (have c48b2 : ((t114 == 0) == (decide (a1 ≤ 12))) = true := by simpa using c48)); clear c48
     by_cases c49 : a2 ≥ 0
     ·rw [if_pos c49] at H
      have c49b0 := dT c49; clear c49
      have H' := am H; clear H
      go_wp2
      go_meet
      case rel => exact ⟨_, (((t116 == 0) != (decide (a2 ≤ 6)))), cd, H', ⟨by have := HK1.out; have := HK2.out; first | omega | exact Nat.le_refl _⟩, ⟨by exact bes HB.out⟩⟩
     rw [if_neg c49] at H
     have c49b0 := dF c49; clear c49
     have H' := am H; clear H
     go_wp2
     go_meet
     case rel => exact ⟨_, (((t116 == 0) != false)), cd, H', ⟨by have := HK1.out; have := HK2.out; first | omega | exact Nat.le_refl _⟩, ⟨by exact bes HB.out⟩⟩
    rw [if_neg c47] at H
    have c47b0 := dF c47; clear c47
    (first | rw [c47b0] | (simp only [i64_w, i32_w]; rw [c47b0]) | skip)
    by_cases c50 : ((t114 == 0) != false) = true
    ·rw [if_pos c50] at H
     have c50b0 : ((t114 == 0) != false) = true := c50
     (try (have c50b1 : decide ((t114 == 0) = false) = false := by simpa using c50))
     (try (have c50b2 : ((t114 == 0) == false) = false := by simpa using c50))
     (try (have c50b3 : ¬ ((t114 == 0) = false) := by simpa using c50)); clear c50
     have H' := am H; clear H
     go_wp2
     go_meet
     case rel => exact ⟨_, (true), cd, H', ⟨by have := HK1.out; have := HK2.out; first | omega | exact Nat.le_refl _⟩, ⟨by exact bes HB.out⟩⟩
    rw [if_neg c50] at H
    have c50b0 : ((t114 == 0) != false) = false := by simpa using c50
    (try (have c50b1 : decide ((t114 == 0) = false) = true := by simpa using c50))
    (try (have c50b2 : ((t114 == 0) == false) = true := by simpa using c50)); clear c50
    by_cases c51 : a2 ≥ 0
    ·rw [if_pos c51] at H
     have c51b0 := dT c51; clear c51
     have H' := am H; clear H
     go_wp2
     go_meet
     case rel => exact ⟨_, (((t116 == 0) != (decide (a2 ≤ 6)))), cd, H', ⟨by have := HK1.out; have := HK2.out; first | omega | exact Nat.le_refl _⟩, ⟨by exact bes HB.out⟩⟩
    rw [if_neg c51] at H
    have c51b0 := dF c51; clear c51
    have H' := am H; clear H
    go_wp2
    go_meet
    case rel => exact ⟨_, (((t116 == 0) != false)), cd, H', ⟨by have := HK1.out; have := HK2.out; first | omega | exact Nat.le_refl _⟩, ⟨by exact bes HB.out⟩⟩
   clear HC42
   try clear c1
   try clear c2
   try clear p2
   try clear c3
   try clear c4
   try clear c5
   try clear c6
   try clear p6
   try clear c9
   try clear c9b0
   try clear c10
   try clear c11
   try clear c17
   try clear c17b0
   try clear c17b1
   try clear c18
   try clear c18b0
   try clear c18b1
   try clear c19
   try clear c19b0
   try clear c19b1
   try clear c20
   try clear c21
   try clear c22
   try clear c22b0
   try clear c24
   try clear c26
   try clear c28
   try clear c30
   try clear c30b0
   try clear c30b1
   try clear c31
   try clear c31b0
   try clear c31b1
   try clear c32
   try clear c32b0
   try clear c32b1
   try clear c33
   try clear c34
   try clear c38
   try clear c38b0
   try clear c38b1
   try clear c39
   try clear c39b0
   try clear c39b1
   try clear c47
   try clear c47b0
   try clear c48
   try clear c48b0
   try clear c48b1
   try clear c48b2
   try clear c49
   try clear c49b0
   try clear c50
   try clear c50b0
   try clear c50b1
   try clear c50b2
   try clear c51
   try clear c51b0
   try clear p2
   try clear p6
   obtain ⟨kq, x158_41, rfl, HA, HJ41, HB⟩ := hcut
   cases kq with
   | zero => exact absurd HA.out (by simp [newswirelaw11_WordNames.j4])
   | succ kj41 =>
    have H := HA.out; clear HA; simp only [newswirelaw11_WordNames.j4] at H
    by_cases c52 : x158_41 = true
    ·subst c52
     replace H := ip H
     obtain rfl := Option.some.inj H
     go_wp2
     go_ret
     exact ⟨by first | rfl | (simp [errW_none, errW_some] <;> rfl) | (simp only [← hji37]; first | rfl | (simp [errW_none, errW_some] <;> rfl)) | (simp [*, errW_none, errW_some] <;> rfl), by exact bes HB.out⟩
    replace c52 := Bool.eq_false_iff.mpr c52; subst c52; replace H := inn H
    replace H := ip H
    by_cases c53 : t118 = 0; rotate_left
    ·rw [if_neg c53] at H
     have c53b0 := bF c53
     have c53b1 := nT c53; obtain rfl := Option.some.inj H
     go_wp2
     go_ret
     exact ⟨by first | rfl | (simp [errW_none, errW_some] <;> rfl) | (simp only [← hji37]; first | rfl | (simp [errW_none, errW_some] <;> rfl)) | (simp [*, errW_none, errW_some] <;> rfl), by exact bes HB.out⟩
    rw [if_pos c53] at H
    have c53b0 := bT c53
    have c53b1 := nF c53; clear c53
    by_cases c54 : t120 = 0; rotate_left
    ·rw [if_neg c54] at H
     have c54b0 := bF c54
     have c54b1 := nT c54; obtain rfl := Option.some.inj H
     go_wp2
     go_ret
     exact ⟨by first | rfl | (simp [errW_none, errW_some] <;> rfl) | (simp only [← hji37]; first | rfl | (simp [errW_none, errW_some] <;> rfl)) | (simp [*, errW_none, errW_some] <;> rfl), by exact bes HB.out⟩
    rw [if_pos c54] at H
    have c54b0 := bT c54
    have c54b1 := nF c54; clear c54; obtain ⟨ji55, hji55⟩ : ∃ j_ : Int, (mn (a3.size : Int) 60) = j_ := ⟨_, rfl⟩; replace H : (if 0 ≤ (ji55) then (if (ji55) ≤ (a3.size : Int) then (some (t119.toList == (a3.extract 0 ((ji55) : Int).toNat).toList)) else (none)) else (none)) = some r := by first | (rw [hji55] at H; exact H) | (simp only [hji55] at H ⊢; exact H)
    have hji55_ : (if 60 < (a3.size : Int) then 60 else (a3.size : Int)) = ji55 := hji55
    by_cases c56 : 0 ≤ (ji55); rotate_left
    ·rw [if_neg c56] at H
     exact absurd H (by simp)
    rw [if_pos c56] at H; have c56b0 := eq_true c56
    have c56b1 := dT c56; clear c56
    by_cases c57 : (ji55) ≤ (a3.size : Int)
    ·rw [if_pos c57] at H
     have c57b0 := eq_true c57
     have c57b1 := dT c57; clear c57; obtain rfl := Option.some.inj H
     go_wp2
     go_ret
     exact ⟨by first | rfl | (simp [errW_none, errW_some] <;> rfl) | (simp only [← hji37, ← hji55]; first | rfl | (simp [errW_none, errW_some] <;> rfl)) | (simp [*, errW_none, errW_some] <;> rfl), by exact bes HB.out⟩
    rw [if_neg c57] at H
    exact absurd H (by simp)

end Go.Proofs.YtjgobfbjmlacjaaDoor.XN
