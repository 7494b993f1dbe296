-- Written by wip/xprint.py (a driver of mine over the kit's printer) for this claim.
import Derived.Test.YtjgobfbjmlacjaaDoorXI0
namespace Go.Proofs.YtjgobfbjmlacjaaDoor.XI
open Go.RowKit Go.Proofs.YtjgobfbjmlacjaaDoorW.PrintWords Go.Proofs.YtjgobfbjmlacjaaDoorW.PrintLast Go.Proofs.YtjgobfbjmlacjaaDoorW.PrintMore
open Bool renaming true → tt, false → ff
open _root_.ByteArray renaming mk → B_
attribute [local go_sem] max2_int min2_int max_two min_two max_three min_three max_four min_four   -- for this text's walks alone
set_option maxHeartbeats 8000000
set_option maxRecDepth 100000
set_option linter.unusedVariables false
set_option linter.unusedSimpArgs false

/-! ### word_Is: function 20 -/
mutual
def word_Is.j0 : Nat → Int → Bool → ByteArray → Option (Bool)
 | 0, _, _, _ => none
 | k + 1, x0, x33, a => if x33 = true then (some false) else ((XA.word_tongues.f x0).bind fun bt106 => ((XA.word_tongue_value.f k bt106.1 bt106.2.1 bt106.2.2.1 bt106.2.2.2.1 bt106.2.2.2.2.1 bt106.2.2.2.2.2.1 bt106.2.2.2.2.2.2 a).bind fun bt122 => ((XA.word_tongue_many.f k bt106.1 bt106.2.1 bt106.2.2.1 bt106.2.2.2.1 bt106.2.2.2.2.1 bt106.2.2.2.2.2.1 bt106.2.2.2.2.2.2 a).bind fun bt124 => (if bt122.2 = true then (word_Is.j1 k true a bt106.1 bt106.2.1 bt106.2.2.1 bt106.2.2.2.1 bt106.2.2.2.2.1 bt106.2.2.2.2.2.1 bt106.2.2.2.2.2.2) else (if bt124.2 = true then (word_Is.j1 k true a bt106.1 bt106.2.1 bt106.2.2.1 bt106.2.2.2.1 bt106.2.2.2.2.1 bt106.2.2.2.2.2.1 bt106.2.2.2.2.2.2) else (if 0 < (bt106.1.length : Int) then (word_Is.j1 k (a.toList == (rdOf ByteArray.empty bt106.1 0).toList) a bt106.1 bt106.2.1 bt106.2.2.1 bt106.2.2.2.1 bt106.2.2.2.2.1 bt106.2.2.2.2.2.1 bt106.2.2.2.2.2.2) else (none)))))))
def word_Is.j1 : Nat → Bool → ByteArray → List ByteArray → List ByteArray → List ByteArray → List ByteArray → Option Nat → Option Nat → Option Nat → Option (Bool)
 | 0, _, _, _, _, _, _, _, _, _ => none
 | k + 1, x60, a, b, c, d, e, f, g, h => if x60 = true then (some true) else (word_Is.l0 k 1 a b c d e f g h)
def word_Is.l0 : Nat → Int → ByteArray → List ByteArray → List ByteArray → List ByteArray → List ByteArray → Option Nat → Option Nat → Option Nat → Option (Bool)
 | 0, _, _, _, _, _, _, _, _, _ => none
 | k + 1, x11, a, b, c, d, e, g, h, i => if x11 < 10 then (if 1 < (b.length : Int) then (if h = some 58 then ((XA.word_tongues_2.f b c d e g (some 58) i x11 (rdOf ByteArray.empty b 1)).bind fun t128 => ((word_Is_1.f k t128 a).bind fun t129 => (if t129 = true then (word_Is.j3 k x11 true a b c d e g (some 58) i) else (if g = some 57 then ((XA.word_tongues_1.f b c d e (some 57) (some 58) i 1 x11).bind fun t130 => ((word_Is_1.f k t130 a).bind fun t131 => (word_Is.j3 k x11 t131 a b c d e (some 57) (some 58) i))) else (none))))) else (if h = some 63 then ((XA.word_tongues_5.f b c d e g (some 63) i x11 (rdOf ByteArray.empty b 1)).bind fun t132 => ((word_Is_1.f k t132 a).bind fun t133 => (if t133 = true then (word_Is.j3 k x11 true a b c d e g (some 63) i) else (if g = some 61 then ((XA.word_tongues_4.f b c d e (some 61) (some 63) i 1 x11).bind fun t134 => ((word_Is_1.f k t134 a).bind fun t135 => (word_Is.j3 k x11 t135 a b c d e (some 61) (some 63) i))) else (none))))) else (if h = some 66 then ((XA.word_tongues_8.f b c d e g (some 66) i x11 (rdOf ByteArray.empty b 1)).bind fun t136 => ((word_Is_1.f k t136 a).bind fun t137 => (if t137 = true then (word_Is.j3 k x11 true a b c d e g (some 66) i) else (if g = some 65 then ((XA.word_tongues_7.f b c d e (some 65) (some 66) i 1 x11).bind fun t138 => ((word_Is_1.f k t138 a).bind fun t139 => (word_Is.j3 k x11 t139 a b c d e (some 65) (some 66) i))) else (none))))) else (none)))) else (none)) else (word_Is.l1 k 0 1 2 21 31 a b c d e g h i)
def word_Is.j3 : Nat → Int → Bool → ByteArray → List ByteArray → List ByteArray → List ByteArray → List ByteArray → Option Nat → Option Nat → Option Nat → Option (Bool)
 | 0, _, _, _, _, _, _, _, _, _, _ => none
 | k + 1, x11, x84, a, b, c, d, e, f, g, h => if x84 = true then (some true) else (word_Is.l0 k (wrap64 (x11 + 1)) a b c d e f g h)
def word_Is.l1 : Nat → Int → Int → Int → Int → Int → ByteArray → List ByteArray → List ByteArray → List ByteArray → List ByteArray → Option Nat → Option Nat → Option Nat → Option (Bool)
 | 0, _, _, _, _, _, _, _, _, _, _, _, _, _ => none
 | k + 1, x86, x900, x901, x902, x903, a, b, c, d, e, f, g, h => if x86 < 4 then (if x86 = 0 then (word_Is.j5 k x900 0 x900 x901 x902 x903 a b c d e f g h) else (if x86 = 1 then (word_Is.j5 k x901 1 x900 x901 x902 x903 a b c d e f g h) else (if x86 = 2 then (word_Is.j5 k x902 2 x900 x901 x902 x903 a b c d e f g h) else (if x86 = 3 then (word_Is.j5 k x903 3 x900 x901 x902 x903 a b c d e f g h) else (none))))) else (some false)
def word_Is.j5 : Nat → Int → Int → Int → Int → Int → Int → ByteArray → List ByteArray → List ByteArray → List ByteArray → List ByteArray → Option Nat → Option Nat → Option Nat → Option (Bool)
 | 0, _, _, _, _, _, _, _, _, _, _, _, _, _, _ => none
 | k + 1, x13, x86, x900, x901, x902, x903, a, b, c, d, e, g, h, i => (XA.word_tongue_small.f k b c d e g h i x13).bind fun t144 => (if i = some 60 then ((XA.word_tongues_3.f t144 x13).bind fun t145 => ((word_Is_1.f k t145 a).bind fun t146 => (if t146 = true then (some true) else (word_Is.l1 k (wrap64 (x86 + 1)) x900 x901 x902 x903 a b c d e g h (some 60))))) else (if i = some 64 then ((XA.word_tongues_6.f t144 x13).bind fun t147 => ((word_Is_1.f k t147 a).bind fun t148 => (if t148 = true then (some true) else (word_Is.l1 k (wrap64 (x86 + 1)) x900 x901 x902 x903 a b c d e g h (some 64))))) else (if i = some 67 then ((XA.word_tongues_9.f t144 x13).bind fun t149 => ((word_Is_1.f k t149 a).bind fun t150 => (if t150 = true then (some true) else (word_Is.l1 k (wrap64 (x86 + 1)) x900 x901 x902 x903 a b c d e g h (some 67))))) else (none))))
end
def word_Is.f (k : Nat) (a0 : Int) (a1 : ByteArray) : Option (Bool) := (XA.word_known.f a0).bind fun t102 => (if t102 = true then ((strings_Contains.f a1 (B_ #[32])).bind fun t103 => (if t103 = true then (word_Is.j0 k a0 true a1) else (if a1.toList = ([] : List UInt8) then (word_Is.j0 k a0 true a1) else (if 0 ≤ a0 then (if a0 < 4 then (if 0 ≤ 1 then (if 1 ≤ (a1.size : Int) then ((strings_Contains.f (rdOf ByteArray.empty lettersTab a0) (a1.extract 0 1)).bind fun t105 => (word_Is.j0 k a0 (!t105) a1)) else (none)) else (none)) else (none)) else (none))))) else (word_Is.j0 k a0 true a1))
theorem word_Is.mono_l : ∀ k, (∀ y0 y1 y2, LeO (word_Is.j0 k y0 y1 y2) (word_Is.j0 (k + 1) y0 y1 y2)) ∧ (∀ y0 y1 y2 y3 y4 y5 y6 y7 y8, LeO (word_Is.j1 k y0 y1 y2 y3 y4 y5 y6 y7 y8) (word_Is.j1 (k + 1) y0 y1 y2 y3 y4 y5 y6 y7 y8)) ∧ (∀ y0 y1 y2 y3 y4 y5 y6 y7 y8, LeO (word_Is.l0 k y0 y1 y2 y3 y4 y5 y6 y7 y8) (word_Is.l0 (k + 1) y0 y1 y2 y3 y4 y5 y6 y7 y8)) ∧ (∀ y0 y1 y2 y3 y4 y5 y6 y7 y8 y9, LeO (word_Is.j3 k y0 y1 y2 y3 y4 y5 y6 y7 y8 y9) (word_Is.j3 (k + 1) y0 y1 y2 y3 y4 y5 y6 y7 y8 y9)) ∧ (∀ y0 y1 y2 y3 y4 y5 y6 y7 y8 y9 y10 y11 y12, LeO (word_Is.l1 k y0 y1 y2 y3 y4 y5 y6 y7 y8 y9 y10 y11 y12) (word_Is.l1 (k + 1) y0 y1 y2 y3 y4 y5 y6 y7 y8 y9 y10 y11 y12)) ∧ (∀ y0 y1 y2 y3 y4 y5 y6 y7 y8 y9 y10 y11 y12 y13, LeO (word_Is.j5 k y0 y1 y2 y3 y4 y5 y6 y7 y8 y9 y10 y11 y12 y13) (word_Is.j5 (k + 1) y0 y1 y2 y3 y4 y5 y6 y7 y8 y9 y10 y11 y12 y13))
 | 0 => ⟨fun _ _ _ r h => by simp [word_Is.j0] at h, fun _ _ _ _ _ _ _ _ _ r h => by simp [word_Is.j1] at h, fun _ _ _ _ _ _ _ _ _ r h => by simp [word_Is.l0] at h, fun _ _ _ _ _ _ _ _ _ _ r h => by simp [word_Is.j3] at h, fun _ _ _ _ _ _ _ _ _ _ _ _ _ r h => by simp [word_Is.l1] at h, fun _ _ _ _ _ _ _ _ _ _ _ _ _ _ r h => by simp [word_Is.j5] at h⟩
 | k + 1 => by
  obtain ⟨ih0, ih1, ih2, ih3, ih4, ih5⟩ := word_Is.mono_l k
  refine ⟨?_, ?_, ?_, ?_, ?_, ?_⟩
  all_goals
   intros; first | unfold word_Is.j0 | unfold word_Is.j1 | unfold word_Is.l0 | unfold word_Is.j3 | unfold word_Is.l1 | unfold word_Is.j5
   repeat' first
   | (with_reducible exact ih0 _ _ _)
   | (with_reducible exact ih1 _ _ _ _ _ _ _ _ _)
   | (with_reducible exact ih2 _ _ _ _ _ _ _ _ _)
   | (with_reducible exact ih3 _ _ _ _ _ _ _ _ _ _)
   | (with_reducible exact ih4 _ _ _ _ _ _ _ _ _ _ _ _ _)
   | (with_reducible exact ih5 _ _ _ _ _ _ _ _ _ _ _ _ _ _)
   | (with_reducible exact XA.word_tongue_many.mono _ _ _ _ _ _ _ _ _)
   | (with_reducible exact XA.word_tongue_small.mono _ _ _ _ _ _ _ _ _)
   | (with_reducible exact XA.word_tongue_value.mono _ _ _ _ _ _ _ _ _)
   | (with_reducible exact word_Is_1.mono _ _ _)
   | (with_reducible exact LeO.refl _)
   | (with_reducible exact LeO.none _)
   | (with_reducible refine LeO.ite ?_ ?_)
   | (with_reducible refine LeO.bind ?_ (fun _ => ?_))
theorem word_Is.mono : ∀ a0 a1 k, LeO (word_Is.f k a0 a1) (word_Is.f (k + 1) a0 a1) := by
 intro a0 a1 k; obtain ⟨ih0, ih1, ih2, ih3, ih4, ih5⟩ := word_Is.mono_l k
 unfold word_Is.f
 repeat' first
   | (with_reducible exact ih0 _ _ _)
   | (with_reducible exact ih1 _ _ _ _ _ _ _ _ _)
   | (with_reducible exact ih2 _ _ _ _ _ _ _ _ _)
   | (with_reducible exact ih3 _ _ _ _ _ _ _ _ _ _)
   | (with_reducible exact ih4 _ _ _ _ _ _ _ _ _ _ _ _ _)
   | (with_reducible exact ih5 _ _ _ _ _ _ _ _ _ _ _ _ _ _)
   | (with_reducible exact XA.word_tongue_many.mono _ _ _ _ _ _ _ _ _)
   | (with_reducible exact XA.word_tongue_small.mono _ _ _ _ _ _ _ _ _)
   | (with_reducible exact XA.word_tongue_value.mono _ _ _ _ _ _ _ _ _)
   | (with_reducible exact word_Is_1.mono _ _ _)
   | (with_reducible exact LeO.refl _)
   | (with_reducible exact LeO.none _)
   | (with_reducible refine LeO.ite ?_ ?_)
   | (with_reducible refine LeO.bind ?_ (fun _ => ?_))
def word_Is.T1 : Bool × List (List Nat × List Nat) := (true, [([], []), ([0], [0]), ([1], [1]), ([2, 1], [2]), ([3], [3]), ([4, 3, 3], [3, 4]), ([3, 5], [3, 5]), ([6, 5], [6]), ([7], [7]), ([8, 7], [7, 8]), ([7, 9], [7, 9]), ([10, 7], [10]), ([11], [11]), ([12, 11], [11, 12]), ([13, 11], [11, 13]), ([11], [11]), ([15, 11], [11, 15]), ([14, 16, 11, 11], [11, 14, 16]), ([17, 11], [11, 17]), ([11, 18], [11, 18])])
def word_Is.B1 : List Nat := [0, 1, 3, 7, 15, 31, 63, 127, 255, 511, 1023, 2047, 4095, 8191, 16383, 4095, 36863, 131071, 262143, 524287]
theorem word_Is.tab1 : rtab .any (opsOf Tryd.f20 1) = word_Is.T1 := by kernel_rfl
theorem word_Is.bits1 : waitsOk word_Is.T1.2 word_Is.B1 = true := by kernel_rfl
def word_Is.T7 : Bool × List (List Nat × List Nat) := (true, [([], []), ([0], [0]), ([1], [1]), ([1, 2], [1, 2]), ([3, 1], [3]), ([4], [4]), ([4], [4]), ([6, 4], [4, 6]), ([7, 4], [4, 7]), ([8, 4], [4, 8]), ([5, 9, 4], [4, 5, 9]), ([4, 10], [4, 10])])
def word_Is.B7 : List Nat := [0, 1, 3, 7, 15, 31, 31, 95, 223, 479, 1023, 2047]
theorem word_Is.tab7 : rtab .any (opsOf Tryd.f20 7) = word_Is.T7 := by kernel_rfl
theorem word_Is.bits7 : waitsOk word_Is.T7.2 word_Is.B7 = true := by kernel_rfl
def word_Is.T12 : Bool × List (List Nat × List Nat) := (true, [([], []), ([], []), ([1], [1]), ([], []), ([], []), ([], []), ([5], [5]), ([6], [6]), ([7], [7]), ([2, 3, 4, 8], [2, 3, 4, 8]), ([0, 9, 9], [0, 9]), ([10, 10], [10]), ([11], [11]), ([11], [11]), ([13, 11], [11, 13]), ([11], [11]), ([11], [11]), ([14, 15, 16, 11, 11], [11, 14, 15, 16]), ([12, 17, 17, 11], [11, 12, 17]), ([11, 18], [11, 18])])
def word_Is.B12 : List Nat := [0, 0, 2, 0, 0, 0, 32, 96, 224, 510, 1023, 2047, 4095, 4095, 12287, 4095, 4095, 126975, 262143, 524287]
theorem word_Is.tab12 : rtab .any (opsOf Tryd.f20 12) = word_Is.T12 := by kernel_rfl
theorem word_Is.bits12 : waitsOk word_Is.T12.2 word_Is.B12 = true := by kernel_rfl
def word_Is.T17 : Bool × List (List Nat × List Nat) := (true, [([], []), ([], []), ([1], [1]), ([], []), ([], []), ([3, 4], [3, 4]), ([], []), ([2, 5, 6, 5], [2, 5, 6]), ([0, 7, 7], [0, 7])])
def word_Is.B17 : List Nat := [0, 0, 2, 0, 0, 24, 0, 126, 255]
theorem word_Is.tab17 : rtab .any (opsOf Tryd.f20 17) = word_Is.T17 := by kernel_rfl
theorem word_Is.bits17 : waitsOk word_Is.T17.2 word_Is.B17 = true := by kernel_rfl
theorem word_Is.calls (k : Nat) (a0 : Int) (a1 : ByteArray) (r : Bool) (w : World) (hL_ : LW w) (h : word_Is.f k a0 a1 = some r) :
  Calls Tryd.prog 20 #[.int .i64 a0, .string a1] w fun e w' => e = .returned (.bool r) ∧ Below w.heap.size w w' := by
 have hu59 := Tryd.underlying59; have hu70 := Tryd.underlying70; have HRgl0 := am (LW.lettersC hL_); have HLW := am hL_; clear hL_; have HB := am (Below.refl w.heap.size w)
 have H := h; clear h; unfold word_Is.f at H; have HC3 := am H; clear H
 go_enter Tryd.func20, Tryd.ntmps20
 go_upto_region 1 with (first | ((with_reducible refine gate_dst (N := 3) rfl ?_); refine bx 3 #[.string a1] 9 ?_; intro gb101 hg w4 hbox hb; have BK101 := am hbox; have GE101 := gem hg HB; replace HB := bsp HB hb; clear hb hbox hg))
 (try simp only [Act.put, sa_, s0_, s1_])
 go_cut [33] (fun v33 wc => ∃ (kq : Nat) (x33_2 : Bool), v33 = .bool x33_2 ∧ Aside0 (word_Is.j0 kq a0 x33_2 a1 = some r) ∧ Aside0 (kq ≤ k) ∧ Aside0 (wc.heap[gb101]? = some (.cells #[.string a1] 9 (0, 0))) ∧ Aside0 (Below w.heap.size w wc))
 case first =>
  have H := HC3.out; clear HC3; replace H := bm H; obtain ⟨t102, A5, H⟩ := H; replace A5 := am A5
  by_cases c6 : t102 = true; rotate_left
  ·replace c6 := Bool.eq_false_iff.mpr c6
   subst c6; replace H := inn H
   have H' := am H; clear H
   try go_wp2
   replace BK101 := am (blk_drew BK101.out); replace HB := am (below_drew1 HB.out)
   refine start_ (n := 20) (S := fun w' => True) (ds := []) #[ff,ff,ff,ff,ff,ff,ff,ff,ff,ff,ff,ff,ff,ff,ff,ff,ff,ff,ff,ff] (by kernel_rfl) rfl rfl trivial (fun hHeld => ?_); refine with_tabW word_Is.tab1 word_Is.bits1 (fun HT_ HW_ => ?_)
   generalize w4.drew = w22 at BK101 HB hHeld ⊢
   refine pv 0 (some 14) HT_.out #[tt,ff,ff,ff,ff,ff,ff,ff,ff,ff,ff,ff,ff,ff,ff,ff,ff,ff,ff,ff] ?_
   refine o1 1 (some 15) HT_.out #[tt,tt,ff,ff,ff,ff,ff,ff,ff,ff,ff,ff,ff,ff,ff,ff,ff,ff,ff,ff] fun K hK => ?_
   refine gV Tryd.func35 #[.int .i64 a0] ?_
   with_reducible refine (XA.word_known.calls a0 false _ A5.out).mono ?_
   rintro e w' ⟨rfl, ⟨nd, rfl⟩⟩
   refine ⟨_, rfl, ?_⟩
   refine hK.out _ _ trivial (fun hHeld => ?_); clear hK K
   refine norm_ (a' := ?_) ?_ ?_; rotate_left
   ·show Act.put _ (some 15) _ = _
    simp only [Act.put, sa_, s0_, s1_, i64_w, i32_w]
    rfl
   refine pv 2 (some 16) HT_.out #[tt,tt,tt,ff,ff,ff,ff,ff,ff,ff,ff,ff,ff,ff,ff,ff,ff,ff,ff,ff] ?_
   refine pv 3 (some 17) HT_.out #[tt,tt,tt,tt,ff,ff,ff,ff,ff,ff,ff,ff,ff,ff,ff,ff,ff,ff,ff,ff] ?_
   refine pn 4 (some 18) HT_.out #[tt,tt,tt,tt,tt,ff,ff,ff,ff,ff,ff,ff,ff,ff,ff,ff,ff,ff,ff,ff] ?_
   refine pn 5 (some 19) HT_.out #[tt,tt,tt,tt,tt,tt,ff,ff,ff,ff,ff,ff,ff,ff,ff,ff,ff,ff,ff,ff] ?_
   refine pv 6 (some 20) HT_.out #[tt,tt,tt,tt,tt,tt,tt,ff,ff,ff,ff,ff,ff,ff,ff,ff,ff,ff,ff,ff] ?_
   refine pv 7 (some 21) HT_.out #[tt,tt,tt,tt,tt,tt,tt,tt,ff,ff,ff,ff,ff,ff,ff,ff,ff,ff,ff,ff] ?_
   refine pn 8 (some 22) HT_.out #[tt,tt,tt,tt,tt,tt,tt,tt,tt,ff,ff,ff,ff,ff,ff,ff,ff,ff,ff,ff] ?_
   refine pn 9 (some 23) HT_.out #[tt,tt,tt,tt,tt,tt,tt,tt,tt,tt,ff,ff,ff,ff,ff,ff,ff,ff,ff,ff] ?_
   refine pv 10 (some 24) HT_.out #[tt,tt,tt,tt,tt,tt,tt,tt,tt,tt,tt,ff,ff,ff,ff,ff,ff,ff,ff,ff] ?_
   refine pv 11 (some 25) HT_.out #[tt,tt,tt,tt,tt,tt,tt,tt,tt,tt,tt,tt,ff,ff,ff,ff,ff,ff,ff,ff] ?_
   refine pn 12 (some 26) HT_.out #[tt,tt,tt,tt,tt,tt,tt,tt,tt,tt,tt,tt,tt,ff,ff,ff,ff,ff,ff,ff] ?_
   refine pn 13 (some 27) HT_.out #[tt,tt,tt,tt,tt,tt,tt,tt,tt,tt,tt,tt,tt,tt,ff,ff,ff,ff,ff,ff] ?_
   refine pn 14 (some 28) HT_.out #[tt,tt,tt,tt,tt,tt,tt,tt,tt,tt,tt,tt,tt,tt,tt,ff,ff,ff,ff,ff] ?_
   refine pn 15 (some 29) HT_.out #[tt,tt,tt,tt,tt,tt,tt,tt,tt,tt,tt,tt,tt,tt,tt,tt,ff,ff,ff,ff] ?_
   refine pn 16 (some 30) HT_.out #[tt,tt,tt,tt,tt,tt,tt,tt,tt,tt,tt,tt,tt,tt,tt,tt,tt,ff,ff,ff] ?_
   refine pn 17 (some 31) HT_.out #[tt,tt,tt,tt,tt,tt,tt,tt,tt,tt,tt,tt,tt,tt,tt,tt,tt,tt,ff,ff] ?_
   refine pn 18 (some 32) HT_.out #[tt,tt,tt,tt,tt,tt,tt,tt,tt,tt,tt,tt,tt,tt,tt,tt,tt,tt,tt,ff] ?_
   refine pv 19 (some 33) HT_.out #[tt,tt,tt,tt,tt,tt,tt,tt,tt,tt,tt,tt,tt,tt,tt,tt,tt,tt,tt,tt] ?_
   refine done_ (done_of HT_.out (by kernel_rfl)) ?_
   try go_wp2
   go_meet
   case rel => exact ⟨_, (true), cd, H', ⟨om⟩, ⟨by exact blk_st BK101.out⟩, ⟨by exact bes HB.out⟩⟩
  subst c6; replace H := ip H
  replace H := bm H; obtain ⟨t103, A7, H⟩ := H; replace A7 := am A7
  by_cases c8 : t103 = true
  ·subst c8
   replace H := ip H
   have H' := am H; clear H
   try go_wp2
   replace BK101 := am (blk_drew BK101.out); replace HB := am (below_drew1 HB.out)
   refine start_ (n := 20) (S := fun w' => w'.cell? ⟨gb101, 0, none⟩ = some (.string a1)) (ds := []) #[ff,ff,ff,ff,ff,ff,ff,ff,ff,ff,ff,ff,ff,ff,ff,ff,ff,ff,ff,ff] (by kernel_rfl) rfl rfl (bc BK101.out 0) (fun hHeld => ?_); refine with_tabW word_Is.tab1 word_Is.bits1 (fun HT_ HW_ => ?_)
   generalize w4.drew = w9 at BK101 HB hHeld ⊢
   refine pv 0 (some 14) HT_.out #[tt,ff,ff,ff,ff,ff,ff,ff,ff,ff,ff,ff,ff,ff,ff,ff,ff,ff,ff,ff] ?_
   refine o1 1 (some 15) HT_.out #[tt,tt,ff,ff,ff,ff,ff,ff,ff,ff,ff,ff,ff,ff,ff,ff,ff,ff,ff,ff] fun K hK => ?_
   refine gV Tryd.func35 #[.int .i64 a0] ?_
   with_reducible refine (XA.word_known.calls a0 true _ A5.out).mono ?_
   rintro e w' ⟨rfl, ⟨nd, rfl⟩⟩
   refine ⟨_, rfl, ?_⟩
   refine hK.out _ _ (bc BK101.out 0) (fun hHeld => ?_); clear hK K
   refine norm_ (a' := ?_) ?_ ?_; rotate_left
   ·show Act.put _ (some 15) _ = _
    simp only [Act.put, sa_, s0_, s1_, i64_w, i32_w]
    rfl
   refine pv 2 (some 16) HT_.out #[tt,tt,tt,ff,ff,ff,ff,ff,ff,ff,ff,ff,ff,ff,ff,ff,ff,ff,ff,ff] ?_
   refine pv 3 (some 17) HT_.out #[tt,tt,tt,tt,ff,ff,ff,ff,ff,ff,ff,ff,ff,ff,ff,ff,ff,ff,ff,ff] ?_
   refine tv 4 (some 18) HT_.out HW_.out #[tt,tt,tt,tt,tt,ff,ff,ff,ff,ff,ff,ff,ff,ff,ff,ff,ff,ff,ff,ff] hHeld ?_
   refine o1 5 (some 19) HT_.out #[tt,tt,tt,tt,tt,tt,ff,ff,ff,ff,ff,ff,ff,ff,ff,ff,ff,ff,ff,ff] fun K hK => ?_
   refine gV Tryd.func44 #[.string a1, .string (B_ #[32])] ?_
   with_reducible refine (strings_Contains.calls a1 (B_ #[32]) true _ ?_ A7.out).mono ?_
   exact LW.below HLW.out (bes HB.out)
   rintro e w10 ⟨rfl, hb⟩
   refine ⟨_, rfl, ?_⟩; replace BK101 := kb BK101 hb; replace HB := bsp HB hb
   (try clear hb)
   (try clear hb2)
   (try clear hk)
   (try clear hi)
   refine hK.out _ _ (bc BK101.out 0) (fun hHeld => ?_); clear hK K
   refine norm_ (a' := ?_) ?_ ?_; rotate_left
   ·show Act.put _ (some 19) _ = _
    simp only [Act.put, sa_, s0_, s1_, i64_w, i32_w]
    rfl
   refine pv 6 (some 20) HT_.out #[tt,tt,tt,tt,tt,tt,tt,ff,ff,ff,ff,ff,ff,ff,ff,ff,ff,ff,ff,ff] ?_
   refine pv 7 (some 21) HT_.out #[tt,tt,tt,tt,tt,tt,tt,tt,ff,ff,ff,ff,ff,ff,ff,ff,ff,ff,ff,ff] ?_
   refine pn 8 (some 22) HT_.out #[tt,tt,tt,tt,tt,tt,tt,tt,tt,ff,ff,ff,ff,ff,ff,ff,ff,ff,ff,ff] ?_
   refine pn 9 (some 23) HT_.out #[tt,tt,tt,tt,tt,tt,tt,tt,tt,tt,ff,ff,ff,ff,ff,ff,ff,ff,ff,ff] ?_
   refine pv 10 (some 24) HT_.out #[tt,tt,tt,tt,tt,tt,tt,tt,tt,tt,tt,ff,ff,ff,ff,ff,ff,ff,ff,ff] ?_
   refine pv 11 (some 25) HT_.out #[tt,tt,tt,tt,tt,tt,tt,tt,tt,tt,tt,tt,ff,ff,ff,ff,ff,ff,ff,ff] ?_
   refine pn 12 (some 26) HT_.out #[tt,tt,tt,tt,tt,tt,tt,tt,tt,tt,tt,tt,tt,ff,ff,ff,ff,ff,ff,ff] ?_
   refine pn 13 (some 27) HT_.out #[tt,tt,tt,tt,tt,tt,tt,tt,tt,tt,tt,tt,tt,tt,ff,ff,ff,ff,ff,ff] ?_
   refine pn 14 (some 28) HT_.out #[tt,tt,tt,tt,tt,tt,tt,tt,tt,tt,tt,tt,tt,tt,tt,ff,ff,ff,ff,ff] ?_
   refine pn 15 (some 29) HT_.out #[tt,tt,tt,tt,tt,tt,tt,tt,tt,tt,tt,tt,tt,tt,tt,tt,ff,ff,ff,ff] ?_
   refine pn 16 (some 30) HT_.out #[tt,tt,tt,tt,tt,tt,tt,tt,tt,tt,tt,tt,tt,tt,tt,tt,tt,ff,ff,ff] ?_
   refine pn 17 (some 31) HT_.out #[tt,tt,tt,tt,tt,tt,tt,tt,tt,tt,tt,tt,tt,tt,tt,tt,tt,tt,ff,ff] ?_
   refine pn 18 (some 32) HT_.out #[tt,tt,tt,tt,tt,tt,tt,tt,tt,tt,tt,tt,tt,tt,tt,tt,tt,tt,tt,ff] ?_
   refine pv 19 (some 33) HT_.out #[tt,tt,tt,tt,tt,tt,tt,tt,tt,tt,tt,tt,tt,tt,tt,tt,tt,tt,tt,tt] ?_
   refine done_ (done_of HT_.out (by kernel_rfl)) ?_
   try go_wp2
   go_meet
   case rel => exact ⟨_, (true), cd, H', ⟨om⟩, ⟨by exact blk_st BK101.out⟩, ⟨by exact bes HB.out⟩⟩
  replace c8 := Bool.eq_false_iff.mpr c8; subst c8; replace H := inn H
  by_cases c11 : a1.toList = ([] : List UInt8)
  ·rw [if_pos c11] at H
   have c11b0 := bT c11
   have c11b1 := nF c11; clear c11
   (first | rw [c11b0] | (simp only [i64_w, i32_w]; rw [c11b0]) | skip)
   have H' := am H; clear H
   try go_wp2
   replace BK101 := am (blk_drew BK101.out); replace HB := am (below_drew1 HB.out)
   refine start_ (n := 20) (S := fun w' => w'.cell? ⟨gb101, 0, none⟩ = some (.string a1)) (ds := []) #[ff,ff,ff,ff,ff,ff,ff,ff,ff,ff,ff,ff,ff,ff,ff,ff,ff,ff,ff,ff] (by kernel_rfl) rfl rfl (bc BK101.out 0) (fun hHeld => ?_); refine with_tabW word_Is.tab1 word_Is.bits1 (fun HT_ HW_ => ?_)
   generalize w4.drew = w12 at BK101 HB hHeld ⊢
   refine pv 0 (some 14) HT_.out #[tt,ff,ff,ff,ff,ff,ff,ff,ff,ff,ff,ff,ff,ff,ff,ff,ff,ff,ff,ff] ?_
   refine o1 1 (some 15) HT_.out #[tt,tt,ff,ff,ff,ff,ff,ff,ff,ff,ff,ff,ff,ff,ff,ff,ff,ff,ff,ff] fun K hK => ?_
   refine gV Tryd.func35 #[.int .i64 a0] ?_
   with_reducible refine (XA.word_known.calls a0 true _ A5.out).mono ?_
   rintro e w' ⟨rfl, ⟨nd, rfl⟩⟩
   refine ⟨_, rfl, ?_⟩
   refine hK.out _ _ (bc BK101.out 0) (fun hHeld => ?_); clear hK K
   refine norm_ (a' := ?_) ?_ ?_; rotate_left
   ·show Act.put _ (some 15) _ = _
    simp only [Act.put, sa_, s0_, s1_, i64_w, i32_w]
    rfl
   refine pv 2 (some 16) HT_.out #[tt,tt,tt,ff,ff,ff,ff,ff,ff,ff,ff,ff,ff,ff,ff,ff,ff,ff,ff,ff] ?_
   refine pv 3 (some 17) HT_.out #[tt,tt,tt,tt,ff,ff,ff,ff,ff,ff,ff,ff,ff,ff,ff,ff,ff,ff,ff,ff] ?_
   refine tv 4 (some 18) HT_.out HW_.out #[tt,tt,tt,tt,tt,ff,ff,ff,ff,ff,ff,ff,ff,ff,ff,ff,ff,ff,ff,ff] hHeld ?_
   refine o1 5 (some 19) HT_.out #[tt,tt,tt,tt,tt,tt,ff,ff,ff,ff,ff,ff,ff,ff,ff,ff,ff,ff,ff,ff] fun K hK => ?_
   refine gV Tryd.func44 #[.string a1, .string (B_ #[32])] ?_
   with_reducible refine (strings_Contains.calls a1 (B_ #[32]) false _ ?_ A7.out).mono ?_
   exact LW.below HLW.out (bes HB.out)
   rintro e w13 ⟨rfl, hb⟩
   refine ⟨_, rfl, ?_⟩; replace BK101 := kb BK101 hb; replace HB := bsp HB hb
   (try clear hb)
   (try clear hb2)
   (try clear hk)
   (try clear hi)
   refine hK.out _ _ (bc BK101.out 0) (fun hHeld => ?_); clear hK K
   refine norm_ (a' := ?_) ?_ ?_; rotate_left
   ·show Act.put _ (some 19) _ = _
    simp only [Act.put, sa_, s0_, s1_, i64_w, i32_w]
    rfl
   refine pv 6 (some 20) HT_.out #[tt,tt,tt,tt,tt,tt,tt,ff,ff,ff,ff,ff,ff,ff,ff,ff,ff,ff,ff,ff] ?_
   refine pv 7 (some 21) HT_.out #[tt,tt,tt,tt,tt,tt,tt,tt,ff,ff,ff,ff,ff,ff,ff,ff,ff,ff,ff,ff] ?_
   refine tv 8 (some 22) HT_.out HW_.out #[tt,tt,tt,tt,tt,tt,tt,tt,tt,ff,ff,ff,ff,ff,ff,ff,ff,ff,ff,ff] hHeld ?_
   refine pv 9 (some 23) HT_.out #[tt,tt,tt,tt,tt,tt,tt,tt,tt,tt,ff,ff,ff,ff,ff,ff,ff,ff,ff,ff] ?_
   refine pv 10 (some 24) HT_.out #[tt,tt,tt,tt,tt,tt,tt,tt,tt,tt,tt,ff,ff,ff,ff,ff,ff,ff,ff,ff] ?_
   refine pv 11 (some 25) HT_.out #[tt,tt,tt,tt,tt,tt,tt,tt,tt,tt,tt,tt,ff,ff,ff,ff,ff,ff,ff,ff] ?_
   refine pn 12 (some 26) HT_.out #[tt,tt,tt,tt,tt,tt,tt,tt,tt,tt,tt,tt,tt,ff,ff,ff,ff,ff,ff,ff] ?_
   refine pn 13 (some 27) HT_.out #[tt,tt,tt,tt,tt,tt,tt,tt,tt,tt,tt,tt,tt,tt,ff,ff,ff,ff,ff,ff] ?_
   refine pn 14 (some 28) HT_.out #[tt,tt,tt,tt,tt,tt,tt,tt,tt,tt,tt,tt,tt,tt,tt,ff,ff,ff,ff,ff] ?_
   refine pn 15 (some 29) HT_.out #[tt,tt,tt,tt,tt,tt,tt,tt,tt,tt,tt,tt,tt,tt,tt,tt,ff,ff,ff,ff] ?_
   refine pn 16 (some 30) HT_.out #[tt,tt,tt,tt,tt,tt,tt,tt,tt,tt,tt,tt,tt,tt,tt,tt,tt,ff,ff,ff] ?_
   refine pn 17 (some 31) HT_.out #[tt,tt,tt,tt,tt,tt,tt,tt,tt,tt,tt,tt,tt,tt,tt,tt,tt,tt,ff,ff] ?_
   refine pn 18 (some 32) HT_.out #[tt,tt,tt,tt,tt,tt,tt,tt,tt,tt,tt,tt,tt,tt,tt,tt,tt,tt,tt,ff] ?_
   refine pv 19 (some 33) HT_.out #[tt,tt,tt,tt,tt,tt,tt,tt,tt,tt,tt,tt,tt,tt,tt,tt,tt,tt,tt,tt] ?_
   refine done_ (done_of HT_.out (by kernel_rfl)) ?_
   try go_wp2
   go_meet
   case rel => exact ⟨_, (true), cd, H', ⟨om⟩, ⟨by exact blk_st BK101.out⟩, ⟨by exact bes HB.out⟩⟩
  rw [if_neg c11] at H
  have c11b0 := bF c11
  have c11b1 := nT c11
  (first | rw [c11b0] | (simp only [i64_w, i32_w]; rw [c11b0]) | skip)
  by_cases c14 : 0 ≤ a0; rotate_left
  ·rw [if_neg c14] at H
   exact absurd H (by simp)
  rw [if_pos c14] at H
  have c14b0 := dT c14; clear c14
  by_cases c15 : a0 < 4; rotate_left
  ·rw [if_neg c15] at H
   exact absurd H (by simp)
  rw [if_pos c15] at H
  have c15b0 := dT c15; clear c15
  by_cases c16 : 0 ≤ 1; rotate_left
  ·rw [if_neg c16] at H
   exact absurd H (by simp)
  rw [if_pos c16] at H; have c16b0 := eq_true c16
  have c16b1 := dT c16; clear c16
  by_cases c17 : 1 ≤ (a1.size : Int); rotate_left
  ·rw [if_neg c17] at H
   exact absurd H (by simp)
  rw [if_pos c17] at H; have c17b0 := eq_true c17
  have c17b1 := dT c17; clear c17; replace H := bm H; obtain ⟨t105, A18, H⟩ := H; replace A18 := am A18
  have H' := am H; clear H
  try go_wp2
  replace BK101 := am (blk_drew BK101.out); replace HB := am (below_drew1 HB.out)
  have p104 : 0 ≤ (a0 : Int) := of_decide_eq_true (by assumption)
  have q104 : a0 < (lettersTab.length : Int) := of_decide_eq_true (by assumption); obtain ⟨ad104, e104, hx104_0⟩ := Kd.at_string HRgl0.out a0 p104 q104; have hw104_0 := hx104_0
  have qg104 : (a0 < 4) = True := eq_true (of_decide_eq_true (by assumption)); obtain rfl : (⟨0, 0, none⟩ : Addr) = ad104 := (by injection e104)
  (first | simp only [add_plain] at hx104_0 | simp only [add_at] at hx104_0 | simp only [Addr.add, Nat.zero_add] at hx104_0 | skip)
  (try simp only [add_plain] at hw104_0); replace hx104_0 := (HB.out.cell (World.block_lt_of_cell? w _ hx104_0)).trans hx104_0; replace p104 := eq_true p104; replace q104 := eq_true q104
  refine start_ (n := 20) (S := fun w' => w'.cell? ⟨gb101, 0, none⟩ = some (.string a1) ∧ w'.cell? ⟨0, (a0).toNat, none⟩ = some (.string (rdOf ByteArray.empty lettersTab a0))) (ds := []) #[ff,ff,ff,ff,ff,ff,ff,ff,ff,ff,ff,ff,ff,ff,ff,ff,ff,ff,ff,ff] (by kernel_rfl) rfl rfl ⟨bc BK101.out 0, ((HB.out.cell (World.block_lt_of_cell? w _ hw104_0)).trans hw104_0)⟩ (fun hHeld => ?_); refine with_tabW word_Is.tab1 word_Is.bits1 (fun HT_ HW_ => ?_)
  generalize w4.drew = w19 at BK101 HB hx104_0 hHeld ⊢
  refine pv 0 (some 14) HT_.out #[tt,ff,ff,ff,ff,ff,ff,ff,ff,ff,ff,ff,ff,ff,ff,ff,ff,ff,ff,ff] ?_
  refine o1 1 (some 15) HT_.out #[tt,tt,ff,ff,ff,ff,ff,ff,ff,ff,ff,ff,ff,ff,ff,ff,ff,ff,ff,ff] fun K hK => ?_
  refine gV Tryd.func35 #[.int .i64 a0] ?_
  with_reducible refine (XA.word_known.calls a0 true _ A5.out).mono ?_
  rintro e w' ⟨rfl, ⟨nd, rfl⟩⟩
  refine ⟨_, rfl, ?_⟩
  refine hK.out _ _ ⟨bc BK101.out 0, ((HB.out.cell (World.block_lt_of_cell? w _ hw104_0)).trans hw104_0)⟩ (fun hHeld => ?_); clear hK K
  refine norm_ (a' := ?_) ?_ ?_; rotate_left
  ·show Act.put _ (some 15) _ = _
   simp only [Act.put, sa_, s0_, s1_, i64_w, i32_w]
   rfl
  refine pv 2 (some 16) HT_.out #[tt,tt,tt,ff,ff,ff,ff,ff,ff,ff,ff,ff,ff,ff,ff,ff,ff,ff,ff,ff] ?_
  refine pv 3 (some 17) HT_.out #[tt,tt,tt,tt,ff,ff,ff,ff,ff,ff,ff,ff,ff,ff,ff,ff,ff,ff,ff,ff] ?_
  refine tu 4 (some 18) ?_ #[tt,tt,tt,tt,tt,ff,ff,ff,ff,ff,ff,ff,ff,ff,ff,ff,ff,ff,ff,ff] rfl rfl (ta HT_.out HW_.out) (fun _ _ _ h => h) (Or.inl ⟨by rfl, ?_⟩) hHeld ?_ ?_ ?_; rotate_left
  ·rintro w' ⟨s0, s1⟩
   go_simp
   with_reducible rfl
  rotate_left; exact sp
  refine o1 5 (some 19) HT_.out #[tt,tt,tt,tt,tt,tt,ff,ff,ff,ff,ff,ff,ff,ff,ff,ff,ff,ff,ff,ff] fun K hK => ?_
  refine gV Tryd.func44 #[.string a1, .string (B_ #[32])] ?_
  with_reducible refine (strings_Contains.calls a1 (B_ #[32]) false _ ?_ A7.out).mono ?_
  exact LW.below HLW.out (bes HB.out)
  rintro e w20 ⟨rfl, hb⟩
  refine ⟨_, rfl, ?_⟩; replace BK101 := kb BK101 hb; replace HB := bsp HB hb
  (try clear hb)
  (try clear hb2)
  (try clear hk)
  (try clear hi)
  refine hK.out _ _ ⟨bc BK101.out 0, ((HB.out.cell (World.block_lt_of_cell? w _ hw104_0)).trans hw104_0)⟩ (fun hHeld => ?_); clear hK K
  refine norm_ (a' := ?_) ?_ ?_; rotate_left
  ·show Act.put _ (some 19) _ = _
   simp only [Act.put, sa_, s0_, s1_, i64_w, i32_w]
   rfl
  refine pv 6 (some 20) HT_.out #[tt,tt,tt,tt,tt,tt,tt,ff,ff,ff,ff,ff,ff,ff,ff,ff,ff,ff,ff,ff] ?_
  refine pv 7 (some 21) HT_.out #[tt,tt,tt,tt,tt,tt,tt,tt,ff,ff,ff,ff,ff,ff,ff,ff,ff,ff,ff,ff] ?_
  refine tu 8 (some 22) ?_ #[tt,tt,tt,tt,tt,tt,tt,tt,tt,ff,ff,ff,ff,ff,ff,ff,ff,ff,ff,ff] rfl rfl (ta HT_.out HW_.out) (fun _ _ _ h => h) (Or.inl ⟨by rfl, ?_⟩) hHeld ?_ ?_ ?_; rotate_left
  ·rintro w' ⟨s0, s1⟩
   go_simp
   with_reducible rfl
  rotate_left; exact sp
  refine pv 9 (some 23) HT_.out #[tt,tt,tt,tt,tt,tt,tt,tt,tt,tt,ff,ff,ff,ff,ff,ff,ff,ff,ff,ff] ?_
  refine pv 10 (some 24) HT_.out #[tt,tt,tt,tt,tt,tt,tt,tt,tt,tt,tt,ff,ff,ff,ff,ff,ff,ff,ff,ff] ?_
  refine pv 11 (some 25) HT_.out #[tt,tt,tt,tt,tt,tt,tt,tt,tt,tt,tt,tt,ff,ff,ff,ff,ff,ff,ff,ff] ?_
  refine pv 12 (some 26) HT_.out #[tt,tt,tt,tt,tt,tt,tt,tt,tt,tt,tt,tt,tt,ff,ff,ff,ff,ff,ff,ff] ?_
  refine pv 13 (some 27) HT_.out #[tt,tt,tt,tt,tt,tt,tt,tt,tt,tt,tt,tt,tt,tt,ff,ff,ff,ff,ff,ff] ?_
  refine tu 14 (some 28) ?_ #[tt,tt,tt,tt,tt,tt,tt,tt,tt,tt,tt,tt,tt,tt,tt,ff,ff,ff,ff,ff] rfl rfl (ta HT_.out HW_.out) (fun _ _ _ h => h) (Or.inl ⟨by rfl, ?_⟩) hHeld ?_ ?_ ?_; rotate_left
  ·rintro w' ⟨s0, s1⟩
   go_simp
   with_reducible rfl
  rotate_left; exact sp
  refine tu 15 (some 29) ?_ #[tt,tt,tt,tt,tt,tt,tt,tt,tt,tt,tt,tt,tt,tt,tt,tt,ff,ff,ff,ff] rfl rfl (ta HT_.out HW_.out) (fun _ _ _ h => h) (Or.inl ⟨by rfl, ?_⟩) hHeld ?_ ?_ ?_; rotate_left
  ·rintro w' ⟨s0, s1⟩
   go_simp
   with_reducible rfl
  rotate_left; exact sp
  refine pv 16 (some 30) HT_.out #[tt,tt,tt,tt,tt,tt,tt,tt,tt,tt,tt,tt,tt,tt,tt,tt,tt,ff,ff,ff] ?_
  refine o1 17 (some 31) HT_.out #[tt,tt,tt,tt,tt,tt,tt,tt,tt,tt,tt,tt,tt,tt,tt,tt,tt,tt,ff,ff] fun K hK => ?_
  refine gV Tryd.func44 #[.string (rdOf ByteArray.empty lettersTab a0), .string (a1.extract 0 1)] ?_
  with_reducible refine (strings_Contains.calls (rdOf ByteArray.empty lettersTab a0) (a1.extract 0 1) t105 _ ?_ A18.out).mono ?_
  exact LW.below HLW.out (bes HB.out)
  rintro e w21 ⟨rfl, hb⟩
  refine ⟨_, rfl, ?_⟩; replace BK101 := kb BK101 hb; replace HB := bsp HB hb
  (try clear hb)
  (try clear hb2)
  (try clear hk)
  (try clear hi)
  refine hK.out _ _ ⟨bc BK101.out 0, ((HB.out.cell (World.block_lt_of_cell? w _ hw104_0)).trans hw104_0)⟩ (fun hHeld => ?_); clear hK K
  refine norm_ (a' := ?_) ?_ ?_; rotate_left
  ·show Act.put _ (some 31) _ = _
   simp only [Act.put, sa_, s0_, s1_, i64_w, i32_w]
   rfl
  refine pv 18 (some 32) HT_.out #[tt,tt,tt,tt,tt,tt,tt,tt,tt,tt,tt,tt,tt,tt,tt,tt,tt,tt,tt,ff] ?_
  refine pv 19 (some 33) HT_.out #[tt,tt,tt,tt,tt,tt,tt,tt,tt,tt,tt,tt,tt,tt,tt,tt,tt,tt,tt,tt] ?_
  refine done_ (done_of HT_.out (by kernel_rfl)) ?_
  try go_wp2
  go_meet
  case rel => exact ⟨_, (!t105), cd, H', ⟨om⟩, ⟨by exact blk_st BK101.out⟩, ⟨by exact bes HB.out⟩⟩
 clear HC3
 try clear c1
 try clear p1
 try clear q1
 try clear hx1
 try clear p2
 try clear c3
 try clear c4
 try clear c6
 try clear c8
 try clear p10
 try clear q10
 try clear hx10
 try clear c11
 try clear c11b0
 try clear c11b1
 try clear c14
 try clear c14b0
 try clear c15
 try clear c15b0
 try clear c16
 try clear c16b0
 try clear c16b1
 try clear c17
 try clear c17b0
 try clear c17b1
 try clear hx104_0
 try clear p104
 try clear q104
 obtain ⟨kq, x33_2, rfl, HA, HJ2, BK101, HB⟩ := hcut
 cases kq with
 | zero => exact absurd HA.out (by simp [word_Is.j0])
 | succ kj2 =>
  have H := HA.out; clear HA; simp only [word_Is.j0] at H
  by_cases c23 : x33_2 = true
  ·subst c23
   replace H := ip H
   obtain rfl := Option.some.inj H
   go_wp2
   go_ret
   exact ⟨er, by exact bes HB.out⟩
  replace c23 := Bool.eq_false_iff.mpr c23; subst c23; replace H := inn H
  replace H := bm H; obtain ⟨⟨t106, t109, t112, t115, t118, t119, t120⟩, A240, H⟩ := H; replace H : ((XA.word_tongue_value.f kj2 t106 t109 t112 t115 t118 t119 t120 a1).bind fun bt122 => ((XA.word_tongue_many.f kj2 t106 t109 t112 t115 t118 t119 t120 a1).bind fun bt124 => (if bt122.2 = true then (word_Is.j1 kj2 true a1 t106 t109 t112 t115 t118 t119 t120) else (if bt124.2 = true then (word_Is.j1 kj2 true a1 t106 t109 t112 t115 t118 t119 t120) else (if 0 < (t106.length : Int) then (word_Is.j1 kj2 (a1.toList == (rdOf ByteArray.empty t106 0).toList) a1 t106 t109 t112 t115 t118 t119 t120) else (none)))))) = some r := H; have A24 := am A240; clear A240; replace H := bm H; obtain ⟨⟨t122, t123⟩, A250, H⟩ := H; replace H : ((XA.word_tongue_many.f kj2 t106 t109 t112 t115 t118 t119 t120 a1).bind fun bt124 => (if t123 = true then (word_Is.j1 kj2 true a1 t106 t109 t112 t115 t118 t119 t120) else (if bt124.2 = true then (word_Is.j1 kj2 true a1 t106 t109 t112 t115 t118 t119 t120) else (if 0 < (t106.length : Int) then (word_Is.j1 kj2 (a1.toList == (rdOf ByteArray.empty t106 0).toList) a1 t106 t109 t112 t115 t118 t119 t120) else (none))))) = some r := H; have A25 := am A250; clear A250; replace H := bm H; obtain ⟨⟨t124, t125⟩, A260, H⟩ := H; replace H : (if t123 = true then (word_Is.j1 kj2 true a1 t106 t109 t112 t115 t118 t119 t120) else (if t125 = true then (word_Is.j1 kj2 true a1 t106 t109 t112 t115 t118 t119 t120) else (if 0 < (t106.length : Int) then (word_Is.j1 kj2 (a1.toList == (rdOf ByteArray.empty t106 0).toList) a1 t106 t109 t112 t115 t118 t119 t120) else (none)))) = some r := H; have A26 := am A260; clear A260; have HC27 := am H; clear H
  go_upto_region 7 with (first | ((with_reducible refine gate_callee (f := 36) rfl ?_); refine gL (some 35) rfl rfl Tryd.func36 #[.int .i64 a0] ?_; (refine (XA.word_tongues.calls a0 t106 t109 t112 t115 t118 t119 t120 _ A24.out).mono ?_); rintro e w28 ⟨v107, v110, v113, v116, rfl, ho0, ho1, ho2, ho3, hb⟩; refine ⟨_, rfl, ?_⟩; have HO108 := am (Kd.R_lower (Kd.R_newB ho0 (g := gb101) (o := .cells #[.string a1] 9 (0, 0)) (blk_st BK101.out)) (below_size (bes HB.out))); have HO111 := am (Kd.R_lower (Kd.R_newB ho1 (g := gb101) (o := .cells #[.string a1] 9 (0, 0)) (blk_st BK101.out)) (below_size (bes HB.out))); have HO114 := am (Kd.R_lower (Kd.R_newB ho2 (g := gb101) (o := .cells #[.string a1] 9 (0, 0)) (blk_st BK101.out)) (below_size (bes HB.out))); have HO117 := am (Kd.R_lower (Kd.R_newB ho3 (g := gb101) (o := .cells #[.string a1] 9 (0, 0)) (blk_st BK101.out)) (below_size (bes HB.out))); replace BK101 := kb BK101 hb; replace HB := bsp HB hb; (try clear hb); (try clear ho0); (try clear ho1); (try clear ho2); (try clear ho3)) | ((with_reducible refine gate_dst (N := 5) rfl ?_); refine box_event ?hg (N := 5) ?hd (cs := #[.slice none 0 0, .slice none 0 0, .slice none 0 0, .slice none 0 0, .nilFunc, .nilFunc, .nilFunc]) (t := 59) ?hr ?_; (case hd => rfl); (case hg => rfl); (case hr => first | (go_simp; done) | (go_simp; rfl)); intro gb121 hg w29 hbox hb; replace HO108 := rb HO108 hb; replace HO111 := rb HO111 hb; replace HO114 := rb HO114 hb; replace HO117 := rb HO117 hb; have BK121 := am (hbox); have GE121 := gem hg HB; replace HB := bsp HB hb; have NB101_121 := am ((by rw [hg]; exact Nat.ne_of_lt (blk_lt (g := gb101) (o := .cells #[.string a1] 9 (0, 0)) (blk_st BK101.out)) : gb101 ≠ gb121)); have NB121_101 := am ((by rw [hg]; exact Nat.ne_of_gt (blk_lt (g := gb101) (o := .cells #[.string a1] 9 (0, 0)) (blk_st BK101.out)) : gb121 ≠ gb101)); replace BK101 := kb BK101 hb; clear hb hbox hg; obtain ⟨Ao30, co30, eo30⟩ := Kd.R_slice HO108.out; subst eo30; have hnb31 := NB121_101.out; have hnc31 := NB101_121.out; have Z32_0 := z0 BK121.out; have Z32_1 := z1 BK121.out; have Z32_2 := z2 BK121.out; have Z32_3 := z3 BK121.out; have Z32_4 := z4 BK121.out; have Z32_5 := z5 BK121.out; have Z32_6 := z6 BK121.out; have F32_0 := fz BK121.out 0; have F32_1 := fz BK121.out 1; have F32_2 := fz BK121.out 2; have F32_3 := fz BK121.out 3; have F32_4 := fz BK121.out 4; have F32_5 := fz BK121.out 5; have F32_6 := fz BK121.out 6; obtain ⟨Ao33, co33, eo33⟩ := Kd.R_slice HO111.out; subst eo33; obtain ⟨Ao34, co34, eo34⟩ := Kd.R_slice HO114.out; subst eo34; obtain ⟨Ao35, co35, eo35⟩ := Kd.R_slice HO117.out; subst eo35; have Z36_0 := z0 BK101.out; have F36_0 := fz BK101.out 0) | ((with_reducible refine gate_callee (f := 40) rfl ?_); refine gL (some 40) rfl rfl Tryd.func40 #[.agg #[.slice Ao30 t106.length co30, .slice Ao33 t109.length co33, .slice Ao34 t112.length co34, .slice Ao35 t115.length co35, fnv t118, fnv t119, fnv t120], .string a1] ?_; (refine (XA.word_tongue_value.calls kj2 _ _ t106 _ _ t109 _ _ t112 _ _ t115 t118 t119 t120 a1 t122 t123 _ ?_ ?_ ?_ ?_ ?_ ?_ ?_ ?_ A25.out).mono ?_); refine (Kd.R_reads' (e := 9) (base := w.heap.size) (ok := fun k_ => ((some k_ ≠ (.slice Ao33 t109.length co33 : Value).ownBlock ∧ (some k_ ≠ (.slice Ao34 t112.length co34 : Value).ownBlock ∧ some k_ ≠ (.slice Ao35 t115.length co35 : Value).ownBlock)) ∧ k_ ≠ gb101)) (n := t106.length) (c := co30) ?_).2.2; exact (by exact rfm HO108.out BK121.out (fun _ h_ => h_.1)); exact (Kd.R_reads' HO108.out).2.1; refine (Kd.R_reads' (e := 9) (base := w.heap.size) (ok := fun k_ => ((some k_ ≠ (.slice Ao30 t106.length co30 : Value).ownBlock ∧ (some k_ ≠ (.slice Ao34 t112.length co34 : Value).ownBlock ∧ some k_ ≠ (.slice Ao35 t115.length co35 : Value).ownBlock)) ∧ k_ ≠ gb101)) (n := t109.length) (c := co33) ?_).2.2; exact (by exact rfm HO111.out BK121.out (fun _ h_ => h_.1)); exact (Kd.R_reads' HO111.out).2.1; refine (Kd.R_reads' (e := 9) (base := w.heap.size) (ok := fun k_ => ((some k_ ≠ (.slice Ao30 t106.length co30 : Value).ownBlock ∧ (some k_ ≠ (.slice Ao33 t109.length co33 : Value).ownBlock ∧ some k_ ≠ (.slice Ao35 t115.length co35 : Value).ownBlock)) ∧ k_ ≠ gb101)) (n := t112.length) (c := co34) ?_).2.2; exact (by exact rfm HO114.out BK121.out (fun _ h_ => h_.1)); exact (Kd.R_reads' HO114.out).2.1; refine (Kd.R_reads' (e := 9) (base := w.heap.size) (ok := fun k_ => ((some k_ ≠ (.slice Ao30 t106.length co30 : Value).ownBlock ∧ (some k_ ≠ (.slice Ao33 t109.length co33 : Value).ownBlock ∧ some k_ ≠ (.slice Ao34 t112.length co34 : Value).ownBlock)) ∧ k_ ≠ gb101)) (n := t115.length) (c := co35) ?_).2.2; exact (by exact rfm HO117.out BK121.out (fun _ h_ => h_.1)); exact (Kd.R_reads' HO117.out).2.1; rintro e w37 ⟨rfl, hb⟩; refine ⟨_, rfl, ?_⟩; replace HO108 := am (Kd.R_below (by exact rfm HO108.out BK121.out (fun _ h_ => h_.1)) hb); replace HO111 := am (Kd.R_below (by exact rfm HO111.out BK121.out (fun _ h_ => h_.1)) hb); replace HO114 := am (Kd.R_below (by exact rfm HO114.out BK121.out (fun _ h_ => h_.1)) hb); replace HO117 := am (Kd.R_below (by exact rfm HO117.out BK121.out (fun _ h_ => h_.1)) hb); replace BK101 := am (blk_below (g := gb101) (o := .cells #[.string a1] 9 (0, 0)) (by (with_reducible repeat (first | refine blk_drewN ?_ _ | refine blk_drew ?_ | refine blk_alloc ?_ _)); refine blk_far ?_ NB101_121.out _; (with_reducible repeat (first | refine blk_drewN ?_ _ | refine blk_drew ?_ | refine blk_alloc ?_ _)); refine blk_far ?_ NB101_121.out _; (with_reducible repeat (first | refine blk_drewN ?_ _ | refine blk_drew ?_ | refine blk_alloc ?_ _)); refine blk_far ?_ NB101_121.out _; (with_reducible repeat (first | refine blk_drewN ?_ _ | refine blk_drew ?_ | refine blk_alloc ?_ _)); refine blk_far ?_ NB101_121.out _; (with_reducible repeat (first | refine blk_drewN ?_ _ | refine blk_drew ?_ | refine blk_alloc ?_ _)); refine blk_far ?_ NB101_121.out _; (with_reducible repeat (first | refine blk_drewN ?_ _ | refine blk_drew ?_ | refine blk_alloc ?_ _)); refine blk_far ?_ NB101_121.out _; (with_reducible repeat (first | refine blk_drewN ?_ _ | refine blk_drew ?_ | refine blk_alloc ?_ _)); refine blk_far ?_ NB101_121.out _; exact blk_st BK101.out) hb); replace BK121 := am (blk_below (g := gb121) (o := .cells #[.slice Ao30 t106.length co30, .slice Ao33 t109.length co33, .slice Ao34 t112.length co34, .slice Ao35 t115.length co35, fnv t118, fnv t119, fnv t120] 59 (0, 0)) (bp BK121.out) hb); replace HB := bsp HB hb; (try clear hb); (try clear hk); have Z38_0 := z0 BK121.out; have Z38_1 := z1 BK121.out; have Z38_2 := z2 BK121.out; have Z38_3 := z3 BK121.out; have Z38_4 := z4 BK121.out; have Z38_5 := z5 BK121.out; have Z38_6 := z6 BK121.out; have F38_0 := fz BK121.out 0; have F38_1 := fz BK121.out 1; have F38_2 := fz BK121.out 2; have F38_3 := fz BK121.out 3; have F38_4 := fz BK121.out 4; have F38_5 := fz BK121.out 5; have F38_6 := fz BK121.out 6; have Z39_0 := z0 BK101.out; have F39_0 := fz BK101.out 0) | ((with_reducible refine gate_callee (f := 38) rfl ?_); refine gL (some 46) rfl rfl Tryd.func38 #[.agg #[.slice Ao30 t106.length co30, .slice Ao33 t109.length co33, .slice Ao34 t112.length co34, .slice Ao35 t115.length co35, fnv t118, fnv t119, fnv t120], .string a1] ?_; (refine (XA.word_tongue_many.calls kj2 _ _ t106 _ _ t109 _ _ t112 _ _ t115 t118 t119 t120 a1 t124 t125 _ ?_ ?_ ?_ ?_ ?_ ?_ ?_ ?_ A26.out).mono ?_); exact C_st ((Kd.R_reads' HO108.out).2.2); exact (Kd.R_reads' HO108.out).2.1; exact C_st ((Kd.R_reads' HO111.out).2.2); exact (Kd.R_reads' HO111.out).2.1; exact C_st ((Kd.R_reads' HO114.out).2.2); exact (Kd.R_reads' HO114.out).2.1; exact C_st ((Kd.R_reads' HO117.out).2.2); exact (Kd.R_reads' HO117.out).2.1; rintro e w40 ⟨rfl, hb⟩; refine ⟨_, rfl, ?_⟩; replace HO108 := rb HO108 hb; replace HO111 := rb HO111 hb; replace HO114 := rb HO114 hb; replace HO117 := rb HO117 hb; replace BK101 := kb BK101 hb; replace BK121 := kb BK121 hb; replace HB := bsp HB hb; (try clear hb)))
  (try simp only [Act.put, sa_, s0_, s1_])
  go_cut [60] (fun v60 wc => ∃ (kq : Nat) (x60_26 : Bool), v60 = .bool x60_26 ∧ Aside0 (word_Is.j1 kq x60_26 a1 t106 t109 t112 t115 t118 t119 t120 = some r) ∧ Aside0 (kq ≤ kj2) ∧ Aside0 (Kd.R Kd.string 9 wc w.heap.size (fun k_ => some k_ ≠ ((.slice Ao33 t109.length co33) : Value).ownBlock ∧ some k_ ≠ ((.slice Ao34 t112.length co34) : Value).ownBlock ∧ some k_ ≠ ((.slice Ao35 t115.length co35) : Value).ownBlock ∧ k_ ≠ gb101) (.slice Ao30 t106.length co30) t106) ∧ Aside0 (Kd.R Kd.string 9 wc w.heap.size (fun k_ => some k_ ≠ ((.slice Ao30 t106.length co30) : Value).ownBlock ∧ some k_ ≠ ((.slice Ao34 t112.length co34) : Value).ownBlock ∧ some k_ ≠ ((.slice Ao35 t115.length co35) : Value).ownBlock ∧ k_ ≠ gb101) (.slice Ao33 t109.length co33) t109) ∧ Aside0 (Kd.R Kd.string 9 wc w.heap.size (fun k_ => some k_ ≠ ((.slice Ao30 t106.length co30) : Value).ownBlock ∧ some k_ ≠ ((.slice Ao33 t109.length co33) : Value).ownBlock ∧ some k_ ≠ ((.slice Ao35 t115.length co35) : Value).ownBlock ∧ k_ ≠ gb101) (.slice Ao34 t112.length co34) t112) ∧ Aside0 (Kd.R Kd.string 9 wc w.heap.size (fun k_ => some k_ ≠ ((.slice Ao30 t106.length co30) : Value).ownBlock ∧ some k_ ≠ ((.slice Ao33 t109.length co33) : Value).ownBlock ∧ some k_ ≠ ((.slice Ao34 t112.length co34) : Value).ownBlock ∧ k_ ≠ gb101) (.slice Ao35 t115.length co35) t115) ∧ Aside0 (wc.heap[gb101]? = some (.cells #[.string a1] 9 (0, 0))) ∧ Aside0 (wc.heap[gb121]? = some (.cells #[(.slice Ao30 t106.length co30), (.slice Ao33 t109.length co33), (.slice Ao34 t112.length co34), (.slice Ao35 t115.length co35), fnv t118, fnv t119, fnv t120] 59 (0, 0))) ∧ Aside0 (Below w.heap.size w wc))
  case first =>
   have H := HC27.out; clear HC27
   by_cases c41 : t123 = true
   ·subst c41
    replace H := ip H
    have H' := am H; clear H
    try go_wp2
    replace HO108 := am (Kd.R_drew HO108.out); replace HO111 := am (Kd.R_drew HO111.out); replace HO114 := am (Kd.R_drew HO114.out); replace HO117 := am (Kd.R_drew HO117.out); replace BK101 := am (blk_drew BK101.out); replace BK121 := am (blk_drew BK121.out); replace HB := am (below_drew1 HB.out)
    refine start_ (n := 12) (S := fun w' => True) (ds := []) #[ff,ff,ff,ff,ff,ff,ff,ff,ff,ff,ff,ff] (by kernel_rfl) rfl rfl trivial (fun hHeld => ?_); refine with_tabW word_Is.tab7 word_Is.bits7 (fun HT_ HW_ => ?_)
    generalize w40.drew = w42 at HO108 HO111 HO114 HO117 BK101 BK121 HB hHeld ⊢
    refine pv 0 (some 49) HT_.out #[tt,ff,ff,ff,ff,ff,ff,ff,ff,ff,ff,ff] ?_
    refine pv 1 (some 50) HT_.out #[tt,tt,ff,ff,ff,ff,ff,ff,ff,ff,ff,ff] ?_
    refine pn 2 (some 51) HT_.out #[tt,tt,tt,ff,ff,ff,ff,ff,ff,ff,ff,ff] ?_
    refine pv 3 (some 52) HT_.out #[tt,tt,tt,tt,ff,ff,ff,ff,ff,ff,ff,ff] ?_
    refine pv 4 (some 53) HT_.out #[tt,tt,tt,tt,tt,ff,ff,ff,ff,ff,ff,ff] ?_
    refine pn 5 (some 54) HT_.out #[tt,tt,tt,tt,tt,tt,ff,ff,ff,ff,ff,ff] ?_
    refine pn 6 (some 55) HT_.out #[tt,tt,tt,tt,tt,tt,tt,ff,ff,ff,ff,ff] ?_
    refine pn 7 (some 56) HT_.out #[tt,tt,tt,tt,tt,tt,tt,tt,ff,ff,ff,ff] ?_
    refine pn 8 (some 57) HT_.out #[tt,tt,tt,tt,tt,tt,tt,tt,tt,ff,ff,ff] ?_
    refine pn 9 (some 58) HT_.out #[tt,tt,tt,tt,tt,tt,tt,tt,tt,tt,ff,ff] ?_
    refine pn 10 (some 59) HT_.out #[tt,tt,tt,tt,tt,tt,tt,tt,tt,tt,tt,ff] ?_
    refine pv 11 (some 60) HT_.out #[tt,tt,tt,tt,tt,tt,tt,tt,tt,tt,tt,tt] ?_
    refine done_ (done_of HT_.out (by kernel_rfl)) ?_
    try go_wp2
    go_meet
    case rel => exact ⟨_, (true), cd, H', ⟨by have := HJ2.out; first | omega | exact Nat.le_refl _⟩, ⟨by exact R_st (Kd.R_mono HO108.out (fun _ hk => ⟨hk.1.1, ⟨hk.1.2.1, ⟨hk.1.2.2, hk.2⟩⟩⟩))⟩, ⟨by exact R_st (Kd.R_mono HO111.out (fun _ hk => ⟨hk.1.1, ⟨hk.1.2.1, ⟨hk.1.2.2, hk.2⟩⟩⟩))⟩, ⟨by exact R_st (Kd.R_mono HO114.out (fun _ hk => ⟨hk.1.1, ⟨hk.1.2.1, ⟨hk.1.2.2, hk.2⟩⟩⟩))⟩, ⟨by exact R_st (Kd.R_mono HO117.out (fun _ hk => ⟨hk.1.1, ⟨hk.1.2.1, ⟨hk.1.2.2, hk.2⟩⟩⟩))⟩, ⟨by exact blk_st BK101.out⟩, ⟨by exact blk_st BK121.out⟩, ⟨by exact bes HB.out⟩⟩
   replace c41 := Bool.eq_false_iff.mpr c41; subst c41; replace H := inn H
   by_cases c43 : t125 = true
   ·subst c43
    replace H := ip H
    have H' := am H; clear H
    try go_wp2
    replace HO108 := am (Kd.R_drew HO108.out); replace HO111 := am (Kd.R_drew HO111.out); replace HO114 := am (Kd.R_drew HO114.out); replace HO117 := am (Kd.R_drew HO117.out); replace BK101 := am (blk_drew BK101.out); replace BK121 := am (blk_drew BK121.out); replace HB := am (below_drew1 HB.out)
    refine start_ (n := 12) (S := fun w' => True) (ds := []) #[ff,ff,ff,ff,ff,ff,ff,ff,ff,ff,ff,ff] (by kernel_rfl) rfl rfl trivial (fun hHeld => ?_); refine with_tabW word_Is.tab7 word_Is.bits7 (fun HT_ HW_ => ?_)
    generalize w40.drew = w44 at HO108 HO111 HO114 HO117 BK101 BK121 HB hHeld ⊢
    refine pv 0 (some 49) HT_.out #[tt,ff,ff,ff,ff,ff,ff,ff,ff,ff,ff,ff] ?_
    refine pv 1 (some 50) HT_.out #[tt,tt,ff,ff,ff,ff,ff,ff,ff,ff,ff,ff] ?_
    refine pv 2 (some 51) HT_.out #[tt,tt,tt,ff,ff,ff,ff,ff,ff,ff,ff,ff] ?_
    refine pv 3 (some 52) HT_.out #[tt,tt,tt,tt,ff,ff,ff,ff,ff,ff,ff,ff] ?_
    refine pv 4 (some 53) HT_.out #[tt,tt,tt,tt,tt,ff,ff,ff,ff,ff,ff,ff] ?_
    refine pn 5 (some 54) HT_.out #[tt,tt,tt,tt,tt,tt,ff,ff,ff,ff,ff,ff] ?_
    refine pn 6 (some 55) HT_.out #[tt,tt,tt,tt,tt,tt,tt,ff,ff,ff,ff,ff] ?_
    refine pn 7 (some 56) HT_.out #[tt,tt,tt,tt,tt,tt,tt,tt,ff,ff,ff,ff] ?_
    refine pn 8 (some 57) HT_.out #[tt,tt,tt,tt,tt,tt,tt,tt,tt,ff,ff,ff] ?_
    refine pn 9 (some 58) HT_.out #[tt,tt,tt,tt,tt,tt,tt,tt,tt,tt,ff,ff] ?_
    refine pn 10 (some 59) HT_.out #[tt,tt,tt,tt,tt,tt,tt,tt,tt,tt,tt,ff] ?_
    refine pv 11 (some 60) HT_.out #[tt,tt,tt,tt,tt,tt,tt,tt,tt,tt,tt,tt] ?_
    refine done_ (done_of HT_.out (by kernel_rfl)) ?_
    try go_wp2
    go_meet
    case rel => exact ⟨_, (true), cd, H', ⟨by have := HJ2.out; first | omega | exact Nat.le_refl _⟩, ⟨by exact R_st (Kd.R_mono HO108.out (fun _ hk => ⟨hk.1.1, ⟨hk.1.2.1, ⟨hk.1.2.2, hk.2⟩⟩⟩))⟩, ⟨by exact R_st (Kd.R_mono HO111.out (fun _ hk => ⟨hk.1.1, ⟨hk.1.2.1, ⟨hk.1.2.2, hk.2⟩⟩⟩))⟩, ⟨by exact R_st (Kd.R_mono HO114.out (fun _ hk => ⟨hk.1.1, ⟨hk.1.2.1, ⟨hk.1.2.2, hk.2⟩⟩⟩))⟩, ⟨by exact R_st (Kd.R_mono HO117.out (fun _ hk => ⟨hk.1.1, ⟨hk.1.2.1, ⟨hk.1.2.2, hk.2⟩⟩⟩))⟩, ⟨by exact blk_st BK101.out⟩, ⟨by exact blk_st BK121.out⟩, ⟨by exact bes HB.out⟩⟩
   replace c43 := Bool.eq_false_iff.mpr c43; subst c43; replace H := inn H
   by_cases c45 : 0 < (t106.length : Int); rotate_left
   ·rw [if_neg c45] at H
    exact absurd H (by simp)
   rw [if_pos c45] at H
   have c45b0 := dT c45
   have c45b1 : decide (0 < t106.length) = true := decide_eq_true (by omega); clear c45
   (first | rw [c45b0] | (simp only [i64_w, i32_w]; rw [c45b0]) | skip)
   have H' := am H; clear H
   try go_wp2
   replace HO108 := am (Kd.R_drew HO108.out); replace HO111 := am (Kd.R_drew HO111.out); replace HO114 := am (Kd.R_drew HO114.out); replace HO117 := am (Kd.R_drew HO117.out); replace BK101 := am (blk_drew BK101.out); replace BK121 := am (blk_drew BK121.out); replace HB := am (below_drew1 HB.out)
   have p126 : 0 ≤ (0 : Int) := (by omega)
   have q126 : 0 < (t106.length : Int) := of_decide_eq_true (by assumption); obtain ⟨ad126, e126, hx126_0⟩ := Kd.at_string (Kd.R_reads' HO108.out).2.2 0 p126 q126
   cases e126
   have qi126 : (0 < t106.length) = True := eq_true (by omega)
   (try rw [show ((0 : Int)).toNat = 0 from rfl] at hx126_0)
   (try rw [Addr.add_zero'] at hx126_0); replace p126 := eq_true p126; replace q126 := eq_true q126
   refine start_ (n := 12) (S := fun w' => w'.cell? ⟨gb101, 0, none⟩ = some (.string a1) ∧ w'.cell? ⟨gb121, 0, none⟩ = some (.slice (some ad126) t106.length co30) ∧ w'.cell? ⟨gb121, 1, none⟩ = some (.slice Ao33 t109.length co33) ∧ w'.cell? ⟨gb121, 2, none⟩ = some (.slice Ao34 t112.length co34) ∧ w'.cell? ⟨gb121, 3, none⟩ = some (.slice Ao35 t115.length co35) ∧ w'.cell? ⟨gb121, 4, none⟩ = some (fnv t118) ∧ w'.cell? ⟨gb121, 5, none⟩ = some (fnv t119) ∧ w'.cell? ⟨gb121, 6, none⟩ = some (fnv t120) ∧ w'.cell? ad126 = some (.string (rdOf ByteArray.empty t106 0))) (ds := []) #[ff,ff,ff,ff,ff,ff,ff,ff,ff,ff,ff,ff] (by kernel_rfl) rfl rfl ⟨bc BK101.out 0, bc BK121.out 0, bc BK121.out 1, bc BK121.out 2, bc BK121.out 3, bc BK121.out 4, bc BK121.out 5, bc BK121.out 6, hx126_0⟩ (fun hHeld => ?_); refine with_tabW word_Is.tab7 word_Is.bits7 (fun HT_ HW_ => ?_)
   generalize w40.drew = w46 at HO108 HO111 HO114 HO117 BK101 BK121 HB hx126_0 hHeld ⊢
   refine pv 0 (some 49) HT_.out #[tt,ff,ff,ff,ff,ff,ff,ff,ff,ff,ff,ff] ?_
   refine pv 1 (some 50) HT_.out #[tt,tt,ff,ff,ff,ff,ff,ff,ff,ff,ff,ff] ?_
   refine pv 2 (some 51) HT_.out #[tt,tt,tt,ff,ff,ff,ff,ff,ff,ff,ff,ff] ?_
   refine pv 3 (some 52) HT_.out #[tt,tt,tt,tt,ff,ff,ff,ff,ff,ff,ff,ff] ?_
   refine pv 4 (some 53) HT_.out #[tt,tt,tt,tt,tt,ff,ff,ff,ff,ff,ff,ff] ?_
   refine pv 6 (some 55) HT_.out #[tt,tt,tt,tt,tt,ff,tt,ff,ff,ff,ff,ff] ?_
   refine tu 5 (some 54) ?_ #[tt,tt,tt,tt,tt,tt,tt,ff,ff,ff,ff,ff] rfl rfl (ta HT_.out HW_.out) (fun _ _ _ h => h) (Or.inl ⟨by rfl, ?_⟩) hHeld ?_ ?_ ?_; rotate_left
   ·rintro w' ⟨s0, s1, s2, s3, s4, s5, s6, s7, s8⟩
    go_simp
    with_reducible rfl
   rotate_left; exact sp
   refine tu 7 (some 56) ?_ #[tt,tt,tt,tt,tt,tt,tt,tt,ff,ff,ff,ff] rfl rfl (ta HT_.out HW_.out) (fun _ _ _ h => h) (Or.inl ⟨by rfl, ?_⟩) hHeld ?_ ?_ ?_; rotate_left
   ·rintro w' ⟨s0, s1, s2, s3, s4, s5, s6, s7, s8⟩
    go_simp
    with_reducible rfl
   rotate_left; exact sp
   refine pv 8 (some 57) HT_.out #[tt,tt,tt,tt,tt,tt,tt,tt,tt,ff,ff,ff] ?_
   refine tu 9 (some 58) ?_ #[tt,tt,tt,tt,tt,tt,tt,tt,tt,tt,ff,ff] rfl rfl (ta HT_.out HW_.out) (fun _ _ _ h => h) (Or.inl ⟨by rfl, ?_⟩) hHeld ?_ ?_ ?_; rotate_left
   ·rintro w' ⟨s0, s1, s2, s3, s4, s5, s6, s7, s8⟩
    go_simp
    with_reducible rfl
   rotate_left; exact sp
   refine pv 10 (some 59) HT_.out #[tt,tt,tt,tt,tt,tt,tt,tt,tt,tt,tt,ff] ?_
   refine pv 11 (some 60) HT_.out #[tt,tt,tt,tt,tt,tt,tt,tt,tt,tt,tt,tt] ?_
   refine done_ (done_of HT_.out (by kernel_rfl)) ?_
   try go_wp2
   go_meet
   case rel => exact ⟨_, ((a1.toList == (rdOf ByteArray.empty t106 0).toList)), cd, H', ⟨by have := HJ2.out; first | omega | exact Nat.le_refl _⟩, ⟨by exact R_st (Kd.R_mono HO108.out (fun _ hk => ⟨hk.1.1, ⟨hk.1.2.1, ⟨hk.1.2.2, hk.2⟩⟩⟩))⟩, ⟨by exact R_st (Kd.R_mono HO111.out (fun _ hk => ⟨hk.1.1, ⟨hk.1.2.1, ⟨hk.1.2.2, hk.2⟩⟩⟩))⟩, ⟨by exact R_st (Kd.R_mono HO114.out (fun _ hk => ⟨hk.1.1, ⟨hk.1.2.1, ⟨hk.1.2.2, hk.2⟩⟩⟩))⟩, ⟨by exact R_st (Kd.R_mono HO117.out (fun _ hk => ⟨hk.1.1, ⟨hk.1.2.1, ⟨hk.1.2.2, hk.2⟩⟩⟩))⟩, ⟨by exact blk_st BK101.out⟩, ⟨by exact blk_st BK121.out⟩, ⟨by exact bes HB.out⟩⟩
  clear HC27
  try clear c1
  try clear p1
  try clear q1
  try clear hx1
  try clear qi1
  try clear c2
  try clear p2
  try clear c3
  try clear c4
  try clear c6
  try clear c8
  try clear p10
  try clear q10
  try clear hx10
  try clear c11
  try clear c11b0
  try clear c11b1
  try clear p12
  try clear q12
  try clear hx12
  try clear qi12
  try clear c14
  try clear c14b0
  try clear c15
  try clear c15b0
  try clear c16
  try clear c16b0
  try clear c16b1
  try clear c17
  try clear c17b0
  try clear c17b1
  try clear c23
  try clear c31
  try clear c35
  try clear c36
  try clear c38
  try clear c40
  try clear c41
  try clear c43
  try clear c45
  try clear c45b0
  try clear c45b1
  try clear Z32_0 Z32_1 Z32_2 Z32_3 Z32_4 Z32_5 Z32_6
  try clear Z36_0
  try clear Z38_0 Z38_1 Z38_2 Z38_3 Z38_4 Z38_5 Z38_6
  try clear Z39_0
  try clear F32_0 F32_1 F32_2 F32_3 F32_4 F32_5 F32_6
  try clear F36_0
  try clear F38_0 F38_1 F38_2 F38_3 F38_4 F38_5 F38_6
  try clear F39_0
  try clear hx104_0
  try clear hx126_0
  try clear p1
  try clear p10
  try clear p104
  try clear p126
  try clear p2
  try clear q1
  try clear q10
  try clear q104
  try clear q126
  obtain ⟨kq, x60_26, rfl, HA, HJ26, O0, O1, O2, O3, BK101, BK121, HB⟩ := hcut
  cases kq with
  | zero => exact absurd HA.out (by simp [word_Is.j1])
  | succ kj26 =>
   have H := HA.out; clear HA; simp only [word_Is.j1] at H
   by_cases c47 : x60_26 = true
   ·subst c47
    replace H := ip H
    obtain rfl := Option.some.inj H
    go_wp2
    go_ret
    exact ⟨er, by exact bes HB.out⟩
   replace c47 := Bool.eq_false_iff.mpr c47; subst c47; replace H := inn H
   have H' := am H; clear H
   go_wp2
   go_loopg [11] kj26 (fun kq v11 w' => ∃ (x11_3 : Int), v11 = .int .i64 x11_3 ∧ Aside0 (word_Is.l0 kq x11_3 a1 t106 t109 t112 t115 t118 t119 t120 = some r) ∧ Aside0 (kq ≤ kj26) ∧ Aside0 (Kd.R Kd.string 9 w' w.heap.size (fun k_ => some k_ ≠ ((.slice Ao33 t109.length co33) : Value).ownBlock ∧ some k_ ≠ ((.slice Ao34 t112.length co34) : Value).ownBlock ∧ some k_ ≠ ((.slice Ao35 t115.length co35) : Value).ownBlock ∧ k_ ≠ gb101) (.slice Ao30 t106.length co30) t106) ∧ Aside0 (Kd.R Kd.string 9 w' w.heap.size (fun k_ => some k_ ≠ ((.slice Ao30 t106.length co30) : Value).ownBlock ∧ some k_ ≠ ((.slice Ao34 t112.length co34) : Value).ownBlock ∧ some k_ ≠ ((.slice Ao35 t115.length co35) : Value).ownBlock ∧ k_ ≠ gb101) (.slice Ao33 t109.length co33) t109) ∧ Aside0 (Kd.R Kd.string 9 w' w.heap.size (fun k_ => some k_ ≠ ((.slice Ao30 t106.length co30) : Value).ownBlock ∧ some k_ ≠ ((.slice Ao33 t109.length co33) : Value).ownBlock ∧ some k_ ≠ ((.slice Ao35 t115.length co35) : Value).ownBlock ∧ k_ ≠ gb101) (.slice Ao34 t112.length co34) t112) ∧ Aside0 (Kd.R Kd.string 9 w' w.heap.size (fun k_ => some k_ ≠ ((.slice Ao30 t106.length co30) : Value).ownBlock ∧ some k_ ≠ ((.slice Ao33 t109.length co33) : Value).ownBlock ∧ some k_ ≠ ((.slice Ao34 t112.length co34) : Value).ownBlock ∧ k_ ≠ gb101) (.slice Ao35 t115.length co35) t115) ∧ Aside0 (w'.heap[gb101]? = some (.cells #[.string a1] 9 (0, 0))) ∧ Aside0 (w'.heap[gb121]? = some (.cells #[(.slice Ao30 t106.length co30), (.slice Ao33 t109.length co33), (.slice Ao34 t112.length co34), (.slice Ao35 t115.length co35), fnv t118, fnv t119, fnv t120] 59 (0, 0))) ∧ Aside0 (Below w.heap.size w w'))
   case atStart => exact ⟨(1), cd, H', ⟨Nat.le_refl _⟩, ⟨by exact R_st O0.out⟩, ⟨by exact R_st O1.out⟩, ⟨by exact R_st O2.out⟩, ⟨by exact R_st O3.out⟩, ⟨by exact blk_st BK101.out⟩, ⟨by exact blk_st BK121.out⟩, ⟨by exact bes HB.out⟩⟩
   clear H'
   try clear c1
   try clear p1
   try clear q1
   try clear hx1
   try clear qi1
   try clear c2
   try clear p2
   try clear c3
   try clear c4
   try clear c6
   try clear c8
   try clear p10
   try clear q10
   try clear hx10
   try clear c11
   try clear c11b0
   try clear c11b1
   try clear p12
   try clear q12
   try clear hx12
   try clear qi12
   try clear c14
   try clear c14b0
   try clear c15
   try clear c15b0
   try clear c16
   try clear c16b0
   try clear c16b1
   try clear c17
   try clear c17b0
   try clear c17b1
   try clear c23
   try clear c31
   try clear c35
   try clear c36
   try clear c38
   try clear c40
   try clear c41
   try clear c43
   try clear c45
   try clear c45b0
   try clear c45b1
   try clear c47
   try clear Z32_0 Z32_1 Z32_2 Z32_3 Z32_4 Z32_5 Z32_6
   try clear Z36_0
   try clear Z38_0 Z38_1 Z38_2 Z38_3 Z38_4 Z38_5 Z38_6
   try clear Z39_0
   try clear F32_0 F32_1 F32_2 F32_3 F32_4 F32_5 F32_6
   try clear F36_0
   try clear F38_0 F38_1 F38_2 F38_3 F38_4 F38_5 F38_6
   try clear F39_0
   try clear hx104_0
   try clear hx126_0
   try clear p1
   try clear p10
   try clear p104
   try clear p12
   try clear p126
   try clear p2
   try clear q1
   try clear q10
   try clear q104
   try clear q12
   try clear q126
   obtain ⟨x11_3, rfl, HA, HK3, O0, O1, O2, O3, BK101, BK121, HB⟩ := hrel
   cases gk with
   | zero => exact absurd HA.out (by simp [word_Is.l0])
   | succ k3 =>
    have H := HA.out; clear HA; simp only [word_Is.l0] at H
    by_cases c48 : x11_3 < 10; rotate_left
    ·rw [if_neg c48] at H
     have c48b0 := dF c48; clear c48
     have H' := am H; clear H
     go_wp2
     go_loopg [86] k3 (fun kq v86 w' => ∃ (x86_4 : Int), v86 = .int .i64 x86_4 ∧ Aside0 (word_Is.l1 kq x86_4 1 2 21 31 a1 t106 t109 t112 t115 t118 t119 t120 = some r) ∧ Aside0 (kq ≤ k3) ∧ Aside0 (Kd.R Kd.string 9 w' w.heap.size (fun k_ => some k_ ≠ ((.slice Ao33 t109.length co33) : Value).ownBlock ∧ some k_ ≠ ((.slice Ao34 t112.length co34) : Value).ownBlock ∧ some k_ ≠ ((.slice Ao35 t115.length co35) : Value).ownBlock ∧ k_ ≠ gb101) (.slice Ao30 t106.length co30) t106) ∧ Aside0 (Kd.R Kd.string 9 w' w.heap.size (fun k_ => some k_ ≠ ((.slice Ao30 t106.length co30) : Value).ownBlock ∧ some k_ ≠ ((.slice Ao34 t112.length co34) : Value).ownBlock ∧ some k_ ≠ ((.slice Ao35 t115.length co35) : Value).ownBlock ∧ k_ ≠ gb101) (.slice Ao33 t109.length co33) t109) ∧ Aside0 (Kd.R Kd.string 9 w' w.heap.size (fun k_ => some k_ ≠ ((.slice Ao30 t106.length co30) : Value).ownBlock ∧ some k_ ≠ ((.slice Ao33 t109.length co33) : Value).ownBlock ∧ some k_ ≠ ((.slice Ao35 t115.length co35) : Value).ownBlock ∧ k_ ≠ gb101) (.slice Ao34 t112.length co34) t112) ∧ Aside0 (Kd.R Kd.string 9 w' w.heap.size (fun k_ => some k_ ≠ ((.slice Ao30 t106.length co30) : Value).ownBlock ∧ some k_ ≠ ((.slice Ao33 t109.length co33) : Value).ownBlock ∧ some k_ ≠ ((.slice Ao34 t112.length co34) : Value).ownBlock ∧ k_ ≠ gb101) (.slice Ao35 t115.length co35) t115) ∧ Aside0 (w'.heap[gb101]? = some (.cells #[.string a1] 9 (0, 0))) ∧ Aside0 (w'.heap[gb121]? = some (.cells #[(.slice Ao30 t106.length co30), (.slice Ao33 t109.length co33), (.slice Ao34 t112.length co34), (.slice Ao35 t115.length co35), fnv t118, fnv t119, fnv t120] 59 (0, 0))) ∧ Aside0 (Below w.heap.size w w'))
     case atStart => exact ⟨(0), cd, H', ⟨Nat.le_refl _⟩, ⟨by exact R_st O0.out⟩, ⟨by exact R_st O1.out⟩, ⟨by exact R_st O2.out⟩, ⟨by exact R_st O3.out⟩, ⟨by exact blk_st BK101.out⟩, ⟨by exact blk_st BK121.out⟩, ⟨by exact bes HB.out⟩⟩
     clear H'
     try clear p1
     try clear q1
     try clear hx1
     try clear qi1
     try clear p2
     try clear c4
     try clear c5
     try clear c6
     try clear p6
     try clear c8
     try clear c9
     try clear p12
     try clear q12
     try clear hx12
     try clear qi12
     try clear c45
     try clear c48
     try clear c48b0
     try clear c50
     try clear p64
     try clear c65
     try clear c66
     try clear c81
     try clear c84
     try clear c88
     try clear c96
     try clear hx127_0
     try clear p1
     try clear p12
     try clear p127
     try clear p2
     try clear q1
     try clear q12
     try clear q127
     obtain ⟨x86_4, rfl, HA, HK4, O0, O1, O2, O3, BK101, BK121, HB⟩ := hrel
     cases gk with
     | zero => exact absurd HA.out (by simp [word_Is.l1])
     | succ k4 =>
      have H := HA.out; clear HA; simp only [word_Is.l1] at H
      by_cases c97 : x86_4 < 4; rotate_left
      ·rw [if_neg c97] at H
       have c97b0 := dF c97; clear c97; obtain rfl := Option.some.inj H
       go_wp2
       go_ret
       exact ⟨er, by exact bes HB.out⟩
      rw [if_pos c97] at H
      have c97b0 := dT c97; clear c97; have HC98 := am H; clear H
      go_upto_region 16 with (fail)
      go_cut [13] (fun v13 wc => ∃ (kq : Nat) (x13_97 : Int), v13 = .int .i64 x13_97 ∧ Aside0 (word_Is.j5 kq x13_97 x86_4 1 2 21 31 a1 t106 t109 t112 t115 t118 t119 t120 = some r) ∧ Aside0 (kq ≤ k4) ∧ Aside0 (Kd.R Kd.string 9 wc w.heap.size (fun k_ => some k_ ≠ ((.slice Ao33 t109.length co33) : Value).ownBlock ∧ some k_ ≠ ((.slice Ao34 t112.length co34) : Value).ownBlock ∧ some k_ ≠ ((.slice Ao35 t115.length co35) : Value).ownBlock ∧ k_ ≠ gb101) (.slice Ao30 t106.length co30) t106) ∧ Aside0 (Kd.R Kd.string 9 wc w.heap.size (fun k_ => some k_ ≠ ((.slice Ao30 t106.length co30) : Value).ownBlock ∧ some k_ ≠ ((.slice Ao34 t112.length co34) : Value).ownBlock ∧ some k_ ≠ ((.slice Ao35 t115.length co35) : Value).ownBlock ∧ k_ ≠ gb101) (.slice Ao33 t109.length co33) t109) ∧ Aside0 (Kd.R Kd.string 9 wc w.heap.size (fun k_ => some k_ ≠ ((.slice Ao30 t106.length co30) : Value).ownBlock ∧ some k_ ≠ ((.slice Ao33 t109.length co33) : Value).ownBlock ∧ some k_ ≠ ((.slice Ao35 t115.length co35) : Value).ownBlock ∧ k_ ≠ gb101) (.slice Ao34 t112.length co34) t112) ∧ Aside0 (Kd.R Kd.string 9 wc w.heap.size (fun k_ => some k_ ≠ ((.slice Ao30 t106.length co30) : Value).ownBlock ∧ some k_ ≠ ((.slice Ao33 t109.length co33) : Value).ownBlock ∧ some k_ ≠ ((.slice Ao34 t112.length co34) : Value).ownBlock ∧ k_ ≠ gb101) (.slice Ao35 t115.length co35) t115) ∧ Aside0 (wc.heap[gb101]? = some (.cells #[.string a1] 9 (0, 0))) ∧ Aside0 (wc.heap[gb121]? = some (.cells #[(.slice Ao30 t106.length co30), (.slice Ao33 t109.length co33), (.slice Ao34 t112.length co34), (.slice Ao35 t115.length co35), fnv t118, fnv t119, fnv t120] 59 (0, 0))) ∧ Aside0 (Below w.heap.size w wc))
      case first =>
       have H := HC98.out; clear HC98
       by_cases c99 : x86_4 = 0
       ·subst c99
        replace H := ip H
        have hixi100 : ∀ W_, (Instr.index 70 (.agg #[.int .i64 1, .int .i64 2, .int .i64 21, .int .i64 31]) (.int .i64 0)).run Tryd.prog W_ = .ok (.int .i64 1) W_ := fun _ => by kernel_rfl
        have H' := am H; clear H
        go_wp2
        go_meet
        case rel => exact ⟨_, (1), cd, H', ⟨by have := HJ2.out; have := HJ26.out; have := HK3.out; have := HK4.out; first | omega | exact Nat.le_refl _⟩, ⟨by exact R_st O0.out⟩, ⟨by exact R_st O1.out⟩, ⟨by exact R_st O2.out⟩, ⟨by exact R_st O3.out⟩, ⟨by exact blk_st BK101.out⟩, ⟨by exact blk_st BK121.out⟩, ⟨by exact bes HB.out⟩⟩
       rw [if_neg c99] at H
       by_cases c101 : x86_4 = 1
       ·subst c101
        replace H := ip H
        have hixi102 : ∀ W_, (Instr.index 70 (.agg #[.int .i64 1, .int .i64 2, .int .i64 21, .int .i64 31]) (.int .i64 1)).run Tryd.prog W_ = .ok (.int .i64 2) W_ := fun _ => by kernel_rfl
        have H' := am H; clear H
        go_wp2
        go_meet
        case rel => exact ⟨_, (2), cd, H', ⟨by have := HJ2.out; have := HJ26.out; have := HK3.out; have := HK4.out; first | omega | exact Nat.le_refl _⟩, ⟨by exact R_st O0.out⟩, ⟨by exact R_st O1.out⟩, ⟨by exact R_st O2.out⟩, ⟨by exact R_st O3.out⟩, ⟨by exact blk_st BK101.out⟩, ⟨by exact blk_st BK121.out⟩, ⟨by exact bes HB.out⟩⟩
       rw [if_neg c101] at H
       by_cases c103 : x86_4 = 2
       ·subst c103
        replace H := ip H
        have hixi104 : ∀ W_, (Instr.index 70 (.agg #[.int .i64 1, .int .i64 2, .int .i64 21, .int .i64 31]) (.int .i64 2)).run Tryd.prog W_ = .ok (.int .i64 21) W_ := fun _ => by kernel_rfl
        have H' := am H; clear H
        go_wp2
        go_meet
        case rel => exact ⟨_, (21), cd, H', ⟨by have := HJ2.out; have := HJ26.out; have := HK3.out; have := HK4.out; first | omega | exact Nat.le_refl _⟩, ⟨by exact R_st O0.out⟩, ⟨by exact R_st O1.out⟩, ⟨by exact R_st O2.out⟩, ⟨by exact R_st O3.out⟩, ⟨by exact blk_st BK101.out⟩, ⟨by exact blk_st BK121.out⟩, ⟨by exact bes HB.out⟩⟩
       rw [if_neg c103] at H
       by_cases c105 : x86_4 = 3
       ·subst c105
        replace H := ip H
        have hixi106 : ∀ W_, (Instr.index 70 (.agg #[.int .i64 1, .int .i64 2, .int .i64 21, .int .i64 31]) (.int .i64 3)).run Tryd.prog W_ = .ok (.int .i64 31) W_ := fun _ => by kernel_rfl
        have H' := am H; clear H
        go_wp2
        go_meet
        case rel => exact ⟨_, (31), cd, H', ⟨by have := HJ2.out; have := HJ26.out; have := HK3.out; have := HK4.out; first | omega | exact Nat.le_refl _⟩, ⟨by exact R_st O0.out⟩, ⟨by exact R_st O1.out⟩, ⟨by exact R_st O2.out⟩, ⟨by exact R_st O3.out⟩, ⟨by exact blk_st BK101.out⟩, ⟨by exact blk_st BK121.out⟩, ⟨by exact bes HB.out⟩⟩
       rw [if_neg c105] at H
       exact absurd H (by simp)
      clear HC98
      try clear c1
      try clear p1
      try clear q1
      try clear hx1
      try clear qi1
      try clear p2
      try clear c4
      try clear c5
      try clear c6
      try clear p6
      try clear c8
      try clear c9
      try clear c10
      try clear p12
      try clear q12
      try clear hx12
      try clear qi12
      try clear c45
      try clear c48
      try clear c48b0
      try clear c50
      try clear p64
      try clear c65
      try clear c66
      try clear c81
      try clear c84
      try clear c88
      try clear c96
      try clear c97
      try clear c97b0
      try clear c99
      try clear c101
      try clear c103
      try clear c105
      try clear hx127_0
      try clear p1
      try clear p12
      try clear p127
      try clear p2
      try clear p6
      try clear p64
      try clear q1
      try clear q12
      try clear q127
      obtain ⟨kq, x13_97, rfl, HA, HJ97, O0, O1, O2, O3, BK101, BK121, HB⟩ := hcut
      cases kq with
      | zero => exact absurd HA.out (by simp [word_Is.j5])
      | succ kj97 =>
       have H := HA.out; clear HA; simp only [word_Is.j5] at H; replace H := bm H; obtain ⟨t144, A107, H⟩ := H; replace A107 := am A107
       by_cases c108 : t120 = some 60
       ·subst c108
        replace H := ip H
        (try simp only [fnv_some]); replace H := bm H; obtain ⟨t145, A109, H⟩ := H; replace A109 := am A109; replace H := bm H; obtain ⟨t146, A110, H⟩ := H; replace A110 := am A110
        by_cases c111 : t146 = true
        ·subst c111
         replace H := ip H
         obtain rfl := Option.some.inj H
         try go_wp2
         replace O0 := am (Kd.R_drew O0.out); replace O1 := am (Kd.R_drew O1.out); replace O2 := am (Kd.R_drew O2.out); replace O3 := am (Kd.R_drew O3.out); replace BK101 := am (blk_drew BK101.out); replace BK121 := am (blk_drew BK121.out); replace HB := am (below_drew1 HB.out)
         refine start_ (n := 9) (S := fun w' => w'.cell? ⟨gb121, 0, none⟩ = some (.slice Ao30 t106.length co30) ∧ w'.cell? ⟨gb121, 1, none⟩ = some (.slice Ao33 t109.length co33) ∧ w'.cell? ⟨gb121, 2, none⟩ = some (.slice Ao34 t112.length co34) ∧ w'.cell? ⟨gb121, 3, none⟩ = some (.slice Ao35 t115.length co35) ∧ w'.cell? ⟨gb121, 4, none⟩ = some (fnv t118) ∧ w'.cell? ⟨gb121, 5, none⟩ = some (fnv t119) ∧ w'.cell? ⟨gb121, 6, none⟩ = some (.func (.func 60) #[] #[])) (ds := []) #[ff,ff,ff,ff,ff,ff,ff,ff,ff] (by kernel_rfl) rfl rfl ⟨bc BK121.out 0, bc BK121.out 1, bc BK121.out 2, bc BK121.out 3, bc BK121.out 4, bc BK121.out 5, bc BK121.out 6⟩ (fun hHeld => ?_); refine with_tabW word_Is.tab17 word_Is.bits17 (fun HT_ HW_ => ?_)
         generalize wc.drew = w112 at O0 O1 O2 O3 BK101 BK121 HB hHeld ⊢
         refine pv 0 (some 89) HT_.out #[tt,ff,ff,ff,ff,ff,ff,ff,ff] ?_
         refine pv 1 (some 90) HT_.out #[tt,tt,ff,ff,ff,ff,ff,ff,ff] ?_
         refine pv 4 (some 93) HT_.out #[tt,tt,ff,ff,tt,ff,ff,ff,ff] ?_
         refine pv 6 (some 95) HT_.out #[tt,tt,ff,ff,tt,ff,tt,ff,ff] ?_
         refine tu 2 (some 91) ?_ #[tt,tt,tt,ff,tt,ff,tt,ff,ff] rfl rfl (ta HT_.out HW_.out) (fun _ _ _ h => h) (Or.inl ⟨by rfl, ?_⟩) hHeld ?_ ?_ ?_; rotate_left
         ·rintro w' ⟨s0, s1, s2, s3, s4, s5, s6⟩
          go_simp
          with_reducible rfl
         rotate_left; exact sp
         refine tu 3 (some 92) ?_ #[tt,tt,tt,tt,tt,ff,tt,ff,ff] rfl rfl (ta HT_.out HW_.out) (fun _ _ _ h => h) (Or.inl ⟨by rfl, ?_⟩) hHeld ?_ ?_ ?_; rotate_left
         ·rintro w' ⟨s0, s1, s2, s3, s4, s5, s6⟩
          go_simp
          with_reducible rfl
         rotate_left; exact sp
         refine o1 5 (some 94) HT_.out #[tt,tt,tt,tt,tt,tt,tt,ff,ff] fun K hK => ?_
         refine gV Tryd.func47 #[.agg #[.slice Ao30 t106.length co30, .slice Ao33 t109.length co33, .slice Ao34 t112.length co34, .slice Ao35 t115.length co35, fnv t118, fnv t119, .func (.func 60) #[] #[]], .int .i64 x13_97] ?_
         with_reducible refine (XA.word_tongue_small.calls kj97 _ _ t106 _ _ t109 _ _ t112 _ _ t115 t118 t119 (some 60) x13_97 t144 _ ?_ ?_ ?_ ?_ ?_ ?_ ?_ ?_ A107.out).mono ?_
         exact C_st ((Kd.R_reads' O0.out).2.2)
         exact (Kd.R_reads' O0.out).2.1
         exact C_st ((Kd.R_reads' O1.out).2.2)
         exact (Kd.R_reads' O1.out).2.1
         exact C_st ((Kd.R_reads' O2.out).2.2)
         exact (Kd.R_reads' O2.out).2.1
         exact C_st ((Kd.R_reads' O3.out).2.2)
         exact (Kd.R_reads' O3.out).2.1
         rintro e w113 ⟨rfl, hb⟩
         refine ⟨_, rfl, ?_⟩; replace O0 := rb O0 hb; replace O1 := rb O1 hb; replace O2 := rb O2 hb; replace O3 := rb O3 hb; replace BK101 := kb BK101 hb; replace BK121 := kb BK121 hb; replace HB := bsp HB hb
         (try clear hb)
         (try clear hb2)
         (try clear hk)
         (try clear hi)
         refine hK.out _ _ ⟨bc BK121.out 0, bc BK121.out 1, bc BK121.out 2, bc BK121.out 3, bc BK121.out 4, bc BK121.out 5, bc BK121.out 6⟩ (fun hHeld => ?_); clear hK K
         refine norm_ (a' := ?_) ?_ ?_; rotate_left
         ·show Act.put _ (some 94) _ = _
          simp only [Act.put, sa_, s0_, s1_, i64_w, i32_w]
          rfl
         refine o1 7 (some 96) HT_.out #[tt,tt,tt,tt,tt,tt,tt,tt,ff] fun K hK => ?_
         refine gV Tryd.func60 #[.string t144, .int .i64 x13_97] ?_
         with_reducible refine (XA.word_tongues_3.calls t144 x13_97 t145 _ A109.out).mono ?_
         rintro e w' ⟨rfl, ⟨nd, rfl⟩⟩
         refine ⟨_, rfl, ?_⟩
         refine hK.out _ _ ⟨bc BK121.out 0, bc BK121.out 1, bc BK121.out 2, bc BK121.out 3, bc BK121.out 4, bc BK121.out 5, bc BK121.out 6⟩ (fun hHeld => ?_); clear hK K
         refine norm_ (a' := ?_) ?_ ?_; rotate_left
         ·show Act.put _ (some 96) _ = _
          simp only [Act.put, sa_, s0_, s1_, i64_w, i32_w]
          rfl
         refine o1 8 (some 97) HT_.out #[tt,tt,tt,tt,tt,tt,tt,tt,tt] fun K hK => ?_
         refine gV Tryd.func45 #[.string t145, .pointer (some ⟨gb101, 0, none⟩)] ?_
         with_reducible refine (word_Is_1.calls kj97 t145 gb101 a1 true _ ?_ ?_ A110.out).mono ?_
         exact (blk_cell (blk_st BK101.out) 0).trans rfl
         exact LW.below HLW.out (bes HB.out)
         rintro e w114 ⟨rfl, hb⟩
         refine ⟨_, rfl, ?_⟩; replace O0 := rb O0 hb; replace O1 := rb O1 hb; replace O2 := rb O2 hb; replace O3 := rb O3 hb; replace BK101 := kb BK101 hb; replace BK121 := kb BK121 hb; replace HB := bsp HB hb
         (try clear hb)
         (try clear hb2)
         (try clear hk)
         (try clear hi)
         refine hK.out _ _ ⟨bc BK121.out 0, bc BK121.out 1, bc BK121.out 2, bc BK121.out 3, bc BK121.out 4, bc BK121.out 5, bc BK121.out 6⟩ (fun hHeld => ?_); clear hK K
         refine norm_ (a' := ?_) ?_ ?_; rotate_left
         ·show Act.put _ (some 97) _ = _
          simp only [Act.put, sa_, s0_, s1_, i64_w, i32_w]
          rfl
         refine done_ (done_of HT_.out (by kernel_rfl)) ?_
         try go_wp2
         go_ret
         exact ⟨er, by exact bes HB.out⟩
        replace c111 := Bool.eq_false_iff.mpr c111; subst c111; replace H := inn H
        have H' := am H; clear H
        try go_wp2
        replace O0 := am (Kd.R_drew O0.out); replace O1 := am (Kd.R_drew O1.out); replace O2 := am (Kd.R_drew O2.out); replace O3 := am (Kd.R_drew O3.out); replace BK101 := am (blk_drew BK101.out); replace BK121 := am (blk_drew BK121.out); replace HB := am (below_drew1 HB.out)
        refine start_ (n := 9) (S := fun w' => w'.cell? ⟨gb121, 0, none⟩ = some (.slice Ao30 t106.length co30) ∧ w'.cell? ⟨gb121, 1, none⟩ = some (.slice Ao33 t109.length co33) ∧ w'.cell? ⟨gb121, 2, none⟩ = some (.slice Ao34 t112.length co34) ∧ w'.cell? ⟨gb121, 3, none⟩ = some (.slice Ao35 t115.length co35) ∧ w'.cell? ⟨gb121, 4, none⟩ = some (fnv t118) ∧ w'.cell? ⟨gb121, 5, none⟩ = some (fnv t119) ∧ w'.cell? ⟨gb121, 6, none⟩ = some (.func (.func 60) #[] #[])) (ds := []) #[ff,ff,ff,ff,ff,ff,ff,ff,ff] (by kernel_rfl) rfl rfl ⟨bc BK121.out 0, bc BK121.out 1, bc BK121.out 2, bc BK121.out 3, bc BK121.out 4, bc BK121.out 5, bc BK121.out 6⟩ (fun hHeld => ?_); refine with_tabW word_Is.tab17 word_Is.bits17 (fun HT_ HW_ => ?_)
        generalize wc.drew = w115 at O0 O1 O2 O3 BK101 BK121 HB hHeld ⊢
        refine pv 0 (some 89) HT_.out #[tt,ff,ff,ff,ff,ff,ff,ff,ff] ?_
        refine pv 1 (some 90) HT_.out #[tt,tt,ff,ff,ff,ff,ff,ff,ff] ?_
        refine pv 4 (some 93) HT_.out #[tt,tt,ff,ff,tt,ff,ff,ff,ff] ?_
        refine pv 6 (some 95) HT_.out #[tt,tt,ff,ff,tt,ff,tt,ff,ff] ?_
        refine tu 2 (some 91) ?_ #[tt,tt,tt,ff,tt,ff,tt,ff,ff] rfl rfl (ta HT_.out HW_.out) (fun _ _ _ h => h) (Or.inl ⟨by rfl, ?_⟩) hHeld ?_ ?_ ?_; rotate_left
        ·rintro w' ⟨s0, s1, s2, s3, s4, s5, s6⟩
         go_simp
         with_reducible rfl
        rotate_left; exact sp
        refine tu 3 (some 92) ?_ #[tt,tt,tt,tt,tt,ff,tt,ff,ff] rfl rfl (ta HT_.out HW_.out) (fun _ _ _ h => h) (Or.inl ⟨by rfl, ?_⟩) hHeld ?_ ?_ ?_; rotate_left
        ·rintro w' ⟨s0, s1, s2, s3, s4, s5, s6⟩
         go_simp
         with_reducible rfl
        rotate_left; exact sp
        refine o1 5 (some 94) HT_.out #[tt,tt,tt,tt,tt,tt,tt,ff,ff] fun K hK => ?_
        refine gV Tryd.func47 #[.agg #[.slice Ao30 t106.length co30, .slice Ao33 t109.length co33, .slice Ao34 t112.length co34, .slice Ao35 t115.length co35, fnv t118, fnv t119, .func (.func 60) #[] #[]], .int .i64 x13_97] ?_
        with_reducible refine (XA.word_tongue_small.calls kj97 _ _ t106 _ _ t109 _ _ t112 _ _ t115 t118 t119 (some 60) x13_97 t144 _ ?_ ?_ ?_ ?_ ?_ ?_ ?_ ?_ A107.out).mono ?_
        exact C_st ((Kd.R_reads' O0.out).2.2)
        exact (Kd.R_reads' O0.out).2.1
        exact C_st ((Kd.R_reads' O1.out).2.2)
        exact (Kd.R_reads' O1.out).2.1
        exact C_st ((Kd.R_reads' O2.out).2.2)
        exact (Kd.R_reads' O2.out).2.1
        exact C_st ((Kd.R_reads' O3.out).2.2)
        exact (Kd.R_reads' O3.out).2.1
        rintro e w116 ⟨rfl, hb⟩
        refine ⟨_, rfl, ?_⟩; replace O0 := rb O0 hb; replace O1 := rb O1 hb; replace O2 := rb O2 hb; replace O3 := rb O3 hb; replace BK101 := kb BK101 hb; replace BK121 := kb BK121 hb; replace HB := bsp HB hb
        (try clear hb)
        (try clear hb2)
        (try clear hk)
        (try clear hi)
        refine hK.out _ _ ⟨bc BK121.out 0, bc BK121.out 1, bc BK121.out 2, bc BK121.out 3, bc BK121.out 4, bc BK121.out 5, bc BK121.out 6⟩ (fun hHeld => ?_); clear hK K
        refine norm_ (a' := ?_) ?_ ?_; rotate_left
        ·show Act.put _ (some 94) _ = _
         simp only [Act.put, sa_, s0_, s1_, i64_w, i32_w]
         rfl
        refine o1 7 (some 96) HT_.out #[tt,tt,tt,tt,tt,tt,tt,tt,ff] fun K hK => ?_
        refine gV Tryd.func60 #[.string t144, .int .i64 x13_97] ?_
        with_reducible refine (XA.word_tongues_3.calls t144 x13_97 t145 _ A109.out).mono ?_
        rintro e w' ⟨rfl, ⟨nd, rfl⟩⟩
        refine ⟨_, rfl, ?_⟩
        refine hK.out _ _ ⟨bc BK121.out 0, bc BK121.out 1, bc BK121.out 2, bc BK121.out 3, bc BK121.out 4, bc BK121.out 5, bc BK121.out 6⟩ (fun hHeld => ?_); clear hK K
        refine norm_ (a' := ?_) ?_ ?_; rotate_left
        ·show Act.put _ (some 96) _ = _
         simp only [Act.put, sa_, s0_, s1_, i64_w, i32_w]
         rfl
        refine o1 8 (some 97) HT_.out #[tt,tt,tt,tt,tt,tt,tt,tt,tt] fun K hK => ?_
        refine gV Tryd.func45 #[.string t145, .pointer (some ⟨gb101, 0, none⟩)] ?_
        with_reducible refine (word_Is_1.calls kj97 t145 gb101 a1 false _ ?_ ?_ A110.out).mono ?_
        exact (blk_cell (blk_st BK101.out) 0).trans rfl
        exact LW.below HLW.out (bes HB.out)
        rintro e w117 ⟨rfl, hb⟩
        refine ⟨_, rfl, ?_⟩; replace O0 := rb O0 hb; replace O1 := rb O1 hb; replace O2 := rb O2 hb; replace O3 := rb O3 hb; replace BK101 := kb BK101 hb; replace BK121 := kb BK121 hb; replace HB := bsp HB hb
        (try clear hb)
        (try clear hb2)
        (try clear hk)
        (try clear hi)
        refine hK.out _ _ ⟨bc BK121.out 0, bc BK121.out 1, bc BK121.out 2, bc BK121.out 3, bc BK121.out 4, bc BK121.out 5, bc BK121.out 6⟩ (fun hHeld => ?_); clear hK K
        refine norm_ (a' := ?_) ?_ ?_; rotate_left
        ·show Act.put _ (some 97) _ = _
         simp only [Act.put, sa_, s0_, s1_, i64_w, i32_w]
         rfl
        refine done_ (done_of HT_.out (by kernel_rfl)) ?_
        try go_wp2
        go_roundg kj97
        case measure => have := HJ2.out; have := HJ26.out; have := HK3.out; have := HK4.out; have := HJ97.out; omega
        case rel => exact ⟨(wrap64 (x86_4 + 1)), cd, H', ⟨by have := HJ2.out; have := HJ26.out; have := HK3.out; have := HK4.out; have := HJ97.out; omega⟩, ⟨by exact R_st O0.out⟩, ⟨by exact R_st O1.out⟩, ⟨by exact R_st O2.out⟩, ⟨by exact R_st O3.out⟩, ⟨by exact blk_st BK101.out⟩, ⟨by exact blk_st BK121.out⟩, ⟨by exact bes HB.out⟩⟩
       rw [if_neg c108] at H
       by_cases c118 : t120 = some 64
       ·subst c118
        replace H := ip H
        (try simp only [fnv_some]); replace H := bm H; obtain ⟨t147, A119, H⟩ := H; replace A119 := am A119; replace H := bm H; obtain ⟨t148, A120, H⟩ := H; replace A120 := am A120
        by_cases c121 : t148 = true
        ·subst c121
         replace H := ip H
         obtain rfl := Option.some.inj H
         try go_wp2
         replace O0 := am (Kd.R_drew O0.out); replace O1 := am (Kd.R_drew O1.out); replace O2 := am (Kd.R_drew O2.out); replace O3 := am (Kd.R_drew O3.out); replace BK101 := am (blk_drew BK101.out); replace BK121 := am (blk_drew BK121.out); replace HB := am (below_drew1 HB.out)
         refine start_ (n := 9) (S := fun w' => w'.cell? ⟨gb121, 0, none⟩ = some (.slice Ao30 t106.length co30) ∧ w'.cell? ⟨gb121, 1, none⟩ = some (.slice Ao33 t109.length co33) ∧ w'.cell? ⟨gb121, 2, none⟩ = some (.slice Ao34 t112.length co34) ∧ w'.cell? ⟨gb121, 3, none⟩ = some (.slice Ao35 t115.length co35) ∧ w'.cell? ⟨gb121, 4, none⟩ = some (fnv t118) ∧ w'.cell? ⟨gb121, 5, none⟩ = some (fnv t119) ∧ w'.cell? ⟨gb121, 6, none⟩ = some (.func (.func 64) #[] #[])) (ds := []) #[ff,ff,ff,ff,ff,ff,ff,ff,ff] (by kernel_rfl) rfl rfl ⟨bc BK121.out 0, bc BK121.out 1, bc BK121.out 2, bc BK121.out 3, bc BK121.out 4, bc BK121.out 5, bc BK121.out 6⟩ (fun hHeld => ?_); refine with_tabW word_Is.tab17 word_Is.bits17 (fun HT_ HW_ => ?_)
         generalize wc.drew = w122 at O0 O1 O2 O3 BK101 BK121 HB hHeld ⊢
         refine pv 0 (some 89) HT_.out #[tt,ff,ff,ff,ff,ff,ff,ff,ff] ?_
         refine pv 1 (some 90) HT_.out #[tt,tt,ff,ff,ff,ff,ff,ff,ff] ?_
         refine pv 4 (some 93) HT_.out #[tt,tt,ff,ff,tt,ff,ff,ff,ff] ?_
         refine pv 6 (some 95) HT_.out #[tt,tt,ff,ff,tt,ff,tt,ff,ff] ?_
         refine tu 2 (some 91) ?_ #[tt,tt,tt,ff,tt,ff,tt,ff,ff] rfl rfl (ta HT_.out HW_.out) (fun _ _ _ h => h) (Or.inl ⟨by rfl, ?_⟩) hHeld ?_ ?_ ?_; rotate_left
         ·rintro w' ⟨s0, s1, s2, s3, s4, s5, s6⟩
          go_simp
          with_reducible rfl
         rotate_left; exact sp
         refine tu 3 (some 92) ?_ #[tt,tt,tt,tt,tt,ff,tt,ff,ff] rfl rfl (ta HT_.out HW_.out) (fun _ _ _ h => h) (Or.inl ⟨by rfl, ?_⟩) hHeld ?_ ?_ ?_; rotate_left
         ·rintro w' ⟨s0, s1, s2, s3, s4, s5, s6⟩
          go_simp
          with_reducible rfl
         rotate_left; exact sp
         refine o1 5 (some 94) HT_.out #[tt,tt,tt,tt,tt,tt,tt,ff,ff] fun K hK => ?_
         refine gV Tryd.func47 #[.agg #[.slice Ao30 t106.length co30, .slice Ao33 t109.length co33, .slice Ao34 t112.length co34, .slice Ao35 t115.length co35, fnv t118, fnv t119, .func (.func 64) #[] #[]], .int .i64 x13_97] ?_
         with_reducible refine (XA.word_tongue_small.calls kj97 _ _ t106 _ _ t109 _ _ t112 _ _ t115 t118 t119 (some 64) x13_97 t144 _ ?_ ?_ ?_ ?_ ?_ ?_ ?_ ?_ A107.out).mono ?_
         exact C_st ((Kd.R_reads' O0.out).2.2)
         exact (Kd.R_reads' O0.out).2.1
         exact C_st ((Kd.R_reads' O1.out).2.2)
         exact (Kd.R_reads' O1.out).2.1
         exact C_st ((Kd.R_reads' O2.out).2.2)
         exact (Kd.R_reads' O2.out).2.1
         exact C_st ((Kd.R_reads' O3.out).2.2)
         exact (Kd.R_reads' O3.out).2.1
         rintro e w123 ⟨rfl, hb⟩
         refine ⟨_, rfl, ?_⟩; replace O0 := rb O0 hb; replace O1 := rb O1 hb; replace O2 := rb O2 hb; replace O3 := rb O3 hb; replace BK101 := kb BK101 hb; replace BK121 := kb BK121 hb; replace HB := bsp HB hb
         (try clear hb)
         (try clear hb2)
         (try clear hk)
         (try clear hi)
         refine hK.out _ _ ⟨bc BK121.out 0, bc BK121.out 1, bc BK121.out 2, bc BK121.out 3, bc BK121.out 4, bc BK121.out 5, bc BK121.out 6⟩ (fun hHeld => ?_); clear hK K
         refine norm_ (a' := ?_) ?_ ?_; rotate_left
         ·show Act.put _ (some 94) _ = _
          simp only [Act.put, sa_, s0_, s1_, i64_w, i32_w]
          rfl
         refine o1 7 (some 96) HT_.out #[tt,tt,tt,tt,tt,tt,tt,tt,ff] fun K hK => ?_
         refine gV Tryd.func64 #[.string t144, .int .i64 x13_97] ?_
         with_reducible refine (XA.word_tongues_6.calls t144 x13_97 t147 _ A119.out).mono ?_
         rintro e w' ⟨rfl, ⟨nd, rfl⟩⟩
         refine ⟨_, rfl, ?_⟩
         refine hK.out _ _ ⟨bc BK121.out 0, bc BK121.out 1, bc BK121.out 2, bc BK121.out 3, bc BK121.out 4, bc BK121.out 5, bc BK121.out 6⟩ (fun hHeld => ?_); clear hK K
         refine norm_ (a' := ?_) ?_ ?_; rotate_left
         ·show Act.put _ (some 96) _ = _
          simp only [Act.put, sa_, s0_, s1_, i64_w, i32_w]
          rfl
         refine o1 8 (some 97) HT_.out #[tt,tt,tt,tt,tt,tt,tt,tt,tt] fun K hK => ?_
         refine gV Tryd.func45 #[.string t147, .pointer (some ⟨gb101, 0, none⟩)] ?_
         with_reducible refine (word_Is_1.calls kj97 t147 gb101 a1 true _ ?_ ?_ A120.out).mono ?_
         exact (blk_cell (blk_st BK101.out) 0).trans rfl
         exact LW.below HLW.out (bes HB.out)
         rintro e w124 ⟨rfl, hb⟩
         refine ⟨_, rfl, ?_⟩; replace O0 := rb O0 hb; replace O1 := rb O1 hb; replace O2 := rb O2 hb; replace O3 := rb O3 hb; replace BK101 := kb BK101 hb; replace BK121 := kb BK121 hb; replace HB := bsp HB hb
         (try clear hb)
         (try clear hb2)
         (try clear hk)
         (try clear hi)
         refine hK.out _ _ ⟨bc BK121.out 0, bc BK121.out 1, bc BK121.out 2, bc BK121.out 3, bc BK121.out 4, bc BK121.out 5, bc BK121.out 6⟩ (fun hHeld => ?_); clear hK K
         refine norm_ (a' := ?_) ?_ ?_; rotate_left
         ·show Act.put _ (some 97) _ = _
          simp only [Act.put, sa_, s0_, s1_, i64_w, i32_w]
          rfl
         refine done_ (done_of HT_.out (by kernel_rfl)) ?_
         try go_wp2
         go_ret
         exact ⟨er, by exact bes HB.out⟩
        replace c121 := Bool.eq_false_iff.mpr c121; subst c121; replace H := inn H
        have H' := am H; clear H
        try go_wp2
        replace O0 := am (Kd.R_drew O0.out); replace O1 := am (Kd.R_drew O1.out); replace O2 := am (Kd.R_drew O2.out); replace O3 := am (Kd.R_drew O3.out); replace BK101 := am (blk_drew BK101.out); replace BK121 := am (blk_drew BK121.out); replace HB := am (below_drew1 HB.out)
        refine start_ (n := 9) (S := fun w' => w'.cell? ⟨gb121, 0, none⟩ = some (.slice Ao30 t106.length co30) ∧ w'.cell? ⟨gb121, 1, none⟩ = some (.slice Ao33 t109.length co33) ∧ w'.cell? ⟨gb121, 2, none⟩ = some (.slice Ao34 t112.length co34) ∧ w'.cell? ⟨gb121, 3, none⟩ = some (.slice Ao35 t115.length co35) ∧ w'.cell? ⟨gb121, 4, none⟩ = some (fnv t118) ∧ w'.cell? ⟨gb121, 5, none⟩ = some (fnv t119) ∧ w'.cell? ⟨gb121, 6, none⟩ = some (.func (.func 64) #[] #[])) (ds := []) #[ff,ff,ff,ff,ff,ff,ff,ff,ff] (by kernel_rfl) rfl rfl ⟨bc BK121.out 0, bc BK121.out 1, bc BK121.out 2, bc BK121.out 3, bc BK121.out 4, bc BK121.out 5, bc BK121.out 6⟩ (fun hHeld => ?_); refine with_tabW word_Is.tab17 word_Is.bits17 (fun HT_ HW_ => ?_)
        generalize wc.drew = w125 at O0 O1 O2 O3 BK101 BK121 HB hHeld ⊢
        refine pv 0 (some 89) HT_.out #[tt,ff,ff,ff,ff,ff,ff,ff,ff] ?_
        refine pv 1 (some 90) HT_.out #[tt,tt,ff,ff,ff,ff,ff,ff,ff] ?_
        refine pv 4 (some 93) HT_.out #[tt,tt,ff,ff,tt,ff,ff,ff,ff] ?_
        refine pv 6 (some 95) HT_.out #[tt,tt,ff,ff,tt,ff,tt,ff,ff] ?_
        refine tu 2 (some 91) ?_ #[tt,tt,tt,ff,tt,ff,tt,ff,ff] rfl rfl (ta HT_.out HW_.out) (fun _ _ _ h => h) (Or.inl ⟨by rfl, ?_⟩) hHeld ?_ ?_ ?_; rotate_left
        ·rintro w' ⟨s0, s1, s2, s3, s4, s5, s6⟩
         go_simp
         with_reducible rfl
        rotate_left; exact sp
        refine tu 3 (some 92) ?_ #[tt,tt,tt,tt,tt,ff,tt,ff,ff] rfl rfl (ta HT_.out HW_.out) (fun _ _ _ h => h) (Or.inl ⟨by rfl, ?_⟩) hHeld ?_ ?_ ?_; rotate_left
        ·rintro w' ⟨s0, s1, s2, s3, s4, s5, s6⟩
         go_simp
         with_reducible rfl
        rotate_left; exact sp
        refine o1 5 (some 94) HT_.out #[tt,tt,tt,tt,tt,tt,tt,ff,ff] fun K hK => ?_
        refine gV Tryd.func47 #[.agg #[.slice Ao30 t106.length co30, .slice Ao33 t109.length co33, .slice Ao34 t112.length co34, .slice Ao35 t115.length co35, fnv t118, fnv t119, .func (.func 64) #[] #[]], .int .i64 x13_97] ?_
        with_reducible refine (XA.word_tongue_small.calls kj97 _ _ t106 _ _ t109 _ _ t112 _ _ t115 t118 t119 (some 64) x13_97 t144 _ ?_ ?_ ?_ ?_ ?_ ?_ ?_ ?_ A107.out).mono ?_
        exact C_st ((Kd.R_reads' O0.out).2.2)
        exact (Kd.R_reads' O0.out).2.1
        exact C_st ((Kd.R_reads' O1.out).2.2)
        exact (Kd.R_reads' O1.out).2.1
        exact C_st ((Kd.R_reads' O2.out).2.2)
        exact (Kd.R_reads' O2.out).2.1
        exact C_st ((Kd.R_reads' O3.out).2.2)
        exact (Kd.R_reads' O3.out).2.1
        rintro e w126 ⟨rfl, hb⟩
        refine ⟨_, rfl, ?_⟩; replace O0 := rb O0 hb; replace O1 := rb O1 hb; replace O2 := rb O2 hb; replace O3 := rb O3 hb; replace BK101 := kb BK101 hb; replace BK121 := kb BK121 hb; replace HB := bsp HB hb
        (try clear hb)
        (try clear hb2)
        (try clear hk)
        (try clear hi)
        refine hK.out _ _ ⟨bc BK121.out 0, bc BK121.out 1, bc BK121.out 2, bc BK121.out 3, bc BK121.out 4, bc BK121.out 5, bc BK121.out 6⟩ (fun hHeld => ?_); clear hK K
        refine norm_ (a' := ?_) ?_ ?_; rotate_left
        ·show Act.put _ (some 94) _ = _
         simp only [Act.put, sa_, s0_, s1_, i64_w, i32_w]
         rfl
        refine o1 7 (some 96) HT_.out #[tt,tt,tt,tt,tt,tt,tt,tt,ff] fun K hK => ?_
        refine gV Tryd.func64 #[.string t144, .int .i64 x13_97] ?_
        with_reducible refine (XA.word_tongues_6.calls t144 x13_97 t147 _ A119.out).mono ?_
        rintro e w' ⟨rfl, ⟨nd, rfl⟩⟩
        refine ⟨_, rfl, ?_⟩
        refine hK.out _ _ ⟨bc BK121.out 0, bc BK121.out 1, bc BK121.out 2, bc BK121.out 3, bc BK121.out 4, bc BK121.out 5, bc BK121.out 6⟩ (fun hHeld => ?_); clear hK K
        refine norm_ (a' := ?_) ?_ ?_; rotate_left
        ·show Act.put _ (some 96) _ = _
         simp only [Act.put, sa_, s0_, s1_, i64_w, i32_w]
         rfl
        refine o1 8 (some 97) HT_.out #[tt,tt,tt,tt,tt,tt,tt,tt,tt] fun K hK => ?_
        refine gV Tryd.func45 #[.string t147, .pointer (some ⟨gb101, 0, none⟩)] ?_
        with_reducible refine (word_Is_1.calls kj97 t147 gb101 a1 false _ ?_ ?_ A120.out).mono ?_
        exact (blk_cell (blk_st BK101.out) 0).trans rfl
        exact LW.below HLW.out (bes HB.out)
        rintro e w127 ⟨rfl, hb⟩
        refine ⟨_, rfl, ?_⟩; replace O0 := rb O0 hb; replace O1 := rb O1 hb; replace O2 := rb O2 hb; replace O3 := rb O3 hb; replace BK101 := kb BK101 hb; replace BK121 := kb BK121 hb; replace HB := bsp HB hb
        (try clear hb)
        (try clear hb2)
        (try clear hk)
        (try clear hi)
        refine hK.out _ _ ⟨bc BK121.out 0, bc BK121.out 1, bc BK121.out 2, bc BK121.out 3, bc BK121.out 4, bc BK121.out 5, bc BK121.out 6⟩ (fun hHeld => ?_); clear hK K
        refine norm_ (a' := ?_) ?_ ?_; rotate_left
        ·show Act.put _ (some 97) _ = _
         simp only [Act.put, sa_, s0_, s1_, i64_w, i32_w]
         rfl
        refine done_ (done_of HT_.out (by kernel_rfl)) ?_
        try go_wp2
        go_roundg kj97
        case measure => have := HJ2.out; have := HJ26.out; have := HK3.out; have := HK4.out; have := HJ97.out; omega
        case rel => exact ⟨(wrap64 (x86_4 + 1)), cd, H', ⟨by have := HJ2.out; have := HJ26.out; have := HK3.out; have := HK4.out; have := HJ97.out; omega⟩, ⟨by exact R_st O0.out⟩, ⟨by exact R_st O1.out⟩, ⟨by exact R_st O2.out⟩, ⟨by exact R_st O3.out⟩, ⟨by exact blk_st BK101.out⟩, ⟨by exact blk_st BK121.out⟩, ⟨by exact bes HB.out⟩⟩
       rw [if_neg c118] at H
       by_cases c128 : t120 = some 67; rotate_left
       ·rw [if_neg c128] at H
        exact absurd H (by simp)
       subst c128; replace H := ip H
       (try simp only [fnv_some]); replace H := bm H; obtain ⟨t149, A129, H⟩ := H; replace A129 := am A129; replace H := bm H; obtain ⟨t150, A130, H⟩ := H; replace A130 := am A130
       by_cases c131 : t150 = true
       ·subst c131
        replace H := ip H
        obtain rfl := Option.some.inj H
        try go_wp2
        replace O0 := am (Kd.R_drew O0.out); replace O1 := am (Kd.R_drew O1.out); replace O2 := am (Kd.R_drew O2.out); replace O3 := am (Kd.R_drew O3.out); replace BK101 := am (blk_drew BK101.out); replace BK121 := am (blk_drew BK121.out); replace HB := am (below_drew1 HB.out)
        refine start_ (n := 9) (S := fun w' => w'.cell? ⟨gb121, 0, none⟩ = some (.slice Ao30 t106.length co30) ∧ w'.cell? ⟨gb121, 1, none⟩ = some (.slice Ao33 t109.length co33) ∧ w'.cell? ⟨gb121, 2, none⟩ = some (.slice Ao34 t112.length co34) ∧ w'.cell? ⟨gb121, 3, none⟩ = some (.slice Ao35 t115.length co35) ∧ w'.cell? ⟨gb121, 4, none⟩ = some (fnv t118) ∧ w'.cell? ⟨gb121, 5, none⟩ = some (fnv t119) ∧ w'.cell? ⟨gb121, 6, none⟩ = some (.func (.func 67) #[] #[])) (ds := []) #[ff,ff,ff,ff,ff,ff,ff,ff,ff] (by kernel_rfl) rfl rfl ⟨bc BK121.out 0, bc BK121.out 1, bc BK121.out 2, bc BK121.out 3, bc BK121.out 4, bc BK121.out 5, bc BK121.out 6⟩ (fun hHeld => ?_); refine with_tabW word_Is.tab17 word_Is.bits17 (fun HT_ HW_ => ?_)
        generalize wc.drew = w132 at O0 O1 O2 O3 BK101 BK121 HB hHeld ⊢
        refine pv 0 (some 89) HT_.out #[tt,ff,ff,ff,ff,ff,ff,ff,ff] ?_
        refine pv 1 (some 90) HT_.out #[tt,tt,ff,ff,ff,ff,ff,ff,ff] ?_
        refine pv 4 (some 93) HT_.out #[tt,tt,ff,ff,tt,ff,ff,ff,ff] ?_
        refine pv 6 (some 95) HT_.out #[tt,tt,ff,ff,tt,ff,tt,ff,ff] ?_
        refine tu 2 (some 91) ?_ #[tt,tt,tt,ff,tt,ff,tt,ff,ff] rfl rfl (ta HT_.out HW_.out) (fun _ _ _ h => h) (Or.inl ⟨by rfl, ?_⟩) hHeld ?_ ?_ ?_; rotate_left
        ·rintro w' ⟨s0, s1, s2, s3, s4, s5, s6⟩
         go_simp
         with_reducible rfl
        rotate_left; exact sp
        refine tu 3 (some 92) ?_ #[tt,tt,tt,tt,tt,ff,tt,ff,ff] rfl rfl (ta HT_.out HW_.out) (fun _ _ _ h => h) (Or.inl ⟨by rfl, ?_⟩) hHeld ?_ ?_ ?_; rotate_left
        ·rintro w' ⟨s0, s1, s2, s3, s4, s5, s6⟩
         go_simp
         with_reducible rfl
        rotate_left; exact sp
        refine o1 5 (some 94) HT_.out #[tt,tt,tt,tt,tt,tt,tt,ff,ff] fun K hK => ?_
        refine gV Tryd.func47 #[.agg #[.slice Ao30 t106.length co30, .slice Ao33 t109.length co33, .slice Ao34 t112.length co34, .slice Ao35 t115.length co35, fnv t118, fnv t119, .func (.func 67) #[] #[]], .int .i64 x13_97] ?_
        with_reducible refine (XA.word_tongue_small.calls kj97 _ _ t106 _ _ t109 _ _ t112 _ _ t115 t118 t119 (some 67) x13_97 t144 _ ?_ ?_ ?_ ?_ ?_ ?_ ?_ ?_ A107.out).mono ?_
        exact C_st ((Kd.R_reads' O0.out).2.2)
        exact (Kd.R_reads' O0.out).2.1
        exact C_st ((Kd.R_reads' O1.out).2.2)
        exact (Kd.R_reads' O1.out).2.1
        exact C_st ((Kd.R_reads' O2.out).2.2)
        exact (Kd.R_reads' O2.out).2.1
        exact C_st ((Kd.R_reads' O3.out).2.2)
        exact (Kd.R_reads' O3.out).2.1
        rintro e w133 ⟨rfl, hb⟩
        refine ⟨_, rfl, ?_⟩; replace O0 := rb O0 hb; replace O1 := rb O1 hb; replace O2 := rb O2 hb; replace O3 := rb O3 hb; replace BK101 := kb BK101 hb; replace BK121 := kb BK121 hb; replace HB := bsp HB hb
        (try clear hb)
        (try clear hb2)
        (try clear hk)
        (try clear hi)
        refine hK.out _ _ ⟨bc BK121.out 0, bc BK121.out 1, bc BK121.out 2, bc BK121.out 3, bc BK121.out 4, bc BK121.out 5, bc BK121.out 6⟩ (fun hHeld => ?_); clear hK K
        refine norm_ (a' := ?_) ?_ ?_; rotate_left
        ·show Act.put _ (some 94) _ = _
         simp only [Act.put, sa_, s0_, s1_, i64_w, i32_w]
         rfl
        refine o1 7 (some 96) HT_.out #[tt,tt,tt,tt,tt,tt,tt,tt,ff] fun K hK => ?_
        refine gV Tryd.func67 #[.string t144, .int .i64 x13_97] ?_
        with_reducible refine (XA.word_tongues_9.calls t144 x13_97 t149 _ A129.out).mono ?_
        rintro e w' ⟨rfl, ⟨nd, rfl⟩⟩
        refine ⟨_, rfl, ?_⟩
        refine hK.out _ _ ⟨bc BK121.out 0, bc BK121.out 1, bc BK121.out 2, bc BK121.out 3, bc BK121.out 4, bc BK121.out 5, bc BK121.out 6⟩ (fun hHeld => ?_); clear hK K
        refine norm_ (a' := ?_) ?_ ?_; rotate_left
        ·show Act.put _ (some 96) _ = _
         simp only [Act.put, sa_, s0_, s1_, i64_w, i32_w]
         rfl
        refine o1 8 (some 97) HT_.out #[tt,tt,tt,tt,tt,tt,tt,tt,tt] fun K hK => ?_
        refine gV Tryd.func45 #[.string t149, .pointer (some ⟨gb101, 0, none⟩)] ?_
        with_reducible refine (word_Is_1.calls kj97 t149 gb101 a1 true _ ?_ ?_ A130.out).mono ?_
        exact (blk_cell (blk_st BK101.out) 0).trans rfl
        exact LW.below HLW.out (bes HB.out)
        rintro e w134 ⟨rfl, hb⟩
        refine ⟨_, rfl, ?_⟩; replace O0 := rb O0 hb; replace O1 := rb O1 hb; replace O2 := rb O2 hb; replace O3 := rb O3 hb; replace BK101 := kb BK101 hb; replace BK121 := kb BK121 hb; replace HB := bsp HB hb
        (try clear hb)
        (try clear hb2)
        (try clear hk)
        (try clear hi)
        refine hK.out _ _ ⟨bc BK121.out 0, bc BK121.out 1, bc BK121.out 2, bc BK121.out 3, bc BK121.out 4, bc BK121.out 5, bc BK121.out 6⟩ (fun hHeld => ?_); clear hK K
        refine norm_ (a' := ?_) ?_ ?_; rotate_left
        ·show Act.put _ (some 97) _ = _
         simp only [Act.put, sa_, s0_, s1_, i64_w, i32_w]
         rfl
        refine done_ (done_of HT_.out (by kernel_rfl)) ?_
        try go_wp2
        go_ret
        exact ⟨er, by exact bes HB.out⟩
       replace c131 := Bool.eq_false_iff.mpr c131; subst c131; replace H := inn H
       have H' := am H; clear H
       try go_wp2
       replace O0 := am (Kd.R_drew O0.out); replace O1 := am (Kd.R_drew O1.out); replace O2 := am (Kd.R_drew O2.out); replace O3 := am (Kd.R_drew O3.out); replace BK101 := am (blk_drew BK101.out); replace BK121 := am (blk_drew BK121.out); replace HB := am (below_drew1 HB.out)
       refine start_ (n := 9) (S := fun w' => w'.cell? ⟨gb121, 0, none⟩ = some (.slice Ao30 t106.length co30) ∧ w'.cell? ⟨gb121, 1, none⟩ = some (.slice Ao33 t109.length co33) ∧ w'.cell? ⟨gb121, 2, none⟩ = some (.slice Ao34 t112.length co34) ∧ w'.cell? ⟨gb121, 3, none⟩ = some (.slice Ao35 t115.length co35) ∧ w'.cell? ⟨gb121, 4, none⟩ = some (fnv t118) ∧ w'.cell? ⟨gb121, 5, none⟩ = some (fnv t119) ∧ w'.cell? ⟨gb121, 6, none⟩ = some (.func (.func 67) #[] #[])) (ds := []) #[ff,ff,ff,ff,ff,ff,ff,ff,ff] (by kernel_rfl) rfl rfl ⟨bc BK121.out 0, bc BK121.out 1, bc BK121.out 2, bc BK121.out 3, bc BK121.out 4, bc BK121.out 5, bc BK121.out 6⟩ (fun hHeld => ?_); refine with_tabW word_Is.tab17 word_Is.bits17 (fun HT_ HW_ => ?_)
       generalize wc.drew = w135 at O0 O1 O2 O3 BK101 BK121 HB hHeld ⊢
       refine pv 0 (some 89) HT_.out #[tt,ff,ff,ff,ff,ff,ff,ff,ff] ?_
       refine pv 1 (some 90) HT_.out #[tt,tt,ff,ff,ff,ff,ff,ff,ff] ?_
       refine pv 4 (some 93) HT_.out #[tt,tt,ff,ff,tt,ff,ff,ff,ff] ?_
       refine pv 6 (some 95) HT_.out #[tt,tt,ff,ff,tt,ff,tt,ff,ff] ?_
       refine tu 2 (some 91) ?_ #[tt,tt,tt,ff,tt,ff,tt,ff,ff] rfl rfl (ta HT_.out HW_.out) (fun _ _ _ h => h) (Or.inl ⟨by rfl, ?_⟩) hHeld ?_ ?_ ?_; rotate_left
       ·rintro w' ⟨s0, s1, s2, s3, s4, s5, s6⟩
        go_simp
        with_reducible rfl
       rotate_left; exact sp
       refine tu 3 (some 92) ?_ #[tt,tt,tt,tt,tt,ff,tt,ff,ff] rfl rfl (ta HT_.out HW_.out) (fun _ _ _ h => h) (Or.inl ⟨by rfl, ?_⟩) hHeld ?_ ?_ ?_; rotate_left
       ·rintro w' ⟨s0, s1, s2, s3, s4, s5, s6⟩
        go_simp
        with_reducible rfl
       rotate_left; exact sp
       refine o1 5 (some 94) HT_.out #[tt,tt,tt,tt,tt,tt,tt,ff,ff] fun K hK => ?_
       refine gV Tryd.func47 #[.agg #[.slice Ao30 t106.length co30, .slice Ao33 t109.length co33, .slice Ao34 t112.length co34, .slice Ao35 t115.length co35, fnv t118, fnv t119, .func (.func 67) #[] #[]], .int .i64 x13_97] ?_
       with_reducible refine (XA.word_tongue_small.calls kj97 _ _ t106 _ _ t109 _ _ t112 _ _ t115 t118 t119 (some 67) x13_97 t144 _ ?_ ?_ ?_ ?_ ?_ ?_ ?_ ?_ A107.out).mono ?_
       exact C_st ((Kd.R_reads' O0.out).2.2)
       exact (Kd.R_reads' O0.out).2.1
       exact C_st ((Kd.R_reads' O1.out).2.2)
       exact (Kd.R_reads' O1.out).2.1
       exact C_st ((Kd.R_reads' O2.out).2.2)
       exact (Kd.R_reads' O2.out).2.1
       exact C_st ((Kd.R_reads' O3.out).2.2)
       exact (Kd.R_reads' O3.out).2.1
       rintro e w136 ⟨rfl, hb⟩
       refine ⟨_, rfl, ?_⟩; replace O0 := rb O0 hb; replace O1 := rb O1 hb; replace O2 := rb O2 hb; replace O3 := rb O3 hb; replace BK101 := kb BK101 hb; replace BK121 := kb BK121 hb; replace HB := bsp HB hb
       (try clear hb)
       (try clear hb2)
       (try clear hk)
       (try clear hi)
       refine hK.out _ _ ⟨bc BK121.out 0, bc BK121.out 1, bc BK121.out 2, bc BK121.out 3, bc BK121.out 4, bc BK121.out 5, bc BK121.out 6⟩ (fun hHeld => ?_); clear hK K
       refine norm_ (a' := ?_) ?_ ?_; rotate_left
       ·show Act.put _ (some 94) _ = _
        simp only [Act.put, sa_, s0_, s1_, i64_w, i32_w]
        rfl
       refine o1 7 (some 96) HT_.out #[tt,tt,tt,tt,tt,tt,tt,tt,ff] fun K hK => ?_
       refine gV Tryd.func67 #[.string t144, .int .i64 x13_97] ?_
       with_reducible refine (XA.word_tongues_9.calls t144 x13_97 t149 _ A129.out).mono ?_
       rintro e w' ⟨rfl, ⟨nd, rfl⟩⟩
       refine ⟨_, rfl, ?_⟩
       refine hK.out _ _ ⟨bc BK121.out 0, bc BK121.out 1, bc BK121.out 2, bc BK121.out 3, bc BK121.out 4, bc BK121.out 5, bc BK121.out 6⟩ (fun hHeld => ?_); clear hK K
       refine norm_ (a' := ?_) ?_ ?_; rotate_left
       ·show Act.put _ (some 96) _ = _
        simp only [Act.put, sa_, s0_, s1_, i64_w, i32_w]
        rfl
       refine o1 8 (some 97) HT_.out #[tt,tt,tt,tt,tt,tt,tt,tt,tt] fun K hK => ?_
       refine gV Tryd.func45 #[.string t149, .pointer (some ⟨gb101, 0, none⟩)] ?_
       with_reducible refine (word_Is_1.calls kj97 t149 gb101 a1 false _ ?_ ?_ A130.out).mono ?_
       exact (blk_cell (blk_st BK101.out) 0).trans rfl
       exact LW.below HLW.out (bes HB.out)
       rintro e w137 ⟨rfl, hb⟩
       refine ⟨_, rfl, ?_⟩; replace O0 := rb O0 hb; replace O1 := rb O1 hb; replace O2 := rb O2 hb; replace O3 := rb O3 hb; replace BK101 := kb BK101 hb; replace BK121 := kb BK121 hb; replace HB := bsp HB hb
       (try clear hb)
       (try clear hb2)
       (try clear hk)
       (try clear hi)
       refine hK.out _ _ ⟨bc BK121.out 0, bc BK121.out 1, bc BK121.out 2, bc BK121.out 3, bc BK121.out 4, bc BK121.out 5, bc BK121.out 6⟩ (fun hHeld => ?_); clear hK K
       refine norm_ (a' := ?_) ?_ ?_; rotate_left
       ·show Act.put _ (some 97) _ = _
        simp only [Act.put, sa_, s0_, s1_, i64_w, i32_w]
        rfl
       refine done_ (done_of HT_.out (by kernel_rfl)) ?_
       try go_wp2
       go_roundg kj97
       case measure => have := HJ2.out; have := HJ26.out; have := HK3.out; have := HK4.out; have := HJ97.out; omega
       case rel => exact ⟨(wrap64 (x86_4 + 1)), cd, H', ⟨by have := HJ2.out; have := HJ26.out; have := HK3.out; have := HK4.out; have := HJ97.out; omega⟩, ⟨by exact R_st O0.out⟩, ⟨by exact R_st O1.out⟩, ⟨by exact R_st O2.out⟩, ⟨by exact R_st O3.out⟩, ⟨by exact blk_st BK101.out⟩, ⟨by exact blk_st BK121.out⟩, ⟨by exact bes HB.out⟩⟩
    rw [if_pos c48] at H
    have c48b0 := dT c48; clear c48; have HC49 := am H; clear H
    go_upto_region 12 with (fail)
    go_cut [84] (fun v84 wc => ∃ (kq : Nat) (x84_48 : Bool), v84 = .bool x84_48 ∧ Aside0 (word_Is.j3 kq x11_3 x84_48 a1 t106 t109 t112 t115 t118 t119 t120 = some r) ∧ Aside0 (kq ≤ k3) ∧ Aside0 (Kd.R Kd.string 9 wc w.heap.size (fun k_ => some k_ ≠ ((.slice Ao33 t109.length co33) : Value).ownBlock ∧ some k_ ≠ ((.slice Ao34 t112.length co34) : Value).ownBlock ∧ some k_ ≠ ((.slice Ao35 t115.length co35) : Value).ownBlock ∧ k_ ≠ gb101) (.slice Ao30 t106.length co30) t106) ∧ Aside0 (Kd.R Kd.string 9 wc w.heap.size (fun k_ => some k_ ≠ ((.slice Ao30 t106.length co30) : Value).ownBlock ∧ some k_ ≠ ((.slice Ao34 t112.length co34) : Value).ownBlock ∧ some k_ ≠ ((.slice Ao35 t115.length co35) : Value).ownBlock ∧ k_ ≠ gb101) (.slice Ao33 t109.length co33) t109) ∧ Aside0 (Kd.R Kd.string 9 wc w.heap.size (fun k_ => some k_ ≠ ((.slice Ao30 t106.length co30) : Value).ownBlock ∧ some k_ ≠ ((.slice Ao33 t109.length co33) : Value).ownBlock ∧ some k_ ≠ ((.slice Ao35 t115.length co35) : Value).ownBlock ∧ k_ ≠ gb101) (.slice Ao34 t112.length co34) t112) ∧ Aside0 (Kd.R Kd.string 9 wc w.heap.size (fun k_ => some k_ ≠ ((.slice Ao30 t106.length co30) : Value).ownBlock ∧ some k_ ≠ ((.slice Ao33 t109.length co33) : Value).ownBlock ∧ some k_ ≠ ((.slice Ao34 t112.length co34) : Value).ownBlock ∧ k_ ≠ gb101) (.slice Ao35 t115.length co35) t115) ∧ Aside0 (wc.heap[gb101]? = some (.cells #[.string a1] 9 (0, 0))) ∧ Aside0 (wc.heap[gb121]? = some (.cells #[(.slice Ao30 t106.length co30), (.slice Ao33 t109.length co33), (.slice Ao34 t112.length co34), (.slice Ao35 t115.length co35), fnv t118, fnv t119, fnv t120] 59 (0, 0))) ∧ Aside0 (Below w.heap.size w wc))
    case first =>
     have H := HC49.out; clear HC49
     by_cases c50 : 1 < (t106.length : Int); rotate_left
     ·rw [if_neg c50] at H
      exact absurd H (by simp)
     rw [if_pos c50] at H
     have c50b0 := dT c50
     have c50b1 : decide (1 < t106.length) = true := decide_eq_true (by omega); clear c50
     (first | rw [c50b0] | (simp only [i64_w, i32_w]; rw [c50b0]) | skip)
     by_cases c51 : t119 = some 58
     ·subst c51
      replace H := ip H
      (try simp only [fnv_some]); replace H := bm H; obtain ⟨t128, A52, H⟩ := H; replace A52 := am A52; replace H := bm H; obtain ⟨t129, A53, H⟩ := H; replace A53 := am A53
      by_cases c54 : t129 = true
      ·subst c54
       replace H := ip H
       have H' := am H; clear H
       try go_wp2
       replace O0 := am (Kd.R_drew O0.out); replace O1 := am (Kd.R_drew O1.out); replace O2 := am (Kd.R_drew O2.out); replace O3 := am (Kd.R_drew O3.out); replace BK101 := am (blk_drew BK101.out); replace BK121 := am (blk_drew BK121.out); replace HB := am (below_drew1 HB.out)
       have p127 : 0 ≤ (1 : Int) := (by omega)
       have q127 : 1 < (t106.length : Int) := of_decide_eq_true (by assumption); obtain ⟨ad127, e127, hx127_0⟩ := Kd.at_string (Kd.R_reads' O0.out).2.2 1 p127 q127
       cases e127
       (try simp only [show (1 : Int).toNat = 1 from rfl, Nat.reduceMul, Nat.reduceEqDiff, Go.Addr.add, ↓reduceIte] at hx127_0)
       have qi127 : (1 < t106.length) = True := eq_true (by omega)
       (try rw [show ((1 : Int)).toNat = 1 from rfl] at hx127_0); replace p127 := eq_true p127; replace q127 := eq_true q127
       refine start_ (n := 20) (S := fun w' => w'.cell? ⟨gb121, 0, none⟩ = some (.slice (some ad127) t106.length co30) ∧ w'.cell? ⟨gb121, 1, none⟩ = some (.slice Ao33 t109.length co33) ∧ w'.cell? ⟨gb121, 2, none⟩ = some (.slice Ao34 t112.length co34) ∧ w'.cell? ⟨gb121, 3, none⟩ = some (.slice Ao35 t115.length co35) ∧ w'.cell? ⟨gb121, 4, none⟩ = some (fnv t118) ∧ w'.cell? ⟨gb121, 5, none⟩ = some (.func (.func 58) #[] #[]) ∧ w'.cell? ⟨gb121, 6, none⟩ = some (fnv t120) ∧ w'.cell? ⟨ad127.block, ad127.off + 1, none⟩ = some (.string (rdOf ByteArray.empty t106 1))) (ds := []) #[ff,ff,ff,ff,ff,ff,ff,ff,ff,ff,ff,ff,ff,ff,ff,ff,ff,ff,ff,ff] (by kernel_rfl) rfl rfl ⟨bc BK121.out 0, bc BK121.out 1, bc BK121.out 2, bc BK121.out 3, bc BK121.out 4, bc BK121.out 5, bc BK121.out 6, hx127_0⟩ (fun hHeld => ?_); refine with_tabW word_Is.tab12 word_Is.bits12 (fun HT_ HW_ => ?_)
       generalize wr.drew = w55 at O0 O1 O2 O3 BK101 BK121 HB hx127_0 hHeld ⊢
       refine pv 0 (some 65) HT_.out #[tt,ff,ff,ff,ff,ff,ff,ff,ff,ff,ff,ff,ff,ff,ff,ff,ff,ff,ff,ff] ?_
       refine pv 1 (some 66) HT_.out #[tt,tt,ff,ff,ff,ff,ff,ff,ff,ff,ff,ff,ff,ff,ff,ff,ff,ff,ff,ff] ?_
       refine pv 4 (some 69) HT_.out #[tt,tt,ff,ff,tt,ff,ff,ff,ff,ff,ff,ff,ff,ff,ff,ff,ff,ff,ff,ff] ?_
       refine pv 5 (some 70) HT_.out #[tt,tt,ff,ff,tt,tt,ff,ff,ff,ff,ff,ff,ff,ff,ff,ff,ff,ff,ff,ff] ?_
       refine tu 2 (some 67) ?_ #[tt,tt,tt,ff,tt,tt,ff,ff,ff,ff,ff,ff,ff,ff,ff,ff,ff,ff,ff,ff] rfl rfl (ta HT_.out HW_.out) (fun _ _ _ h => h) (Or.inl ⟨by rfl, ?_⟩) hHeld ?_ ?_ ?_; rotate_left
       ·rintro w' ⟨s0, s1, s2, s3, s4, s5, s6, s7⟩
        go_simp
        with_reducible rfl
       rotate_left; exact sp
       refine tu 3 (some 68) ?_ #[tt,tt,tt,tt,tt,tt,ff,ff,ff,ff,ff,ff,ff,ff,ff,ff,ff,ff,ff,ff] rfl rfl (ta HT_.out HW_.out) (fun _ _ _ h => h) (Or.inl ⟨by rfl, ?_⟩) hHeld ?_ ?_ ?_; rotate_left
       ·rintro w' ⟨s0, s1, s2, s3, s4, s5, s6, s7⟩
        go_simp
        with_reducible rfl
       rotate_left; exact sp
       refine tu 6 (some 71) ?_ #[tt,tt,tt,tt,tt,tt,tt,ff,ff,ff,ff,ff,ff,ff,ff,ff,ff,ff,ff,ff] rfl rfl (ta HT_.out HW_.out) (fun _ _ _ h => h) (Or.inl ⟨by rfl, ?_⟩) hHeld ?_ ?_ ?_; rotate_left
       ·rintro w' ⟨s0, s1, s2, s3, s4, s5, s6, s7⟩
        go_simp
        with_reducible rfl
       rotate_left; exact sp
       refine pv 7 (some 72) HT_.out #[tt,tt,tt,tt,tt,tt,tt,tt,ff,ff,ff,ff,ff,ff,ff,ff,ff,ff,ff,ff] ?_
       refine tu 8 (some 73) ?_ #[tt,tt,tt,tt,tt,tt,tt,tt,tt,ff,ff,ff,ff,ff,ff,ff,ff,ff,ff,ff] rfl rfl (ta HT_.out HW_.out) (fun _ _ _ h => h) (Or.inl ⟨by rfl, ?_⟩) hHeld ?_ ?_ ?_; rotate_left
       ·rintro w' ⟨s0, s1, s2, s3, s4, s5, s6, s7⟩
        go_simp
        with_reducible rfl
       rotate_left; exact sp
       refine o1 9 (some 74) HT_.out #[tt,tt,tt,tt,tt,tt,tt,tt,tt,tt,ff,ff,ff,ff,ff,ff,ff,ff,ff,ff] fun K hK => ?_
       refine gV Tryd.func58 #[.agg #[.slice (some ad127) t106.length co30, .slice Ao33 t109.length co33, .slice Ao34 t112.length co34, .slice Ao35 t115.length co35, fnv t118, .func (.func 58) #[] #[], fnv t120], .int .i64 x11_3, .string (rdOf ByteArray.empty t106 1)] ?_
       with_reducible refine (XA.word_tongues_2.calls _ _ t106 _ _ t109 _ _ t112 _ _ t115 t118 (some 58) t120 x11_3 (rdOf ByteArray.empty t106 1) t128 _ ?_ ?_ ?_ ?_ ?_ ?_ ?_ ?_ A52.out).mono ?_
       exact C_st ((Kd.R_reads' O0.out).2.2)
       exact (Kd.R_reads' O0.out).2.1
       exact C_st ((Kd.R_reads' O1.out).2.2)
       exact (Kd.R_reads' O1.out).2.1
       exact C_st ((Kd.R_reads' O2.out).2.2)
       exact (Kd.R_reads' O2.out).2.1
       exact C_st ((Kd.R_reads' O3.out).2.2)
       exact (Kd.R_reads' O3.out).2.1
       rintro e w56 ⟨rfl, hb⟩; have HS7_ := (hb.cell (World.block_lt_of_cell? _ _ (hHeld.2.2.2.2.2.2.2))).trans (hHeld.2.2.2.2.2.2.2)
       refine ⟨_, rfl, ?_⟩; replace O0 := rb O0 hb; replace O1 := rb O1 hb; replace O2 := rb O2 hb; replace O3 := rb O3 hb; replace BK101 := kb BK101 hb; replace BK121 := kb BK121 hb; replace HB := bsp HB hb
       (try clear hb)
       (try clear hb2)
       (try clear hk)
       (try clear hi)
       refine hK.out _ _ ⟨bc BK121.out 0, bc BK121.out 1, bc BK121.out 2, bc BK121.out 3, bc BK121.out 4, bc BK121.out 5, bc BK121.out 6, HS7_⟩ (fun hHeld => ?_); clear hK K
       refine norm_ (a' := ?_) ?_ ?_; rotate_left
       ·show Act.put _ (some 74) _ = _
        simp only [Act.put, sa_, s0_, s1_, i64_w, i32_w]
        rfl
       refine o1 10 (some 75) HT_.out #[tt,tt,tt,tt,tt,tt,tt,tt,tt,tt,tt,ff,ff,ff,ff,ff,ff,ff,ff,ff] fun K hK => ?_
       refine gV Tryd.func45 #[.string t128, .pointer (some ⟨gb101, 0, none⟩)] ?_
       with_reducible refine (word_Is_1.calls k3 t128 gb101 a1 true _ ?_ ?_ A53.out).mono ?_
       exact (blk_cell (blk_st BK101.out) 0).trans rfl
       exact LW.below HLW.out (bes HB.out)
       rintro e w57 ⟨rfl, hb⟩; have HS7_ := (hb.cell (World.block_lt_of_cell? _ _ (hHeld.2.2.2.2.2.2.2))).trans (hHeld.2.2.2.2.2.2.2)
       refine ⟨_, rfl, ?_⟩; replace O0 := rb O0 hb; replace O1 := rb O1 hb; replace O2 := rb O2 hb; replace O3 := rb O3 hb; replace BK101 := kb BK101 hb; replace BK121 := kb BK121 hb; replace HB := bsp HB hb
       (try clear hb)
       (try clear hb2)
       (try clear hk)
       (try clear hi)
       refine hK.out _ _ ⟨bc BK121.out 0, bc BK121.out 1, bc BK121.out 2, bc BK121.out 3, bc BK121.out 4, bc BK121.out 5, bc BK121.out 6, HS7_⟩ (fun hHeld => ?_); clear hK K
       refine norm_ (a' := ?_) ?_ ?_; rotate_left
       ·show Act.put _ (some 75) _ = _
        simp only [Act.put, sa_, s0_, s1_, i64_w, i32_w]
        rfl
       refine pv 11 (some 76) HT_.out #[tt,tt,tt,tt,tt,tt,tt,tt,tt,tt,tt,tt,ff,ff,ff,ff,ff,ff,ff,ff] ?_
       refine pn 12 (some 77) HT_.out #[tt,tt,tt,tt,tt,tt,tt,tt,tt,tt,tt,tt,tt,ff,ff,ff,ff,ff,ff,ff] ?_
       refine pn 13 (some 78) HT_.out #[tt,tt,tt,tt,tt,tt,tt,tt,tt,tt,tt,tt,tt,tt,ff,ff,ff,ff,ff,ff] ?_
       refine pn 14 (some 79) HT_.out #[tt,tt,tt,tt,tt,tt,tt,tt,tt,tt,tt,tt,tt,tt,tt,ff,ff,ff,ff,ff] ?_
       refine pn 15 (some 80) HT_.out #[tt,tt,tt,tt,tt,tt,tt,tt,tt,tt,tt,tt,tt,tt,tt,tt,ff,ff,ff,ff] ?_
       refine pn 16 (some 81) HT_.out #[tt,tt,tt,tt,tt,tt,tt,tt,tt,tt,tt,tt,tt,tt,tt,tt,tt,ff,ff,ff] ?_
       refine pn 17 (some 82) HT_.out #[tt,tt,tt,tt,tt,tt,tt,tt,tt,tt,tt,tt,tt,tt,tt,tt,tt,tt,ff,ff] ?_
       refine pn 18 (some 83) HT_.out #[tt,tt,tt,tt,tt,tt,tt,tt,tt,tt,tt,tt,tt,tt,tt,tt,tt,tt,tt,ff] ?_
       refine pv 19 (some 84) HT_.out #[tt,tt,tt,tt,tt,tt,tt,tt,tt,tt,tt,tt,tt,tt,tt,tt,tt,tt,tt,tt] ?_
       refine done_ (done_of HT_.out (by kernel_rfl)) ?_
       try go_wp2
       go_meet
       case rel => exact ⟨_, (true), cd, H', ⟨by have := HJ2.out; have := HJ26.out; have := HK3.out; first | omega | exact Nat.le_refl _⟩, ⟨by exact R_st O0.out⟩, ⟨by exact R_st O1.out⟩, ⟨by exact R_st O2.out⟩, ⟨by exact R_st O3.out⟩, ⟨by exact blk_st BK101.out⟩, ⟨by exact blk_st BK121.out⟩, ⟨by exact bes HB.out⟩⟩
      replace c54 := Bool.eq_false_iff.mpr c54; subst c54; replace H := inn H
      by_cases c58 : t118 = some 57; rotate_left
      ·rw [if_neg c58] at H
       exact absurd H (by simp)
      subst c58; replace H := ip H
      (try simp only [fnv_some]); replace H := bm H; obtain ⟨t130, A59, H⟩ := H; replace A59 := am A59; replace H := bm H; obtain ⟨t131, A60, H⟩ := H; replace A60 := am A60
      have H' := am H; clear H
      try go_wp2
      replace O0 := am (Kd.R_drew O0.out); replace O1 := am (Kd.R_drew O1.out); replace O2 := am (Kd.R_drew O2.out); replace O3 := am (Kd.R_drew O3.out); replace BK101 := am (blk_drew BK101.out); replace BK121 := am (blk_drew BK121.out); replace HB := am (below_drew1 HB.out)
      have p127 : 0 ≤ (1 : Int) := (by omega)
      have q127 : 1 < (t106.length : Int) := of_decide_eq_true (by assumption); obtain ⟨ad127, e127, hx127_0⟩ := Kd.at_string (Kd.R_reads' O0.out).2.2 1 p127 q127
      cases e127
      (try simp only [show (1 : Int).toNat = 1 from rfl, Nat.reduceMul, Nat.reduceEqDiff, Go.Addr.add, ↓reduceIte] at hx127_0)
      have qi127 : (1 < t106.length) = True := eq_true (by omega)
      (try rw [show ((1 : Int)).toNat = 1 from rfl] at hx127_0); replace p127 := eq_true p127; replace q127 := eq_true q127
      refine start_ (n := 20) (S := fun w' => w'.cell? ⟨gb121, 0, none⟩ = some (.slice (some ad127) t106.length co30) ∧ w'.cell? ⟨gb121, 1, none⟩ = some (.slice Ao33 t109.length co33) ∧ w'.cell? ⟨gb121, 2, none⟩ = some (.slice Ao34 t112.length co34) ∧ w'.cell? ⟨gb121, 3, none⟩ = some (.slice Ao35 t115.length co35) ∧ w'.cell? ⟨gb121, 4, none⟩ = some (.func (.func 57) #[] #[]) ∧ w'.cell? ⟨gb121, 5, none⟩ = some (.func (.func 58) #[] #[]) ∧ w'.cell? ⟨gb121, 6, none⟩ = some (fnv t120) ∧ w'.cell? ⟨ad127.block, ad127.off + 1, none⟩ = some (.string (rdOf ByteArray.empty t106 1))) (ds := []) #[ff,ff,ff,ff,ff,ff,ff,ff,ff,ff,ff,ff,ff,ff,ff,ff,ff,ff,ff,ff] (by kernel_rfl) rfl rfl ⟨bc BK121.out 0, bc BK121.out 1, bc BK121.out 2, bc BK121.out 3, bc BK121.out 4, bc BK121.out 5, bc BK121.out 6, hx127_0⟩ (fun hHeld => ?_); refine with_tabW word_Is.tab12 word_Is.bits12 (fun HT_ HW_ => ?_)
      generalize wr.drew = w61 at O0 O1 O2 O3 BK101 BK121 HB hx127_0 hHeld ⊢
      refine pv 0 (some 65) HT_.out #[tt,ff,ff,ff,ff,ff,ff,ff,ff,ff,ff,ff,ff,ff,ff,ff,ff,ff,ff,ff] ?_
      refine pv 1 (some 66) HT_.out #[tt,tt,ff,ff,ff,ff,ff,ff,ff,ff,ff,ff,ff,ff,ff,ff,ff,ff,ff,ff] ?_
      refine pv 4 (some 69) HT_.out #[tt,tt,ff,ff,tt,ff,ff,ff,ff,ff,ff,ff,ff,ff,ff,ff,ff,ff,ff,ff] ?_
      refine pv 5 (some 70) HT_.out #[tt,tt,ff,ff,tt,tt,ff,ff,ff,ff,ff,ff,ff,ff,ff,ff,ff,ff,ff,ff] ?_
      refine tu 2 (some 67) ?_ #[tt,tt,tt,ff,tt,tt,ff,ff,ff,ff,ff,ff,ff,ff,ff,ff,ff,ff,ff,ff] rfl rfl (ta HT_.out HW_.out) (fun _ _ _ h => h) (Or.inl ⟨by rfl, ?_⟩) hHeld ?_ ?_ ?_; rotate_left
      ·rintro w' ⟨s0, s1, s2, s3, s4, s5, s6, s7⟩
       go_simp
       with_reducible rfl
      rotate_left; exact sp
      refine tu 3 (some 68) ?_ #[tt,tt,tt,tt,tt,tt,ff,ff,ff,ff,ff,ff,ff,ff,ff,ff,ff,ff,ff,ff] rfl rfl (ta HT_.out HW_.out) (fun _ _ _ h => h) (Or.inl ⟨by rfl, ?_⟩) hHeld ?_ ?_ ?_; rotate_left
      ·rintro w' ⟨s0, s1, s2, s3, s4, s5, s6, s7⟩
       go_simp
       with_reducible rfl
      rotate_left; exact sp
      refine tu 6 (some 71) ?_ #[tt,tt,tt,tt,tt,tt,tt,ff,ff,ff,ff,ff,ff,ff,ff,ff,ff,ff,ff,ff] rfl rfl (ta HT_.out HW_.out) (fun _ _ _ h => h) (Or.inl ⟨by rfl, ?_⟩) hHeld ?_ ?_ ?_; rotate_left
      ·rintro w' ⟨s0, s1, s2, s3, s4, s5, s6, s7⟩
       go_simp
       with_reducible rfl
      rotate_left; exact sp
      refine pv 7 (some 72) HT_.out #[tt,tt,tt,tt,tt,tt,tt,tt,ff,ff,ff,ff,ff,ff,ff,ff,ff,ff,ff,ff] ?_
      refine tu 8 (some 73) ?_ #[tt,tt,tt,tt,tt,tt,tt,tt,tt,ff,ff,ff,ff,ff,ff,ff,ff,ff,ff,ff] rfl rfl (ta HT_.out HW_.out) (fun _ _ _ h => h) (Or.inl ⟨by rfl, ?_⟩) hHeld ?_ ?_ ?_; rotate_left
      ·rintro w' ⟨s0, s1, s2, s3, s4, s5, s6, s7⟩
       go_simp
       with_reducible rfl
      rotate_left; exact sp
      refine o1 9 (some 74) HT_.out #[tt,tt,tt,tt,tt,tt,tt,tt,tt,tt,ff,ff,ff,ff,ff,ff,ff,ff,ff,ff] fun K hK => ?_
      refine gV Tryd.func58 #[.agg #[.slice (some ad127) t106.length co30, .slice Ao33 t109.length co33, .slice Ao34 t112.length co34, .slice Ao35 t115.length co35, .func (.func 57) #[] #[], .func (.func 58) #[] #[], fnv t120], .int .i64 x11_3, .string (rdOf ByteArray.empty t106 1)] ?_
      with_reducible refine (XA.word_tongues_2.calls _ _ t106 _ _ t109 _ _ t112 _ _ t115 (some 57) (some 58) t120 x11_3 (rdOf ByteArray.empty t106 1) t128 _ ?_ ?_ ?_ ?_ ?_ ?_ ?_ ?_ A52.out).mono ?_
      exact C_st ((Kd.R_reads' O0.out).2.2)
      exact (Kd.R_reads' O0.out).2.1
      exact C_st ((Kd.R_reads' O1.out).2.2)
      exact (Kd.R_reads' O1.out).2.1
      exact C_st ((Kd.R_reads' O2.out).2.2)
      exact (Kd.R_reads' O2.out).2.1
      exact C_st ((Kd.R_reads' O3.out).2.2)
      exact (Kd.R_reads' O3.out).2.1
      rintro e w62 ⟨rfl, hb⟩; have HS7_ := (hb.cell (World.block_lt_of_cell? _ _ (hHeld.2.2.2.2.2.2.2))).trans (hHeld.2.2.2.2.2.2.2)
      refine ⟨_, rfl, ?_⟩; replace O0 := rb O0 hb; replace O1 := rb O1 hb; replace O2 := rb O2 hb; replace O3 := rb O3 hb; replace BK101 := kb BK101 hb; replace BK121 := kb BK121 hb; replace HB := bsp HB hb
      (try clear hb)
      (try clear hb2)
      (try clear hk)
      (try clear hi)
      refine hK.out _ _ ⟨bc BK121.out 0, bc BK121.out 1, bc BK121.out 2, bc BK121.out 3, bc BK121.out 4, bc BK121.out 5, bc BK121.out 6, HS7_⟩ (fun hHeld => ?_); clear hK K
      refine norm_ (a' := ?_) ?_ ?_; rotate_left
      ·show Act.put _ (some 74) _ = _
       simp only [Act.put, sa_, s0_, s1_, i64_w, i32_w]
       rfl
      refine o1 10 (some 75) HT_.out #[tt,tt,tt,tt,tt,tt,tt,tt,tt,tt,tt,ff,ff,ff,ff,ff,ff,ff,ff,ff] fun K hK => ?_
      refine gV Tryd.func45 #[.string t128, .pointer (some ⟨gb101, 0, none⟩)] ?_
      with_reducible refine (word_Is_1.calls k3 t128 gb101 a1 false _ ?_ ?_ A53.out).mono ?_
      exact (blk_cell (blk_st BK101.out) 0).trans rfl
      exact LW.below HLW.out (bes HB.out)
      rintro e w63 ⟨rfl, hb⟩; have HS7_ := (hb.cell (World.block_lt_of_cell? _ _ (hHeld.2.2.2.2.2.2.2))).trans (hHeld.2.2.2.2.2.2.2)
      refine ⟨_, rfl, ?_⟩; replace O0 := rb O0 hb; replace O1 := rb O1 hb; replace O2 := rb O2 hb; replace O3 := rb O3 hb; replace BK101 := kb BK101 hb; replace BK121 := kb BK121 hb; replace HB := bsp HB hb
      (try clear hb)
      (try clear hb2)
      (try clear hk)
      (try clear hi)
      refine hK.out _ _ ⟨bc BK121.out 0, bc BK121.out 1, bc BK121.out 2, bc BK121.out 3, bc BK121.out 4, bc BK121.out 5, bc BK121.out 6, HS7_⟩ (fun hHeld => ?_); clear hK K
      refine norm_ (a' := ?_) ?_ ?_; rotate_left
      ·show Act.put _ (some 75) _ = _
       simp only [Act.put, sa_, s0_, s1_, i64_w, i32_w]
       rfl
      refine pv 11 (some 76) HT_.out #[tt,tt,tt,tt,tt,tt,tt,tt,tt,tt,tt,tt,ff,ff,ff,ff,ff,ff,ff,ff] ?_
      refine pv 12 (some 77) HT_.out #[tt,tt,tt,tt,tt,tt,tt,tt,tt,tt,tt,tt,tt,ff,ff,ff,ff,ff,ff,ff] ?_
      refine pv 13 (some 78) HT_.out #[tt,tt,tt,tt,tt,tt,tt,tt,tt,tt,tt,tt,tt,tt,ff,ff,ff,ff,ff,ff] ?_
      refine pv 16 (some 81) HT_.out #[tt,tt,tt,tt,tt,tt,tt,tt,tt,tt,tt,tt,tt,tt,ff,ff,tt,ff,ff,ff] ?_
      refine tu 14 (some 79) ?_ #[tt,tt,tt,tt,tt,tt,tt,tt,tt,tt,tt,tt,tt,tt,tt,ff,tt,ff,ff,ff] rfl rfl (ta HT_.out HW_.out) (fun _ _ _ h => h) (Or.inl ⟨by rfl, ?_⟩) hHeld ?_ ?_ ?_; rotate_left
      ·rintro w' ⟨s0, s1, s2, s3, s4, s5, s6, s7⟩
       go_simp
       with_reducible rfl
      rotate_left; exact sp
      refine tu 15 (some 80) ?_ #[tt,tt,tt,tt,tt,tt,tt,tt,tt,tt,tt,tt,tt,tt,tt,tt,tt,ff,ff,ff] rfl rfl (ta HT_.out HW_.out) (fun _ _ _ h => h) (Or.inl ⟨by rfl, ?_⟩) hHeld ?_ ?_ ?_; rotate_left
      ·rintro w' ⟨s0, s1, s2, s3, s4, s5, s6, s7⟩
       go_simp
       with_reducible rfl
      rotate_left; exact sp
      refine o1 17 (some 82) HT_.out #[tt,tt,tt,tt,tt,tt,tt,tt,tt,tt,tt,tt,tt,tt,tt,tt,tt,tt,ff,ff] fun K hK => ?_
      refine gV Tryd.func57 #[.agg #[.slice (some ad127) t106.length co30, .slice Ao33 t109.length co33, .slice Ao34 t112.length co34, .slice Ao35 t115.length co35, .func (.func 57) #[] #[], .func (.func 58) #[] #[], fnv t120], .int .i64 1, .int .i64 x11_3] ?_
      with_reducible refine (XA.word_tongues_1.calls _ _ t106 _ _ t109 _ _ t112 _ _ t115 (some 57) (some 58) t120 1 x11_3 t130 _ ?_ ?_ ?_ ?_ ?_ ?_ ?_ ?_ A59.out).mono ?_
      exact C_st ((Kd.R_reads' O0.out).2.2)
      exact (Kd.R_reads' O0.out).2.1
      exact C_st ((Kd.R_reads' O1.out).2.2)
      exact (Kd.R_reads' O1.out).2.1
      exact C_st ((Kd.R_reads' O2.out).2.2)
      exact (Kd.R_reads' O2.out).2.1
      exact C_st ((Kd.R_reads' O3.out).2.2)
      exact (Kd.R_reads' O3.out).2.1
      rintro e w64 ⟨rfl, hb⟩; have HS7_ := (hb.cell (World.block_lt_of_cell? _ _ (hHeld.2.2.2.2.2.2.2))).trans (hHeld.2.2.2.2.2.2.2)
      refine ⟨_, rfl, ?_⟩; replace O0 := rb O0 hb; replace O1 := rb O1 hb; replace O2 := rb O2 hb; replace O3 := rb O3 hb; replace BK101 := kb BK101 hb; replace BK121 := kb BK121 hb; replace HB := bsp HB hb
      (try clear hb)
      (try clear hb2)
      (try clear hk)
      (try clear hi)
      refine hK.out _ _ ⟨bc BK121.out 0, bc BK121.out 1, bc BK121.out 2, bc BK121.out 3, bc BK121.out 4, bc BK121.out 5, bc BK121.out 6, HS7_⟩ (fun hHeld => ?_); clear hK K
      refine norm_ (a' := ?_) ?_ ?_; rotate_left
      ·show Act.put _ (some 82) _ = _
       simp only [Act.put, sa_, s0_, s1_, i64_w, i32_w]
       rfl
      refine o1 18 (some 83) HT_.out #[tt,tt,tt,tt,tt,tt,tt,tt,tt,tt,tt,tt,tt,tt,tt,tt,tt,tt,tt,ff] fun K hK => ?_
      refine gV Tryd.func45 #[.string t130, .pointer (some ⟨gb101, 0, none⟩)] ?_
      with_reducible refine (word_Is_1.calls k3 t130 gb101 a1 t131 _ ?_ ?_ A60.out).mono ?_
      exact (blk_cell (blk_st BK101.out) 0).trans rfl
      exact LW.below HLW.out (bes HB.out)
      rintro e w65 ⟨rfl, hb⟩; have HS7_ := (hb.cell (World.block_lt_of_cell? _ _ (hHeld.2.2.2.2.2.2.2))).trans (hHeld.2.2.2.2.2.2.2)
      refine ⟨_, rfl, ?_⟩; replace O0 := rb O0 hb; replace O1 := rb O1 hb; replace O2 := rb O2 hb; replace O3 := rb O3 hb; replace BK101 := kb BK101 hb; replace BK121 := kb BK121 hb; replace HB := bsp HB hb
      (try clear hb)
      (try clear hb2)
      (try clear hk)
      (try clear hi)
      refine hK.out _ _ ⟨bc BK121.out 0, bc BK121.out 1, bc BK121.out 2, bc BK121.out 3, bc BK121.out 4, bc BK121.out 5, bc BK121.out 6, HS7_⟩ (fun hHeld => ?_); clear hK K
      refine norm_ (a' := ?_) ?_ ?_; rotate_left
      ·show Act.put _ (some 83) _ = _
       simp only [Act.put, sa_, s0_, s1_, i64_w, i32_w]
       rfl
      refine pv 19 (some 84) HT_.out #[tt,tt,tt,tt,tt,tt,tt,tt,tt,tt,tt,tt,tt,tt,tt,tt,tt,tt,tt,tt] ?_
      refine done_ (done_of HT_.out (by kernel_rfl)) ?_
      try go_wp2
      go_meet
      case rel => exact ⟨_, (t131), cd, H', ⟨by have := HJ2.out; have := HJ26.out; have := HK3.out; first | omega | exact Nat.le_refl _⟩, ⟨by exact R_st O0.out⟩, ⟨by exact R_st O1.out⟩, ⟨by exact R_st O2.out⟩, ⟨by exact R_st O3.out⟩, ⟨by exact blk_st BK101.out⟩, ⟨by exact blk_st BK121.out⟩, ⟨by exact bes HB.out⟩⟩
     rw [if_neg c51] at H
     by_cases c66 : t119 = some 63
     ·subst c66
      replace H := ip H
      (try simp only [fnv_some]); replace H := bm H; obtain ⟨t132, A67, H⟩ := H; replace A67 := am A67; replace H := bm H; obtain ⟨t133, A68, H⟩ := H; replace A68 := am A68
      by_cases c69 : t133 = true
      ·subst c69
       replace H := ip H
       have H' := am H; clear H
       try go_wp2
       replace O0 := am (Kd.R_drew O0.out); replace O1 := am (Kd.R_drew O1.out); replace O2 := am (Kd.R_drew O2.out); replace O3 := am (Kd.R_drew O3.out); replace BK101 := am (blk_drew BK101.out); replace BK121 := am (blk_drew BK121.out); replace HB := am (below_drew1 HB.out)
       have p127 : 0 ≤ (1 : Int) := (by omega)
       have q127 : 1 < (t106.length : Int) := of_decide_eq_true (by assumption); obtain ⟨ad127, e127, hx127_0⟩ := Kd.at_string (Kd.R_reads' O0.out).2.2 1 p127 q127
       cases e127
       (try simp only [show (1 : Int).toNat = 1 from rfl, Nat.reduceMul, Nat.reduceEqDiff, Go.Addr.add, ↓reduceIte] at hx127_0)
       have qi127 : (1 < t106.length) = True := eq_true (by omega)
       (try rw [show ((1 : Int)).toNat = 1 from rfl] at hx127_0); replace p127 := eq_true p127; replace q127 := eq_true q127
       refine start_ (n := 20) (S := fun w' => w'.cell? ⟨gb121, 0, none⟩ = some (.slice (some ad127) t106.length co30) ∧ w'.cell? ⟨gb121, 1, none⟩ = some (.slice Ao33 t109.length co33) ∧ w'.cell? ⟨gb121, 2, none⟩ = some (.slice Ao34 t112.length co34) ∧ w'.cell? ⟨gb121, 3, none⟩ = some (.slice Ao35 t115.length co35) ∧ w'.cell? ⟨gb121, 4, none⟩ = some (fnv t118) ∧ w'.cell? ⟨gb121, 5, none⟩ = some (.func (.func 63) #[] #[]) ∧ w'.cell? ⟨gb121, 6, none⟩ = some (fnv t120) ∧ w'.cell? ⟨ad127.block, ad127.off + 1, none⟩ = some (.string (rdOf ByteArray.empty t106 1))) (ds := []) #[ff,ff,ff,ff,ff,ff,ff,ff,ff,ff,ff,ff,ff,ff,ff,ff,ff,ff,ff,ff] (by kernel_rfl) rfl rfl ⟨bc BK121.out 0, bc BK121.out 1, bc BK121.out 2, bc BK121.out 3, bc BK121.out 4, bc BK121.out 5, bc BK121.out 6, hx127_0⟩ (fun hHeld => ?_); refine with_tabW word_Is.tab12 word_Is.bits12 (fun HT_ HW_ => ?_)
       generalize wr.drew = w70 at O0 O1 O2 O3 BK101 BK121 HB hx127_0 hHeld ⊢
       refine pv 0 (some 65) HT_.out #[tt,ff,ff,ff,ff,ff,ff,ff,ff,ff,ff,ff,ff,ff,ff,ff,ff,ff,ff,ff] ?_
       refine pv 1 (some 66) HT_.out #[tt,tt,ff,ff,ff,ff,ff,ff,ff,ff,ff,ff,ff,ff,ff,ff,ff,ff,ff,ff] ?_
       refine pv 4 (some 69) HT_.out #[tt,tt,ff,ff,tt,ff,ff,ff,ff,ff,ff,ff,ff,ff,ff,ff,ff,ff,ff,ff] ?_
       refine pv 5 (some 70) HT_.out #[tt,tt,ff,ff,tt,tt,ff,ff,ff,ff,ff,ff,ff,ff,ff,ff,ff,ff,ff,ff] ?_
       refine tu 2 (some 67) ?_ #[tt,tt,tt,ff,tt,tt,ff,ff,ff,ff,ff,ff,ff,ff,ff,ff,ff,ff,ff,ff] rfl rfl (ta HT_.out HW_.out) (fun _ _ _ h => h) (Or.inl ⟨by rfl, ?_⟩) hHeld ?_ ?_ ?_; rotate_left
       ·rintro w' ⟨s0, s1, s2, s3, s4, s5, s6, s7⟩
        go_simp
        with_reducible rfl
       rotate_left; exact sp
       refine tu 3 (some 68) ?_ #[tt,tt,tt,tt,tt,tt,ff,ff,ff,ff,ff,ff,ff,ff,ff,ff,ff,ff,ff,ff] rfl rfl (ta HT_.out HW_.out) (fun _ _ _ h => h) (Or.inl ⟨by rfl, ?_⟩) hHeld ?_ ?_ ?_; rotate_left
       ·rintro w' ⟨s0, s1, s2, s3, s4, s5, s6, s7⟩
        go_simp
        with_reducible rfl
       rotate_left; exact sp
       refine tu 6 (some 71) ?_ #[tt,tt,tt,tt,tt,tt,tt,ff,ff,ff,ff,ff,ff,ff,ff,ff,ff,ff,ff,ff] rfl rfl (ta HT_.out HW_.out) (fun _ _ _ h => h) (Or.inl ⟨by rfl, ?_⟩) hHeld ?_ ?_ ?_; rotate_left
       ·rintro w' ⟨s0, s1, s2, s3, s4, s5, s6, s7⟩
        go_simp
        with_reducible rfl
       rotate_left; exact sp
       refine pv 7 (some 72) HT_.out #[tt,tt,tt,tt,tt,tt,tt,tt,ff,ff,ff,ff,ff,ff,ff,ff,ff,ff,ff,ff] ?_
       refine tu 8 (some 73) ?_ #[tt,tt,tt,tt,tt,tt,tt,tt,tt,ff,ff,ff,ff,ff,ff,ff,ff,ff,ff,ff] rfl rfl (ta HT_.out HW_.out) (fun _ _ _ h => h) (Or.inl ⟨by rfl, ?_⟩) hHeld ?_ ?_ ?_; rotate_left
       ·rintro w' ⟨s0, s1, s2, s3, s4, s5, s6, s7⟩
        go_simp
        with_reducible rfl
       rotate_left; exact sp
       refine o1 9 (some 74) HT_.out #[tt,tt,tt,tt,tt,tt,tt,tt,tt,tt,ff,ff,ff,ff,ff,ff,ff,ff,ff,ff] fun K hK => ?_
       refine gV Tryd.func63 #[.agg #[.slice (some ad127) t106.length co30, .slice Ao33 t109.length co33, .slice Ao34 t112.length co34, .slice Ao35 t115.length co35, fnv t118, .func (.func 63) #[] #[], fnv t120], .int .i64 x11_3, .string (rdOf ByteArray.empty t106 1)] ?_
       with_reducible refine (XA.word_tongues_5.calls _ _ t106 _ _ t109 _ _ t112 _ _ t115 t118 (some 63) t120 x11_3 (rdOf ByteArray.empty t106 1) t132 _ ?_ ?_ ?_ ?_ ?_ ?_ ?_ ?_ A67.out).mono ?_
       exact C_st ((Kd.R_reads' O0.out).2.2)
       exact (Kd.R_reads' O0.out).2.1
       exact C_st ((Kd.R_reads' O1.out).2.2)
       exact (Kd.R_reads' O1.out).2.1
       exact C_st ((Kd.R_reads' O2.out).2.2)
       exact (Kd.R_reads' O2.out).2.1
       exact C_st ((Kd.R_reads' O3.out).2.2)
       exact (Kd.R_reads' O3.out).2.1
       rintro e w71 ⟨rfl, hb⟩; have HS7_ := (hb.cell (World.block_lt_of_cell? _ _ (hHeld.2.2.2.2.2.2.2))).trans (hHeld.2.2.2.2.2.2.2)
       refine ⟨_, rfl, ?_⟩; replace O0 := rb O0 hb; replace O1 := rb O1 hb; replace O2 := rb O2 hb; replace O3 := rb O3 hb; replace BK101 := kb BK101 hb; replace BK121 := kb BK121 hb; replace HB := bsp HB hb
       (try clear hb)
       (try clear hb2)
       (try clear hk)
       (try clear hi)
       refine hK.out _ _ ⟨bc BK121.out 0, bc BK121.out 1, bc BK121.out 2, bc BK121.out 3, bc BK121.out 4, bc BK121.out 5, bc BK121.out 6, HS7_⟩ (fun hHeld => ?_); clear hK K
       refine norm_ (a' := ?_) ?_ ?_; rotate_left
       ·show Act.put _ (some 74) _ = _
        simp only [Act.put, sa_, s0_, s1_, i64_w, i32_w]
        rfl
       refine o1 10 (some 75) HT_.out #[tt,tt,tt,tt,tt,tt,tt,tt,tt,tt,tt,ff,ff,ff,ff,ff,ff,ff,ff,ff] fun K hK => ?_
       refine gV Tryd.func45 #[.string t132, .pointer (some ⟨gb101, 0, none⟩)] ?_
       with_reducible refine (word_Is_1.calls k3 t132 gb101 a1 true _ ?_ ?_ A68.out).mono ?_
       exact (blk_cell (blk_st BK101.out) 0).trans rfl
       exact LW.below HLW.out (bes HB.out)
       rintro e w72 ⟨rfl, hb⟩; have HS7_ := (hb.cell (World.block_lt_of_cell? _ _ (hHeld.2.2.2.2.2.2.2))).trans (hHeld.2.2.2.2.2.2.2)
       refine ⟨_, rfl, ?_⟩; replace O0 := rb O0 hb; replace O1 := rb O1 hb; replace O2 := rb O2 hb; replace O3 := rb O3 hb; replace BK101 := kb BK101 hb; replace BK121 := kb BK121 hb; replace HB := bsp HB hb
       (try clear hb)
       (try clear hb2)
       (try clear hk)
       (try clear hi)
       refine hK.out _ _ ⟨bc BK121.out 0, bc BK121.out 1, bc BK121.out 2, bc BK121.out 3, bc BK121.out 4, bc BK121.out 5, bc BK121.out 6, HS7_⟩ (fun hHeld => ?_); clear hK K
       refine norm_ (a' := ?_) ?_ ?_; rotate_left
       ·show Act.put _ (some 75) _ = _
        simp only [Act.put, sa_, s0_, s1_, i64_w, i32_w]
        rfl
       refine pv 11 (some 76) HT_.out #[tt,tt,tt,tt,tt,tt,tt,tt,tt,tt,tt,tt,ff,ff,ff,ff,ff,ff,ff,ff] ?_
       refine pn 12 (some 77) HT_.out #[tt,tt,tt,tt,tt,tt,tt,tt,tt,tt,tt,tt,tt,ff,ff,ff,ff,ff,ff,ff] ?_
       refine pn 13 (some 78) HT_.out #[tt,tt,tt,tt,tt,tt,tt,tt,tt,tt,tt,tt,tt,tt,ff,ff,ff,ff,ff,ff] ?_
       refine pn 14 (some 79) HT_.out #[tt,tt,tt,tt,tt,tt,tt,tt,tt,tt,tt,tt,tt,tt,tt,ff,ff,ff,ff,ff] ?_
       refine pn 15 (some 80) HT_.out #[tt,tt,tt,tt,tt,tt,tt,tt,tt,tt,tt,tt,tt,tt,tt,tt,ff,ff,ff,ff] ?_
       refine pn 16 (some 81) HT_.out #[tt,tt,tt,tt,tt,tt,tt,tt,tt,tt,tt,tt,tt,tt,tt,tt,tt,ff,ff,ff] ?_
       refine pn 17 (some 82) HT_.out #[tt,tt,tt,tt,tt,tt,tt,tt,tt,tt,tt,tt,tt,tt,tt,tt,tt,tt,ff,ff] ?_
       refine pn 18 (some 83) HT_.out #[tt,tt,tt,tt,tt,tt,tt,tt,tt,tt,tt,tt,tt,tt,tt,tt,tt,tt,tt,ff] ?_
       refine pv 19 (some 84) HT_.out #[tt,tt,tt,tt,tt,tt,tt,tt,tt,tt,tt,tt,tt,tt,tt,tt,tt,tt,tt,tt] ?_
       refine done_ (done_of HT_.out (by kernel_rfl)) ?_
       try go_wp2
       go_meet
       case rel => exact ⟨_, (true), cd, H', ⟨by have := HJ2.out; have := HJ26.out; have := HK3.out; first | omega | exact Nat.le_refl _⟩, ⟨by exact R_st O0.out⟩, ⟨by exact R_st O1.out⟩, ⟨by exact R_st O2.out⟩, ⟨by exact R_st O3.out⟩, ⟨by exact blk_st BK101.out⟩, ⟨by exact blk_st BK121.out⟩, ⟨by exact bes HB.out⟩⟩
      replace c69 := Bool.eq_false_iff.mpr c69; subst c69; replace H := inn H
      by_cases c73 : t118 = some 61; rotate_left
      ·rw [if_neg c73] at H
       exact absurd H (by simp)
      subst c73; replace H := ip H
      (try simp only [fnv_some]); replace H := bm H; obtain ⟨t134, A74, H⟩ := H; replace A74 := am A74; replace H := bm H; obtain ⟨t135, A75, H⟩ := H; replace A75 := am A75
      have H' := am H; clear H
      try go_wp2
      replace O0 := am (Kd.R_drew O0.out); replace O1 := am (Kd.R_drew O1.out); replace O2 := am (Kd.R_drew O2.out); replace O3 := am (Kd.R_drew O3.out); replace BK101 := am (blk_drew BK101.out); replace BK121 := am (blk_drew BK121.out); replace HB := am (below_drew1 HB.out)
      have p127 : 0 ≤ (1 : Int) := (by omega)
      have q127 : 1 < (t106.length : Int) := of_decide_eq_true (by assumption); obtain ⟨ad127, e127, hx127_0⟩ := Kd.at_string (Kd.R_reads' O0.out).2.2 1 p127 q127
      cases e127
      (try simp only [show (1 : Int).toNat = 1 from rfl, Nat.reduceMul, Nat.reduceEqDiff, Go.Addr.add, ↓reduceIte] at hx127_0)
      have qi127 : (1 < t106.length) = True := eq_true (by omega)
      (try rw [show ((1 : Int)).toNat = 1 from rfl] at hx127_0); replace p127 := eq_true p127; replace q127 := eq_true q127
      refine start_ (n := 20) (S := fun w' => w'.cell? ⟨gb121, 0, none⟩ = some (.slice (some ad127) t106.length co30) ∧ w'.cell? ⟨gb121, 1, none⟩ = some (.slice Ao33 t109.length co33) ∧ w'.cell? ⟨gb121, 2, none⟩ = some (.slice Ao34 t112.length co34) ∧ w'.cell? ⟨gb121, 3, none⟩ = some (.slice Ao35 t115.length co35) ∧ w'.cell? ⟨gb121, 4, none⟩ = some (.func (.func 61) #[] #[]) ∧ w'.cell? ⟨gb121, 5, none⟩ = some (.func (.func 63) #[] #[]) ∧ w'.cell? ⟨gb121, 6, none⟩ = some (fnv t120) ∧ w'.cell? ⟨ad127.block, ad127.off + 1, none⟩ = some (.string (rdOf ByteArray.empty t106 1))) (ds := []) #[ff,ff,ff,ff,ff,ff,ff,ff,ff,ff,ff,ff,ff,ff,ff,ff,ff,ff,ff,ff] (by kernel_rfl) rfl rfl ⟨bc BK121.out 0, bc BK121.out 1, bc BK121.out 2, bc BK121.out 3, bc BK121.out 4, bc BK121.out 5, bc BK121.out 6, hx127_0⟩ (fun hHeld => ?_); refine with_tabW word_Is.tab12 word_Is.bits12 (fun HT_ HW_ => ?_)
      generalize wr.drew = w76 at O0 O1 O2 O3 BK101 BK121 HB hx127_0 hHeld ⊢
      refine pv 0 (some 65) HT_.out #[tt,ff,ff,ff,ff,ff,ff,ff,ff,ff,ff,ff,ff,ff,ff,ff,ff,ff,ff,ff] ?_
      refine pv 1 (some 66) HT_.out #[tt,tt,ff,ff,ff,ff,ff,ff,ff,ff,ff,ff,ff,ff,ff,ff,ff,ff,ff,ff] ?_
      refine pv 4 (some 69) HT_.out #[tt,tt,ff,ff,tt,ff,ff,ff,ff,ff,ff,ff,ff,ff,ff,ff,ff,ff,ff,ff] ?_
      refine pv 5 (some 70) HT_.out #[tt,tt,ff,ff,tt,tt,ff,ff,ff,ff,ff,ff,ff,ff,ff,ff,ff,ff,ff,ff] ?_
      refine tu 2 (some 67) ?_ #[tt,tt,tt,ff,tt,tt,ff,ff,ff,ff,ff,ff,ff,ff,ff,ff,ff,ff,ff,ff] rfl rfl (ta HT_.out HW_.out) (fun _ _ _ h => h) (Or.inl ⟨by rfl, ?_⟩) hHeld ?_ ?_ ?_; rotate_left
      ·rintro w' ⟨s0, s1, s2, s3, s4, s5, s6, s7⟩
       go_simp
       with_reducible rfl
      rotate_left; exact sp
      refine tu 3 (some 68) ?_ #[tt,tt,tt,tt,tt,tt,ff,ff,ff,ff,ff,ff,ff,ff,ff,ff,ff,ff,ff,ff] rfl rfl (ta HT_.out HW_.out) (fun _ _ _ h => h) (Or.inl ⟨by rfl, ?_⟩) hHeld ?_ ?_ ?_; rotate_left
      ·rintro w' ⟨s0, s1, s2, s3, s4, s5, s6, s7⟩
       go_simp
       with_reducible rfl
      rotate_left; exact sp
      refine tu 6 (some 71) ?_ #[tt,tt,tt,tt,tt,tt,tt,ff,ff,ff,ff,ff,ff,ff,ff,ff,ff,ff,ff,ff] rfl rfl (ta HT_.out HW_.out) (fun _ _ _ h => h) (Or.inl ⟨by rfl, ?_⟩) hHeld ?_ ?_ ?_; rotate_left
      ·rintro w' ⟨s0, s1, s2, s3, s4, s5, s6, s7⟩
       go_simp
       with_reducible rfl
      rotate_left; exact sp
      refine pv 7 (some 72) HT_.out #[tt,tt,tt,tt,tt,tt,tt,tt,ff,ff,ff,ff,ff,ff,ff,ff,ff,ff,ff,ff] ?_
      refine tu 8 (some 73) ?_ #[tt,tt,tt,tt,tt,tt,tt,tt,tt,ff,ff,ff,ff,ff,ff,ff,ff,ff,ff,ff] rfl rfl (ta HT_.out HW_.out) (fun _ _ _ h => h) (Or.inl ⟨by rfl, ?_⟩) hHeld ?_ ?_ ?_; rotate_left
      ·rintro w' ⟨s0, s1, s2, s3, s4, s5, s6, s7⟩
       go_simp
       with_reducible rfl
      rotate_left; exact sp
      refine o1 9 (some 74) HT_.out #[tt,tt,tt,tt,tt,tt,tt,tt,tt,tt,ff,ff,ff,ff,ff,ff,ff,ff,ff,ff] fun K hK => ?_
      refine gV Tryd.func63 #[.agg #[.slice (some ad127) t106.length co30, .slice Ao33 t109.length co33, .slice Ao34 t112.length co34, .slice Ao35 t115.length co35, .func (.func 61) #[] #[], .func (.func 63) #[] #[], fnv t120], .int .i64 x11_3, .string (rdOf ByteArray.empty t106 1)] ?_
      with_reducible refine (XA.word_tongues_5.calls _ _ t106 _ _ t109 _ _ t112 _ _ t115 (some 61) (some 63) t120 x11_3 (rdOf ByteArray.empty t106 1) t132 _ ?_ ?_ ?_ ?_ ?_ ?_ ?_ ?_ A67.out).mono ?_
      exact C_st ((Kd.R_reads' O0.out).2.2)
      exact (Kd.R_reads' O0.out).2.1
      exact C_st ((Kd.R_reads' O1.out).2.2)
      exact (Kd.R_reads' O1.out).2.1
      exact C_st ((Kd.R_reads' O2.out).2.2)
      exact (Kd.R_reads' O2.out).2.1
      exact C_st ((Kd.R_reads' O3.out).2.2)
      exact (Kd.R_reads' O3.out).2.1
      rintro e w77 ⟨rfl, hb⟩; have HS7_ := (hb.cell (World.block_lt_of_cell? _ _ (hHeld.2.2.2.2.2.2.2))).trans (hHeld.2.2.2.2.2.2.2)
      refine ⟨_, rfl, ?_⟩; replace O0 := rb O0 hb; replace O1 := rb O1 hb; replace O2 := rb O2 hb; replace O3 := rb O3 hb; replace BK101 := kb BK101 hb; replace BK121 := kb BK121 hb; replace HB := bsp HB hb
      (try clear hb)
      (try clear hb2)
      (try clear hk)
      (try clear hi)
      refine hK.out _ _ ⟨bc BK121.out 0, bc BK121.out 1, bc BK121.out 2, bc BK121.out 3, bc BK121.out 4, bc BK121.out 5, bc BK121.out 6, HS7_⟩ (fun hHeld => ?_); clear hK K
      refine norm_ (a' := ?_) ?_ ?_; rotate_left
      ·show Act.put _ (some 74) _ = _
       simp only [Act.put, sa_, s0_, s1_, i64_w, i32_w]
       rfl
      refine o1 10 (some 75) HT_.out #[tt,tt,tt,tt,tt,tt,tt,tt,tt,tt,tt,ff,ff,ff,ff,ff,ff,ff,ff,ff] fun K hK => ?_
      refine gV Tryd.func45 #[.string t132, .pointer (some ⟨gb101, 0, none⟩)] ?_
      with_reducible refine (word_Is_1.calls k3 t132 gb101 a1 false _ ?_ ?_ A68.out).mono ?_
      exact (blk_cell (blk_st BK101.out) 0).trans rfl
      exact LW.below HLW.out (bes HB.out)
      rintro e w78 ⟨rfl, hb⟩; have HS7_ := (hb.cell (World.block_lt_of_cell? _ _ (hHeld.2.2.2.2.2.2.2))).trans (hHeld.2.2.2.2.2.2.2)
      refine ⟨_, rfl, ?_⟩; replace O0 := rb O0 hb; replace O1 := rb O1 hb; replace O2 := rb O2 hb; replace O3 := rb O3 hb; replace BK101 := kb BK101 hb; replace BK121 := kb BK121 hb; replace HB := bsp HB hb
      (try clear hb)
      (try clear hb2)
      (try clear hk)
      (try clear hi)
      refine hK.out _ _ ⟨bc BK121.out 0, bc BK121.out 1, bc BK121.out 2, bc BK121.out 3, bc BK121.out 4, bc BK121.out 5, bc BK121.out 6, HS7_⟩ (fun hHeld => ?_); clear hK K
      refine norm_ (a' := ?_) ?_ ?_; rotate_left
      ·show Act.put _ (some 75) _ = _
       simp only [Act.put, sa_, s0_, s1_, i64_w, i32_w]
       rfl
      refine pv 11 (some 76) HT_.out #[tt,tt,tt,tt,tt,tt,tt,tt,tt,tt,tt,tt,ff,ff,ff,ff,ff,ff,ff,ff] ?_
      refine pv 12 (some 77) HT_.out #[tt,tt,tt,tt,tt,tt,tt,tt,tt,tt,tt,tt,tt,ff,ff,ff,ff,ff,ff,ff] ?_
      refine pv 13 (some 78) HT_.out #[tt,tt,tt,tt,tt,tt,tt,tt,tt,tt,tt,tt,tt,tt,ff,ff,ff,ff,ff,ff] ?_
      refine pv 16 (some 81) HT_.out #[tt,tt,tt,tt,tt,tt,tt,tt,tt,tt,tt,tt,tt,tt,ff,ff,tt,ff,ff,ff] ?_
      refine tu 14 (some 79) ?_ #[tt,tt,tt,tt,tt,tt,tt,tt,tt,tt,tt,tt,tt,tt,tt,ff,tt,ff,ff,ff] rfl rfl (ta HT_.out HW_.out) (fun _ _ _ h => h) (Or.inl ⟨by rfl, ?_⟩) hHeld ?_ ?_ ?_; rotate_left
      ·rintro w' ⟨s0, s1, s2, s3, s4, s5, s6, s7⟩
       go_simp
       with_reducible rfl
      rotate_left; exact sp
      refine tu 15 (some 80) ?_ #[tt,tt,tt,tt,tt,tt,tt,tt,tt,tt,tt,tt,tt,tt,tt,tt,tt,ff,ff,ff] rfl rfl (ta HT_.out HW_.out) (fun _ _ _ h => h) (Or.inl ⟨by rfl, ?_⟩) hHeld ?_ ?_ ?_; rotate_left
      ·rintro w' ⟨s0, s1, s2, s3, s4, s5, s6, s7⟩
       go_simp
       with_reducible rfl
      rotate_left; exact sp
      refine o1 17 (some 82) HT_.out #[tt,tt,tt,tt,tt,tt,tt,tt,tt,tt,tt,tt,tt,tt,tt,tt,tt,tt,ff,ff] fun K hK => ?_
      refine gV Tryd.func61 #[.agg #[.slice (some ad127) t106.length co30, .slice Ao33 t109.length co33, .slice Ao34 t112.length co34, .slice Ao35 t115.length co35, .func (.func 61) #[] #[], .func (.func 63) #[] #[], fnv t120], .int .i64 1, .int .i64 x11_3] ?_
      with_reducible refine (XA.word_tongues_4.calls _ _ t106 _ _ t109 _ _ t112 _ _ t115 (some 61) (some 63) t120 1 x11_3 t134 _ ?_ ?_ ?_ ?_ ?_ ?_ ?_ ?_ A74.out).mono ?_
      exact C_st ((Kd.R_reads' O0.out).2.2)
      exact (Kd.R_reads' O0.out).2.1
      exact C_st ((Kd.R_reads' O1.out).2.2)
      exact (Kd.R_reads' O1.out).2.1
      exact C_st ((Kd.R_reads' O2.out).2.2)
      exact (Kd.R_reads' O2.out).2.1
      exact C_st ((Kd.R_reads' O3.out).2.2)
      exact (Kd.R_reads' O3.out).2.1
      rintro e w79 ⟨rfl, hb⟩; have HS7_ := (hb.cell (World.block_lt_of_cell? _ _ (hHeld.2.2.2.2.2.2.2))).trans (hHeld.2.2.2.2.2.2.2)
      refine ⟨_, rfl, ?_⟩; replace O0 := rb O0 hb; replace O1 := rb O1 hb; replace O2 := rb O2 hb; replace O3 := rb O3 hb; replace BK101 := kb BK101 hb; replace BK121 := kb BK121 hb; replace HB := bsp HB hb
      (try clear hb)
      (try clear hb2)
      (try clear hk)
      (try clear hi)
      refine hK.out _ _ ⟨bc BK121.out 0, bc BK121.out 1, bc BK121.out 2, bc BK121.out 3, bc BK121.out 4, bc BK121.out 5, bc BK121.out 6, HS7_⟩ (fun hHeld => ?_); clear hK K
      refine norm_ (a' := ?_) ?_ ?_; rotate_left
      ·show Act.put _ (some 82) _ = _
       simp only [Act.put, sa_, s0_, s1_, i64_w, i32_w]
       rfl
      refine o1 18 (some 83) HT_.out #[tt,tt,tt,tt,tt,tt,tt,tt,tt,tt,tt,tt,tt,tt,tt,tt,tt,tt,tt,ff] fun K hK => ?_
      refine gV Tryd.func45 #[.string t134, .pointer (some ⟨gb101, 0, none⟩)] ?_
      with_reducible refine (word_Is_1.calls k3 t134 gb101 a1 t135 _ ?_ ?_ A75.out).mono ?_
      exact (blk_cell (blk_st BK101.out) 0).trans rfl
      exact LW.below HLW.out (bes HB.out)
      rintro e w80 ⟨rfl, hb⟩; have HS7_ := (hb.cell (World.block_lt_of_cell? _ _ (hHeld.2.2.2.2.2.2.2))).trans (hHeld.2.2.2.2.2.2.2)
      refine ⟨_, rfl, ?_⟩; replace O0 := rb O0 hb; replace O1 := rb O1 hb; replace O2 := rb O2 hb; replace O3 := rb O3 hb; replace BK101 := kb BK101 hb; replace BK121 := kb BK121 hb; replace HB := bsp HB hb
      (try clear hb)
      (try clear hb2)
      (try clear hk)
      (try clear hi)
      refine hK.out _ _ ⟨bc BK121.out 0, bc BK121.out 1, bc BK121.out 2, bc BK121.out 3, bc BK121.out 4, bc BK121.out 5, bc BK121.out 6, HS7_⟩ (fun hHeld => ?_); clear hK K
      refine norm_ (a' := ?_) ?_ ?_; rotate_left
      ·show Act.put _ (some 83) _ = _
       simp only [Act.put, sa_, s0_, s1_, i64_w, i32_w]
       rfl
      refine pv 19 (some 84) HT_.out #[tt,tt,tt,tt,tt,tt,tt,tt,tt,tt,tt,tt,tt,tt,tt,tt,tt,tt,tt,tt] ?_
      refine done_ (done_of HT_.out (by kernel_rfl)) ?_
      try go_wp2
      go_meet
      case rel => exact ⟨_, (t135), cd, H', ⟨by have := HJ2.out; have := HJ26.out; have := HK3.out; first | omega | exact Nat.le_refl _⟩, ⟨by exact R_st O0.out⟩, ⟨by exact R_st O1.out⟩, ⟨by exact R_st O2.out⟩, ⟨by exact R_st O3.out⟩, ⟨by exact blk_st BK101.out⟩, ⟨by exact blk_st BK121.out⟩, ⟨by exact bes HB.out⟩⟩
     rw [if_neg c66] at H
     by_cases c81 : t119 = some 66; rotate_left
     ·rw [if_neg c81] at H
      exact absurd H (by simp)
     subst c81; replace H := ip H
     (try simp only [fnv_some]); replace H := bm H; obtain ⟨t136, A82, H⟩ := H; replace A82 := am A82; replace H := bm H; obtain ⟨t137, A83, H⟩ := H; replace A83 := am A83
     by_cases c84 : t137 = true
     ·subst c84
      replace H := ip H
      have H' := am H; clear H
      try go_wp2
      replace O0 := am (Kd.R_drew O0.out); replace O1 := am (Kd.R_drew O1.out); replace O2 := am (Kd.R_drew O2.out); replace O3 := am (Kd.R_drew O3.out); replace BK101 := am (blk_drew BK101.out); replace BK121 := am (blk_drew BK121.out); replace HB := am (below_drew1 HB.out)
      have p127 : 0 ≤ (1 : Int) := (by omega)
      have q127 : 1 < (t106.length : Int) := of_decide_eq_true (by assumption); obtain ⟨ad127, e127, hx127_0⟩ := Kd.at_string (Kd.R_reads' O0.out).2.2 1 p127 q127
      cases e127
      (try simp only [show (1 : Int).toNat = 1 from rfl, Nat.reduceMul, Nat.reduceEqDiff, Go.Addr.add, ↓reduceIte] at hx127_0)
      have qi127 : (1 < t106.length) = True := eq_true (by omega)
      (try rw [show ((1 : Int)).toNat = 1 from rfl] at hx127_0); replace p127 := eq_true p127; replace q127 := eq_true q127
      refine start_ (n := 20) (S := fun w' => w'.cell? ⟨gb121, 0, none⟩ = some (.slice (some ad127) t106.length co30) ∧ w'.cell? ⟨gb121, 1, none⟩ = some (.slice Ao33 t109.length co33) ∧ w'.cell? ⟨gb121, 2, none⟩ = some (.slice Ao34 t112.length co34) ∧ w'.cell? ⟨gb121, 3, none⟩ = some (.slice Ao35 t115.length co35) ∧ w'.cell? ⟨gb121, 4, none⟩ = some (fnv t118) ∧ w'.cell? ⟨gb121, 5, none⟩ = some (.func (.func 66) #[] #[]) ∧ w'.cell? ⟨gb121, 6, none⟩ = some (fnv t120) ∧ w'.cell? ⟨ad127.block, ad127.off + 1, none⟩ = some (.string (rdOf ByteArray.empty t106 1))) (ds := []) #[ff,ff,ff,ff,ff,ff,ff,ff,ff,ff,ff,ff,ff,ff,ff,ff,ff,ff,ff,ff] (by kernel_rfl) rfl rfl ⟨bc BK121.out 0, bc BK121.out 1, bc BK121.out 2, bc BK121.out 3, bc BK121.out 4, bc BK121.out 5, bc BK121.out 6, hx127_0⟩ (fun hHeld => ?_); refine with_tabW word_Is.tab12 word_Is.bits12 (fun HT_ HW_ => ?_)
      generalize wr.drew = w85 at O0 O1 O2 O3 BK101 BK121 HB hx127_0 hHeld ⊢
      refine pv 0 (some 65) HT_.out #[tt,ff,ff,ff,ff,ff,ff,ff,ff,ff,ff,ff,ff,ff,ff,ff,ff,ff,ff,ff] ?_
      refine pv 1 (some 66) HT_.out #[tt,tt,ff,ff,ff,ff,ff,ff,ff,ff,ff,ff,ff,ff,ff,ff,ff,ff,ff,ff] ?_
      refine pv 4 (some 69) HT_.out #[tt,tt,ff,ff,tt,ff,ff,ff,ff,ff,ff,ff,ff,ff,ff,ff,ff,ff,ff,ff] ?_
      refine pv 5 (some 70) HT_.out #[tt,tt,ff,ff,tt,tt,ff,ff,ff,ff,ff,ff,ff,ff,ff,ff,ff,ff,ff,ff] ?_
      refine tu 2 (some 67) ?_ #[tt,tt,tt,ff,tt,tt,ff,ff,ff,ff,ff,ff,ff,ff,ff,ff,ff,ff,ff,ff] rfl rfl (ta HT_.out HW_.out) (fun _ _ _ h => h) (Or.inl ⟨by rfl, ?_⟩) hHeld ?_ ?_ ?_; rotate_left
      ·rintro w' ⟨s0, s1, s2, s3, s4, s5, s6, s7⟩
       go_simp
       with_reducible rfl
      rotate_left; exact sp
      refine tu 3 (some 68) ?_ #[tt,tt,tt,tt,tt,tt,ff,ff,ff,ff,ff,ff,ff,ff,ff,ff,ff,ff,ff,ff] rfl rfl (ta HT_.out HW_.out) (fun _ _ _ h => h) (Or.inl ⟨by rfl, ?_⟩) hHeld ?_ ?_ ?_; rotate_left
      ·rintro w' ⟨s0, s1, s2, s3, s4, s5, s6, s7⟩
       go_simp
       with_reducible rfl
      rotate_left; exact sp
      refine tu 6 (some 71) ?_ #[tt,tt,tt,tt,tt,tt,tt,ff,ff,ff,ff,ff,ff,ff,ff,ff,ff,ff,ff,ff] rfl rfl (ta HT_.out HW_.out) (fun _ _ _ h => h) (Or.inl ⟨by rfl, ?_⟩) hHeld ?_ ?_ ?_; rotate_left
      ·rintro w' ⟨s0, s1, s2, s3, s4, s5, s6, s7⟩
       go_simp
       with_reducible rfl
      rotate_left; exact sp
      refine pv 7 (some 72) HT_.out #[tt,tt,tt,tt,tt,tt,tt,tt,ff,ff,ff,ff,ff,ff,ff,ff,ff,ff,ff,ff] ?_
      refine tu 8 (some 73) ?_ #[tt,tt,tt,tt,tt,tt,tt,tt,tt,ff,ff,ff,ff,ff,ff,ff,ff,ff,ff,ff] rfl rfl (ta HT_.out HW_.out) (fun _ _ _ h => h) (Or.inl ⟨by rfl, ?_⟩) hHeld ?_ ?_ ?_; rotate_left
      ·rintro w' ⟨s0, s1, s2, s3, s4, s5, s6, s7⟩
       go_simp
       with_reducible rfl
      rotate_left; exact sp
      refine o1 9 (some 74) HT_.out #[tt,tt,tt,tt,tt,tt,tt,tt,tt,tt,ff,ff,ff,ff,ff,ff,ff,ff,ff,ff] fun K hK => ?_
      refine gV Tryd.func66 #[.agg #[.slice (some ad127) t106.length co30, .slice Ao33 t109.length co33, .slice Ao34 t112.length co34, .slice Ao35 t115.length co35, fnv t118, .func (.func 66) #[] #[], fnv t120], .int .i64 x11_3, .string (rdOf ByteArray.empty t106 1)] ?_
      with_reducible refine (XA.word_tongues_8.calls _ _ t106 _ _ t109 _ _ t112 _ _ t115 t118 (some 66) t120 x11_3 (rdOf ByteArray.empty t106 1) t136 _ ?_ ?_ ?_ ?_ ?_ ?_ ?_ ?_ A82.out).mono ?_
      exact C_st ((Kd.R_reads' O0.out).2.2)
      exact (Kd.R_reads' O0.out).2.1
      exact C_st ((Kd.R_reads' O1.out).2.2)
      exact (Kd.R_reads' O1.out).2.1
      exact C_st ((Kd.R_reads' O2.out).2.2)
      exact (Kd.R_reads' O2.out).2.1
      exact C_st ((Kd.R_reads' O3.out).2.2)
      exact (Kd.R_reads' O3.out).2.1
      rintro e w86 ⟨rfl, hb⟩; have HS7_ := (hb.cell (World.block_lt_of_cell? _ _ (hHeld.2.2.2.2.2.2.2))).trans (hHeld.2.2.2.2.2.2.2)
      refine ⟨_, rfl, ?_⟩; replace O0 := rb O0 hb; replace O1 := rb O1 hb; replace O2 := rb O2 hb; replace O3 := rb O3 hb; replace BK101 := kb BK101 hb; replace BK121 := kb BK121 hb; replace HB := bsp HB hb
      (try clear hb)
      (try clear hb2)
      (try clear hk)
      (try clear hi)
      refine hK.out _ _ ⟨bc BK121.out 0, bc BK121.out 1, bc BK121.out 2, bc BK121.out 3, bc BK121.out 4, bc BK121.out 5, bc BK121.out 6, HS7_⟩ (fun hHeld => ?_); clear hK K
      refine norm_ (a' := ?_) ?_ ?_; rotate_left
      ·show Act.put _ (some 74) _ = _
       simp only [Act.put, sa_, s0_, s1_, i64_w, i32_w]
       rfl
      refine o1 10 (some 75) HT_.out #[tt,tt,tt,tt,tt,tt,tt,tt,tt,tt,tt,ff,ff,ff,ff,ff,ff,ff,ff,ff] fun K hK => ?_
      refine gV Tryd.func45 #[.string t136, .pointer (some ⟨gb101, 0, none⟩)] ?_
      with_reducible refine (word_Is_1.calls k3 t136 gb101 a1 true _ ?_ ?_ A83.out).mono ?_
      exact (blk_cell (blk_st BK101.out) 0).trans rfl
      exact LW.below HLW.out (bes HB.out)
      rintro e w87 ⟨rfl, hb⟩; have HS7_ := (hb.cell (World.block_lt_of_cell? _ _ (hHeld.2.2.2.2.2.2.2))).trans (hHeld.2.2.2.2.2.2.2)
      refine ⟨_, rfl, ?_⟩; replace O0 := rb O0 hb; replace O1 := rb O1 hb; replace O2 := rb O2 hb; replace O3 := rb O3 hb; replace BK101 := kb BK101 hb; replace BK121 := kb BK121 hb; replace HB := bsp HB hb
      (try clear hb)
      (try clear hb2)
      (try clear hk)
      (try clear hi)
      refine hK.out _ _ ⟨bc BK121.out 0, bc BK121.out 1, bc BK121.out 2, bc BK121.out 3, bc BK121.out 4, bc BK121.out 5, bc BK121.out 6, HS7_⟩ (fun hHeld => ?_); clear hK K
      refine norm_ (a' := ?_) ?_ ?_; rotate_left
      ·show Act.put _ (some 75) _ = _
       simp only [Act.put, sa_, s0_, s1_, i64_w, i32_w]
       rfl
      refine pv 11 (some 76) HT_.out #[tt,tt,tt,tt,tt,tt,tt,tt,tt,tt,tt,tt,ff,ff,ff,ff,ff,ff,ff,ff] ?_
      refine pn 12 (some 77) HT_.out #[tt,tt,tt,tt,tt,tt,tt,tt,tt,tt,tt,tt,tt,ff,ff,ff,ff,ff,ff,ff] ?_
      refine pn 13 (some 78) HT_.out #[tt,tt,tt,tt,tt,tt,tt,tt,tt,tt,tt,tt,tt,tt,ff,ff,ff,ff,ff,ff] ?_
      refine pn 14 (some 79) HT_.out #[tt,tt,tt,tt,tt,tt,tt,tt,tt,tt,tt,tt,tt,tt,tt,ff,ff,ff,ff,ff] ?_
      refine pn 15 (some 80) HT_.out #[tt,tt,tt,tt,tt,tt,tt,tt,tt,tt,tt,tt,tt,tt,tt,tt,ff,ff,ff,ff] ?_
      refine pn 16 (some 81) HT_.out #[tt,tt,tt,tt,tt,tt,tt,tt,tt,tt,tt,tt,tt,tt,tt,tt,tt,ff,ff,ff] ?_
      refine pn 17 (some 82) HT_.out #[tt,tt,tt,tt,tt,tt,tt,tt,tt,tt,tt,tt,tt,tt,tt,tt,tt,tt,ff,ff] ?_
      refine pn 18 (some 83) HT_.out #[tt,tt,tt,tt,tt,tt,tt,tt,tt,tt,tt,tt,tt,tt,tt,tt,tt,tt,tt,ff] ?_
      refine pv 19 (some 84) HT_.out #[tt,tt,tt,tt,tt,tt,tt,tt,tt,tt,tt,tt,tt,tt,tt,tt,tt,tt,tt,tt] ?_
      refine done_ (done_of HT_.out (by kernel_rfl)) ?_
      try go_wp2
      go_meet
      case rel => exact ⟨_, (true), cd, H', ⟨by have := HJ2.out; have := HJ26.out; have := HK3.out; first | omega | exact Nat.le_refl _⟩, ⟨by exact R_st O0.out⟩, ⟨by exact R_st O1.out⟩, ⟨by exact R_st O2.out⟩, ⟨by exact R_st O3.out⟩, ⟨by exact blk_st BK101.out⟩, ⟨by exact blk_st BK121.out⟩, ⟨by exact bes HB.out⟩⟩
     replace c84 := Bool.eq_false_iff.mpr c84; subst c84; replace H := inn H
     by_cases c88 : t118 = some 65; rotate_left
     ·rw [if_neg c88] at H
      exact absurd H (by simp)
     subst c88; replace H := ip H
     (try simp only [fnv_some]); replace H := bm H; obtain ⟨t138, A89, H⟩ := H; replace A89 := am A89; replace H := bm H; obtain ⟨t139, A90, H⟩ := H; replace A90 := am A90
     have H' := am H; clear H
     try go_wp2
     replace O0 := am (Kd.R_drew O0.out); replace O1 := am (Kd.R_drew O1.out); replace O2 := am (Kd.R_drew O2.out); replace O3 := am (Kd.R_drew O3.out); replace BK101 := am (blk_drew BK101.out); replace BK121 := am (blk_drew BK121.out); replace HB := am (below_drew1 HB.out)
     have p127 : 0 ≤ (1 : Int) := (by omega)
     have q127 : 1 < (t106.length : Int) := of_decide_eq_true (by assumption); obtain ⟨ad127, e127, hx127_0⟩ := Kd.at_string (Kd.R_reads' O0.out).2.2 1 p127 q127
     cases e127
     (try simp only [show (1 : Int).toNat = 1 from rfl, Nat.reduceMul, Nat.reduceEqDiff, Go.Addr.add, ↓reduceIte] at hx127_0)
     have qi127 : (1 < t106.length) = True := eq_true (by omega)
     (try rw [show ((1 : Int)).toNat = 1 from rfl] at hx127_0); replace p127 := eq_true p127; replace q127 := eq_true q127
     refine start_ (n := 20) (S := fun w' => w'.cell? ⟨gb121, 0, none⟩ = some (.slice (some ad127) t106.length co30) ∧ w'.cell? ⟨gb121, 1, none⟩ = some (.slice Ao33 t109.length co33) ∧ w'.cell? ⟨gb121, 2, none⟩ = some (.slice Ao34 t112.length co34) ∧ w'.cell? ⟨gb121, 3, none⟩ = some (.slice Ao35 t115.length co35) ∧ w'.cell? ⟨gb121, 4, none⟩ = some (.func (.func 65) #[] #[]) ∧ w'.cell? ⟨gb121, 5, none⟩ = some (.func (.func 66) #[] #[]) ∧ w'.cell? ⟨gb121, 6, none⟩ = some (fnv t120) ∧ w'.cell? ⟨ad127.block, ad127.off + 1, none⟩ = some (.string (rdOf ByteArray.empty t106 1))) (ds := []) #[ff,ff,ff,ff,ff,ff,ff,ff,ff,ff,ff,ff,ff,ff,ff,ff,ff,ff,ff,ff] (by kernel_rfl) rfl rfl ⟨bc BK121.out 0, bc BK121.out 1, bc BK121.out 2, bc BK121.out 3, bc BK121.out 4, bc BK121.out 5, bc BK121.out 6, hx127_0⟩ (fun hHeld => ?_); refine with_tabW word_Is.tab12 word_Is.bits12 (fun HT_ HW_ => ?_)
     generalize wr.drew = w91 at O0 O1 O2 O3 BK101 BK121 HB hx127_0 hHeld ⊢
     refine pv 0 (some 65) HT_.out #[tt,ff,ff,ff,ff,ff,ff,ff,ff,ff,ff,ff,ff,ff,ff,ff,ff,ff,ff,ff] ?_
     refine pv 1 (some 66) HT_.out #[tt,tt,ff,ff,ff,ff,ff,ff,ff,ff,ff,ff,ff,ff,ff,ff,ff,ff,ff,ff] ?_
     refine pv 4 (some 69) HT_.out #[tt,tt,ff,ff,tt,ff,ff,ff,ff,ff,ff,ff,ff,ff,ff,ff,ff,ff,ff,ff] ?_
     refine pv 5 (some 70) HT_.out #[tt,tt,ff,ff,tt,tt,ff,ff,ff,ff,ff,ff,ff,ff,ff,ff,ff,ff,ff,ff] ?_
     refine tu 2 (some 67) ?_ #[tt,tt,tt,ff,tt,tt,ff,ff,ff,ff,ff,ff,ff,ff,ff,ff,ff,ff,ff,ff] rfl rfl (ta HT_.out HW_.out) (fun _ _ _ h => h) (Or.inl ⟨by rfl, ?_⟩) hHeld ?_ ?_ ?_; rotate_left
     ·rintro w' ⟨s0, s1, s2, s3, s4, s5, s6, s7⟩
      go_simp
      with_reducible rfl
     rotate_left; exact sp
     refine tu 3 (some 68) ?_ #[tt,tt,tt,tt,tt,tt,ff,ff,ff,ff,ff,ff,ff,ff,ff,ff,ff,ff,ff,ff] rfl rfl (ta HT_.out HW_.out) (fun _ _ _ h => h) (Or.inl ⟨by rfl, ?_⟩) hHeld ?_ ?_ ?_; rotate_left
     ·rintro w' ⟨s0, s1, s2, s3, s4, s5, s6, s7⟩
      go_simp
      with_reducible rfl
     rotate_left; exact sp
     refine tu 6 (some 71) ?_ #[tt,tt,tt,tt,tt,tt,tt,ff,ff,ff,ff,ff,ff,ff,ff,ff,ff,ff,ff,ff] rfl rfl (ta HT_.out HW_.out) (fun _ _ _ h => h) (Or.inl ⟨by rfl, ?_⟩) hHeld ?_ ?_ ?_; rotate_left
     ·rintro w' ⟨s0, s1, s2, s3, s4, s5, s6, s7⟩
      go_simp
      with_reducible rfl
     rotate_left; exact sp
     refine pv 7 (some 72) HT_.out #[tt,tt,tt,tt,tt,tt,tt,tt,ff,ff,ff,ff,ff,ff,ff,ff,ff,ff,ff,ff] ?_
     refine tu 8 (some 73) ?_ #[tt,tt,tt,tt,tt,tt,tt,tt,tt,ff,ff,ff,ff,ff,ff,ff,ff,ff,ff,ff] rfl rfl (ta HT_.out HW_.out) (fun _ _ _ h => h) (Or.inl ⟨by rfl, ?_⟩) hHeld ?_ ?_ ?_; rotate_left
     ·rintro w' ⟨s0, s1, s2, s3, s4, s5, s6, s7⟩
      go_simp
      with_reducible rfl
     rotate_left; exact sp
     refine o1 9 (some 74) HT_.out #[tt,tt,tt,tt,tt,tt,tt,tt,tt,tt,ff,ff,ff,ff,ff,ff,ff,ff,ff,ff] fun K hK => ?_
     refine gV Tryd.func66 #[.agg #[.slice (some ad127) t106.length co30, .slice Ao33 t109.length co33, .slice Ao34 t112.length co34, .slice Ao35 t115.length co35, .func (.func 65) #[] #[], .func (.func 66) #[] #[], fnv t120], .int .i64 x11_3, .string (rdOf ByteArray.empty t106 1)] ?_
     with_reducible refine (XA.word_tongues_8.calls _ _ t106 _ _ t109 _ _ t112 _ _ t115 (some 65) (some 66) t120 x11_3 (rdOf ByteArray.empty t106 1) t136 _ ?_ ?_ ?_ ?_ ?_ ?_ ?_ ?_ A82.out).mono ?_
     exact C_st ((Kd.R_reads' O0.out).2.2)
     exact (Kd.R_reads' O0.out).2.1
     exact C_st ((Kd.R_reads' O1.out).2.2)
     exact (Kd.R_reads' O1.out).2.1
     exact C_st ((Kd.R_reads' O2.out).2.2)
     exact (Kd.R_reads' O2.out).2.1
     exact C_st ((Kd.R_reads' O3.out).2.2)
     exact (Kd.R_reads' O3.out).2.1
     rintro e w92 ⟨rfl, hb⟩; have HS7_ := (hb.cell (World.block_lt_of_cell? _ _ (hHeld.2.2.2.2.2.2.2))).trans (hHeld.2.2.2.2.2.2.2)
     refine ⟨_, rfl, ?_⟩; replace O0 := rb O0 hb; replace O1 := rb O1 hb; replace O2 := rb O2 hb; replace O3 := rb O3 hb; replace BK101 := kb BK101 hb; replace BK121 := kb BK121 hb; replace HB := bsp HB hb
     (try clear hb)
     (try clear hb2)
     (try clear hk)
     (try clear hi)
     refine hK.out _ _ ⟨bc BK121.out 0, bc BK121.out 1, bc BK121.out 2, bc BK121.out 3, bc BK121.out 4, bc BK121.out 5, bc BK121.out 6, HS7_⟩ (fun hHeld => ?_); clear hK K
     refine norm_ (a' := ?_) ?_ ?_; rotate_left
     ·show Act.put _ (some 74) _ = _
      simp only [Act.put, sa_, s0_, s1_, i64_w, i32_w]
      rfl
     refine o1 10 (some 75) HT_.out #[tt,tt,tt,tt,tt,tt,tt,tt,tt,tt,tt,ff,ff,ff,ff,ff,ff,ff,ff,ff] fun K hK => ?_
     refine gV Tryd.func45 #[.string t136, .pointer (some ⟨gb101, 0, none⟩)] ?_
     with_reducible refine (word_Is_1.calls k3 t136 gb101 a1 false _ ?_ ?_ A83.out).mono ?_
     exact (blk_cell (blk_st BK101.out) 0).trans rfl
     exact LW.below HLW.out (bes HB.out)
     rintro e w93 ⟨rfl, hb⟩; have HS7_ := (hb.cell (World.block_lt_of_cell? _ _ (hHeld.2.2.2.2.2.2.2))).trans (hHeld.2.2.2.2.2.2.2)
     refine ⟨_, rfl, ?_⟩; replace O0 := rb O0 hb; replace O1 := rb O1 hb; replace O2 := rb O2 hb; replace O3 := rb O3 hb; replace BK101 := kb BK101 hb; replace BK121 := kb BK121 hb; replace HB := bsp HB hb
     (try clear hb)
     (try clear hb2)
     (try clear hk)
     (try clear hi)
     refine hK.out _ _ ⟨bc BK121.out 0, bc BK121.out 1, bc BK121.out 2, bc BK121.out 3, bc BK121.out 4, bc BK121.out 5, bc BK121.out 6, HS7_⟩ (fun hHeld => ?_); clear hK K
     refine norm_ (a' := ?_) ?_ ?_; rotate_left
     ·show Act.put _ (some 75) _ = _
      simp only [Act.put, sa_, s0_, s1_, i64_w, i32_w]
      rfl
     refine pv 11 (some 76) HT_.out #[tt,tt,tt,tt,tt,tt,tt,tt,tt,tt,tt,tt,ff,ff,ff,ff,ff,ff,ff,ff] ?_
     refine pv 12 (some 77) HT_.out #[tt,tt,tt,tt,tt,tt,tt,tt,tt,tt,tt,tt,tt,ff,ff,ff,ff,ff,ff,ff] ?_
     refine pv 13 (some 78) HT_.out #[tt,tt,tt,tt,tt,tt,tt,tt,tt,tt,tt,tt,tt,tt,ff,ff,ff,ff,ff,ff] ?_
     refine pv 16 (some 81) HT_.out #[tt,tt,tt,tt,tt,tt,tt,tt,tt,tt,tt,tt,tt,tt,ff,ff,tt,ff,ff,ff] ?_
     refine tu 14 (some 79) ?_ #[tt,tt,tt,tt,tt,tt,tt,tt,tt,tt,tt,tt,tt,tt,tt,ff,tt,ff,ff,ff] rfl rfl (ta HT_.out HW_.out) (fun _ _ _ h => h) (Or.inl ⟨by rfl, ?_⟩) hHeld ?_ ?_ ?_; rotate_left
     ·rintro w' ⟨s0, s1, s2, s3, s4, s5, s6, s7⟩
      go_simp
      with_reducible rfl
     rotate_left; exact sp
     refine tu 15 (some 80) ?_ #[tt,tt,tt,tt,tt,tt,tt,tt,tt,tt,tt,tt,tt,tt,tt,tt,tt,ff,ff,ff] rfl rfl (ta HT_.out HW_.out) (fun _ _ _ h => h) (Or.inl ⟨by rfl, ?_⟩) hHeld ?_ ?_ ?_; rotate_left
     ·rintro w' ⟨s0, s1, s2, s3, s4, s5, s6, s7⟩
      go_simp
      with_reducible rfl
     rotate_left; exact sp
     refine o1 17 (some 82) HT_.out #[tt,tt,tt,tt,tt,tt,tt,tt,tt,tt,tt,tt,tt,tt,tt,tt,tt,tt,ff,ff] fun K hK => ?_
     refine gV Tryd.func65 #[.agg #[.slice (some ad127) t106.length co30, .slice Ao33 t109.length co33, .slice Ao34 t112.length co34, .slice Ao35 t115.length co35, .func (.func 65) #[] #[], .func (.func 66) #[] #[], fnv t120], .int .i64 1, .int .i64 x11_3] ?_
     with_reducible refine (XA.word_tongues_7.calls _ _ t106 _ _ t109 _ _ t112 _ _ t115 (some 65) (some 66) t120 1 x11_3 t138 _ ?_ ?_ ?_ ?_ ?_ ?_ ?_ ?_ A89.out).mono ?_
     exact C_st ((Kd.R_reads' O0.out).2.2)
     exact (Kd.R_reads' O0.out).2.1
     exact C_st ((Kd.R_reads' O1.out).2.2)
     exact (Kd.R_reads' O1.out).2.1
     exact C_st ((Kd.R_reads' O2.out).2.2)
     exact (Kd.R_reads' O2.out).2.1
     exact C_st ((Kd.R_reads' O3.out).2.2)
     exact (Kd.R_reads' O3.out).2.1
     rintro e w94 ⟨rfl, hb⟩; have HS7_ := (hb.cell (World.block_lt_of_cell? _ _ (hHeld.2.2.2.2.2.2.2))).trans (hHeld.2.2.2.2.2.2.2)
     refine ⟨_, rfl, ?_⟩; replace O0 := rb O0 hb; replace O1 := rb O1 hb; replace O2 := rb O2 hb; replace O3 := rb O3 hb; replace BK101 := kb BK101 hb; replace BK121 := kb BK121 hb; replace HB := bsp HB hb
     (try clear hb)
     (try clear hb2)
     (try clear hk)
     (try clear hi)
     refine hK.out _ _ ⟨bc BK121.out 0, bc BK121.out 1, bc BK121.out 2, bc BK121.out 3, bc BK121.out 4, bc BK121.out 5, bc BK121.out 6, HS7_⟩ (fun hHeld => ?_); clear hK K
     refine norm_ (a' := ?_) ?_ ?_; rotate_left
     ·show Act.put _ (some 82) _ = _
      simp only [Act.put, sa_, s0_, s1_, i64_w, i32_w]
      rfl
     refine o1 18 (some 83) HT_.out #[tt,tt,tt,tt,tt,tt,tt,tt,tt,tt,tt,tt,tt,tt,tt,tt,tt,tt,tt,ff] fun K hK => ?_
     refine gV Tryd.func45 #[.string t138, .pointer (some ⟨gb101, 0, none⟩)] ?_
     with_reducible refine (word_Is_1.calls k3 t138 gb101 a1 t139 _ ?_ ?_ A90.out).mono ?_
     exact (blk_cell (blk_st BK101.out) 0).trans rfl
     exact LW.below HLW.out (bes HB.out)
     rintro e w95 ⟨rfl, hb⟩; have HS7_ := (hb.cell (World.block_lt_of_cell? _ _ (hHeld.2.2.2.2.2.2.2))).trans (hHeld.2.2.2.2.2.2.2)
     refine ⟨_, rfl, ?_⟩; replace O0 := rb O0 hb; replace O1 := rb O1 hb; replace O2 := rb O2 hb; replace O3 := rb O3 hb; replace BK101 := kb BK101 hb; replace BK121 := kb BK121 hb; replace HB := bsp HB hb
     (try clear hb)
     (try clear hb2)
     (try clear hk)
     (try clear hi)
     refine hK.out _ _ ⟨bc BK121.out 0, bc BK121.out 1, bc BK121.out 2, bc BK121.out 3, bc BK121.out 4, bc BK121.out 5, bc BK121.out 6, HS7_⟩ (fun hHeld => ?_); clear hK K
     refine norm_ (a' := ?_) ?_ ?_; rotate_left
     ·show Act.put _ (some 83) _ = _
      simp only [Act.put, sa_, s0_, s1_, i64_w, i32_w]
      rfl
     refine pv 19 (some 84) HT_.out #[tt,tt,tt,tt,tt,tt,tt,tt,tt,tt,tt,tt,tt,tt,tt,tt,tt,tt,tt,tt] ?_
     refine done_ (done_of HT_.out (by kernel_rfl)) ?_
     try go_wp2
     go_meet
     case rel => exact ⟨_, (t139), cd, H', ⟨by have := HJ2.out; have := HJ26.out; have := HK3.out; first | omega | exact Nat.le_refl _⟩, ⟨by exact R_st O0.out⟩, ⟨by exact R_st O1.out⟩, ⟨by exact R_st O2.out⟩, ⟨by exact R_st O3.out⟩, ⟨by exact blk_st BK101.out⟩, ⟨by exact blk_st BK121.out⟩, ⟨by exact bes HB.out⟩⟩
    clear HC49
    try clear p1
    try clear q1
    try clear hx1
    try clear qi1
    try clear p2
    try clear c4
    try clear c5
    try clear c6
    try clear c8
    try clear p12
    try clear q12
    try clear hx12
    try clear qi12
    try clear c45
    try clear c50
    try clear c65
    try clear c66
    try clear c81
    try clear c84
    try clear c88
    try clear hx127_0
    try clear p127
    try clear q127
    obtain ⟨kq, x84_48, rfl, HA, HJ48, O0, O1, O2, O3, BK101, BK121, HB⟩ := hcut
    cases kq with
    | zero => exact absurd HA.out (by simp [word_Is.j3])
    | succ kj48 =>
     have H := HA.out; clear HA; simp only [word_Is.j3] at H
     by_cases c96 : x84_48 = true
     ·subst c96
      replace H := ip H
      obtain rfl := Option.some.inj H
      go_wp2
      go_ret
      exact ⟨er, by exact bes HB.out⟩
     replace c96 := Bool.eq_false_iff.mpr c96; subst c96; replace H := inn H
     have H' := am H; clear H
     go_wp2
     go_roundg kj48
     case measure => have := HJ2.out; have := HJ26.out; have := HK3.out; have := HJ48.out; omega
     case rel => exact ⟨(wrap64 (x11_3 + 1)), cd, H', ⟨by have := HJ2.out; have := HJ26.out; have := HK3.out; have := HJ48.out; omega⟩, ⟨by exact R_st O0.out⟩, ⟨by exact R_st O1.out⟩, ⟨by exact R_st O2.out⟩, ⟨by exact R_st O3.out⟩, ⟨by exact blk_st BK101.out⟩, ⟨by exact blk_st BK121.out⟩, ⟨by exact bes HB.out⟩⟩

end Go.Proofs.YtjgobfbjmlacjaaDoor.XI
