-- Written by wip/xprint.py (a driver of mine over the kit's printer) for this claim.
import Derived.Test.YtjgobfbjmlacjaaDoorXA0
import Derived.Test.YtjgobfbjmlacjaaDoorXA1
import Derived.Test.YtjgobfbjmlacjaaDoorXA2
import Derived.Test.YtjgobfbjmlacjaaDoorXA3
namespace Go.Proofs.YtjgobfbjmlacjaaDoor.XA
open Go.RowKit Go.Proofs.YtjgobfbjmlacjaaDoorW.PrintWords Go.Proofs.YtjgobfbjmlacjaaDoorW.PrintLast Go.Proofs.YtjgobfbjmlacjaaDoorW.PrintMore
open Bool renaming true → tt, false → ff
open _root_.ByteArray renaming mk → B_
attribute [local go_sem] max2_int min2_int max_two min_two max_three min_three max_four min_four   -- for this text's walks alone
set_option maxHeartbeats 8000000
set_option maxRecDepth 100000
set_option linter.unusedVariables false
set_option linter.unusedSimpArgs false

/-! ### word_tongue_many: function 38 -/
mutual
def word_tongue_many.j0 : Nat → ByteArray → ByteArray → List ByteArray → List ByteArray → List ByteArray → List ByteArray → Option Nat → Option Nat → Option Nat → Option (Int × Bool)
 | 0, _, _, _, _, _, _, _, _, _ => none
 | k + 1, x1, x6, a, b, c, d, e, g, h => (strings_CutSuffix.f x1 x6).bind fun bt247 => (if 1 < (a.length : Int) then (if bt247.1.size + 1 ≤ 9223372036854775807 then (word_tongue_many.l0 k x1 0 (rdOf ByteArray.empty a 1) bt247.1 (bt247.1 ++ (B_ #[115])) (bt247.1 ++ (B_ #[111])) a b c d e g h) else (none)) else (none))
def word_tongue_many.l0 : Nat → ByteArray → Int → ByteArray → ByteArray → ByteArray → ByteArray → List ByteArray → List ByteArray → List ByteArray → List ByteArray → Option Nat → Option Nat → Option Nat → Option (Int × Bool)
 | 0, _, _, _, _, _, _, _, _, _, _, _, _, _ => none
 | k + 1, x1, x33, x900, x901, x902, x903, a, b, c, d, e, f, g => if x33 < 4 then (if x33 = 0 then (word_tongue_many.j2 k x1 x900 0 x900 x901 x902 x903 a b c d e f g) else (if x33 = 1 then (word_tongue_many.j2 k x1 x901 1 x900 x901 x902 x903 a b c d e f g) else (if x33 = 2 then (word_tongue_many.j2 k x1 x902 2 x900 x901 x902 x903 a b c d e f g) else (if x33 = 3 then (word_tongue_many.j2 k x1 x903 3 x900 x901 x902 x903 a b c d e f g) else (none))))) else (some (0, false))
def word_tongue_many.j2 : Nat → ByteArray → ByteArray → Int → ByteArray → ByteArray → ByteArray → ByteArray → List ByteArray → List ByteArray → List ByteArray → List ByteArray → Option Nat → Option Nat → Option Nat → Option (Int × Bool)
 | 0, _, _, _, _, _, _, _, _, _, _, _, _, _, _ => none
 | k + 1, x1, x10, x33, x900, x901, x902, x903, a, b, c, d, e, g, h => (word_tongue_value.f k a b c d e g h x10).bind fun bt254 => (if bt254.2 = true then ((word_tongue_small.f k a b c d e g h bt254.1).bind fun t256 => (if h = some 60 then ((word_tongues_3.f t256 bt254.1).bind fun t257 => (word_tongue_many.j3 k x1 bt254.1 x33 (t257.toList == x1.toList) x900 x901 x902 x903 a b c d e g (some 60))) else (if h = some 64 then ((word_tongues_6.f t256 bt254.1).bind fun t258 => (word_tongue_many.j3 k x1 bt254.1 x33 (t258.toList == x1.toList) x900 x901 x902 x903 a b c d e g (some 64))) else (if h = some 67 then ((word_tongues_9.f t256 bt254.1).bind fun t259 => (word_tongue_many.j3 k x1 bt254.1 x33 (t259.toList == x1.toList) x900 x901 x902 x903 a b c d e g (some 67))) else (none))))) else (word_tongue_many.j3 k x1 bt254.1 x33 false x900 x901 x902 x903 a b c d e g h))
def word_tongue_many.j3 : Nat → ByteArray → Int → Int → Bool → ByteArray → ByteArray → ByteArray → ByteArray → List ByteArray → List ByteArray → List ByteArray → List ByteArray → Option Nat → Option Nat → Option Nat → Option (Int × Bool)
 | 0, _, _, _, _, _, _, _, _, _, _, _, _, _, _, _ => none
 | k + 1, x1, x11, x33, x53, x900, x901, x902, x903, a, b, c, d, e, f, g => if x53 = true then (some (x11, true)) else (word_tongue_many.l0 k x1 (wrap64 (x33 + 1)) x900 x901 x902 x903 a b c d e f g)
end
def word_tongue_many.f (k : Nat) (l0_0 : List ByteArray) (l0_1 : List ByteArray) (l0_2 : List ByteArray) (l0_3 : List ByteArray) (a0_4 : Option Nat) (a0_5 : Option Nat) (a0_6 : Option Nat) (a1 : ByteArray) : Option (Int × Bool) := if a0_6 = some 60 then ((word_tongues_3.f (B_ #[63]) 2).bind fun t244 => (if 1 ≤ (t244.size : Int) then (word_tongue_many.j0 k a1 (t244.extract 1 t244.size) l0_0 l0_1 l0_2 l0_3 a0_4 a0_5 (some 60)) else (none))) else (if a0_6 = some 64 then ((word_tongues_6.f (B_ #[63]) 2).bind fun t245 => (if 1 ≤ (t245.size : Int) then (word_tongue_many.j0 k a1 (t245.extract 1 t245.size) l0_0 l0_1 l0_2 l0_3 a0_4 a0_5 (some 64)) else (none))) else (if a0_6 = some 67 then ((word_tongues_9.f (B_ #[63]) 2).bind fun t246 => (if 1 ≤ (t246.size : Int) then (word_tongue_many.j0 k a1 (t246.extract 1 t246.size) l0_0 l0_1 l0_2 l0_3 a0_4 a0_5 (some 67)) else (none))) else (none)))
theorem word_tongue_many.mono_l : ∀ k, (∀ y0 y1 y2 y3 y4 y5 y6 y7 y8, LeO (word_tongue_many.j0 k y0 y1 y2 y3 y4 y5 y6 y7 y8) (word_tongue_many.j0 (k + 1) y0 y1 y2 y3 y4 y5 y6 y7 y8)) ∧ (∀ y0 y1 y2 y3 y4 y5 y6 y7 y8 y9 y10 y11 y12, LeO (word_tongue_many.l0 k y0 y1 y2 y3 y4 y5 y6 y7 y8 y9 y10 y11 y12) (word_tongue_many.l0 (k + 1) y0 y1 y2 y3 y4 y5 y6 y7 y8 y9 y10 y11 y12)) ∧ (∀ y0 y1 y2 y3 y4 y5 y6 y7 y8 y9 y10 y11 y12 y13, LeO (word_tongue_many.j2 k y0 y1 y2 y3 y4 y5 y6 y7 y8 y9 y10 y11 y12 y13) (word_tongue_many.j2 (k + 1) y0 y1 y2 y3 y4 y5 y6 y7 y8 y9 y10 y11 y12 y13)) ∧ (∀ y0 y1 y2 y3 y4 y5 y6 y7 y8 y9 y10 y11 y12 y13 y14, LeO (word_tongue_many.j3 k y0 y1 y2 y3 y4 y5 y6 y7 y8 y9 y10 y11 y12 y13 y14) (word_tongue_many.j3 (k + 1) y0 y1 y2 y3 y4 y5 y6 y7 y8 y9 y10 y11 y12 y13 y14))
 | 0 => ⟨fun _ _ _ _ _ _ _ _ _ r h => by simp [word_tongue_many.j0] at h, fun _ _ _ _ _ _ _ _ _ _ _ _ _ r h => by simp [word_tongue_many.l0] at h, fun _ _ _ _ _ _ _ _ _ _ _ _ _ _ r h => by simp [word_tongue_many.j2] at h, fun _ _ _ _ _ _ _ _ _ _ _ _ _ _ _ r h => by simp [word_tongue_many.j3] at h⟩
 | k + 1 => by
  obtain ⟨ih0, ih1, ih2, ih3⟩ := word_tongue_many.mono_l k
  refine ⟨?_, ?_, ?_, ?_⟩
  all_goals
   intros; first | unfold word_tongue_many.j0 | unfold word_tongue_many.l0 | unfold word_tongue_many.j2 | unfold word_tongue_many.j3
   repeat' first
   | (with_reducible exact ih0 _ _ _ _ _ _ _ _ _)
   | (with_reducible exact ih1 _ _ _ _ _ _ _ _ _ _ _ _ _)
   | (with_reducible exact ih2 _ _ _ _ _ _ _ _ _ _ _ _ _ _)
   | (with_reducible exact ih3 _ _ _ _ _ _ _ _ _ _ _ _ _ _ _)
   | (with_reducible exact word_tongue_small.mono _ _ _ _ _ _ _ _ _)
   | (with_reducible exact word_tongue_value.mono _ _ _ _ _ _ _ _ _)
   | (with_reducible exact LeO.refl _)
   | (with_reducible exact LeO.none _)
   | (with_reducible refine LeO.ite ?_ ?_)
   | (with_reducible refine LeO.bind ?_ (fun _ => ?_))
theorem word_tongue_many.mono : ∀ a0 a1 a2 a3 a4 a5 a6 a7 k, LeO (word_tongue_many.f k a0 a1 a2 a3 a4 a5 a6 a7) (word_tongue_many.f (k + 1) a0 a1 a2 a3 a4 a5 a6 a7) := by
 intro a0 a1 a2 a3 a4 a5 a6 a7 k; obtain ⟨ih0, ih1, ih2, ih3⟩ := word_tongue_many.mono_l k
 unfold word_tongue_many.f
 repeat' first
   | (with_reducible exact ih0 _ _ _ _ _ _ _ _ _)
   | (with_reducible exact ih1 _ _ _ _ _ _ _ _ _ _ _ _ _)
   | (with_reducible exact ih2 _ _ _ _ _ _ _ _ _ _ _ _ _ _)
   | (with_reducible exact ih3 _ _ _ _ _ _ _ _ _ _ _ _ _ _ _)
   | (with_reducible exact word_tongue_small.mono _ _ _ _ _ _ _ _ _)
   | (with_reducible exact word_tongue_value.mono _ _ _ _ _ _ _ _ _)
   | (with_reducible exact LeO.refl _)
   | (with_reducible exact LeO.none _)
   | (with_reducible refine LeO.ite ?_ ?_)
   | (with_reducible refine LeO.bind ?_ (fun _ => ?_))
def word_tongue_many.T7 : Bool × List (List Nat × List Nat) := (true, [([], []), ([0], [0]), ([1], [1]), ([2, 1], [1, 2]), ([1], [1]), ([1], [1]), ([4, 5, 1, 1], [1, 4, 5]), ([1], [1]), ([3, 6, 7, 6, 1], [1, 3, 6, 7]), ([1], [1]), ([8, 9, 1], [1, 8, 9]), ([1, 10], [1, 10])])
def word_tongue_many.B7 : List Nat := [0, 1, 3, 7, 3, 3, 51, 3, 255, 3, 1023, 2047]
theorem word_tongue_many.tab7 : rtab .any (opsOf Tryd.f38 7) = word_tongue_many.T7 := by kernel_rfl
theorem word_tongue_many.bits7 : waitsOk word_tongue_many.T7.2 word_tongue_many.B7 = true := by kernel_rfl
theorem word_tongue_many.calls (k : Nat) (A0_0 : Option Addr) (c0_0 : Nat) (l0_0 : List ByteArray) (A0_1 : Option Addr) (c0_1 : Nat) (l0_1 : List ByteArray) (A0_2 : Option Addr) (c0_2 : Nat) (l0_2 : List ByteArray) (A0_3 : Option Addr) (c0_3 : Nat) (l0_3 : List ByteArray) (a0_4 : Option Nat) (a0_5 : Option Nat) (a0_6 : Option Nat) (a1 : ByteArray) (r1 : Int) (r2 : Bool) (w : World) (hr0_0 : Kd.C Kd.string w A0_0 l0_0.length l0_0) (hc0_0 : l0_0.length ≤ c0_0) (hr0_1 : Kd.C Kd.string w A0_1 l0_1.length l0_1) (hc0_1 : l0_1.length ≤ c0_1) (hr0_2 : Kd.C Kd.string w A0_2 l0_2.length l0_2) (hc0_2 : l0_2.length ≤ c0_2) (hr0_3 : Kd.C Kd.string w A0_3 l0_3.length l0_3) (hc0_3 : l0_3.length ≤ c0_3) (h : word_tongue_many.f k l0_0 l0_1 l0_2 l0_3 a0_4 a0_5 a0_6 a1 = some (r1, r2)) :
  Calls Tryd.prog 38 #[.agg #[.slice A0_0 l0_0.length c0_0, .slice A0_1 l0_1.length c0_1, .slice A0_2 l0_2.length c0_2, .slice A0_3 l0_3.length c0_3, fnv a0_4, fnv a0_5, fnv a0_6], .string a1] w fun e w' => e = .returned (.tuple #[.int .i64 r1, .bool r2]) ∧ Below w.heap.size w w' := by
 have hu59 := Tryd.underlying59; have hu68 := Tryd.underlying68; have HR0_0 := am hr0_0; have HC0_0 := am hc0_0; clear hr0_0 hc0_0; have HR0_1 := am hr0_1; have HC0_1 := am hc0_1; clear hr0_1 hc0_1; have HR0_2 := am hr0_2; have HC0_2 := am hc0_2; clear hr0_2 hc0_2; have HR0_3 := am hr0_3; have HC0_3 := am hc0_3; clear hr0_3 hc0_3; have HB := am (Below.refl w.heap.size w)
 have H := h; clear h; unfold word_tongue_many.f at H; have HC3 := am H; clear H
 go_enter Tryd.func38, Tryd.ntmps38
 go_upto_region 1 with (first | ((with_reducible refine gate_dst (N := 2) rfl ?_); refine bx 2 #[.slice A0_0 l0_0.length c0_0, .slice A0_1 l0_1.length c0_1, .slice A0_2 l0_2.length c0_2, .slice A0_3 l0_3.length c0_3, fnv a0_4, fnv a0_5, fnv a0_6] 59 ?_; intro gb243 hg w4 hbox hb; have BK243 := am hbox; have GE243 := gem hg HB; replace HB := bsp HB hb; clear hb hbox hg))
 (try simp only [Act.put, sa_, s0_, s1_])
 go_cut [6] (fun v6 wc => ∃ (kq : Nat) (x6_2 : ByteArray), v6 = .string x6_2 ∧ Aside0 (word_tongue_many.j0 kq a1 x6_2 l0_0 l0_1 l0_2 l0_3 a0_4 a0_5 a0_6 = some (r1, r2)) ∧ Aside0 (kq ≤ k) ∧ Aside0 (wc.heap[gb243]? = some (.cells #[(.slice A0_0 l0_0.length c0_0), (.slice A0_1 l0_1.length c0_1), (.slice A0_2 l0_2.length c0_2), (.slice A0_3 l0_3.length c0_3), fnv a0_4, fnv a0_5, fnv a0_6] 59 (0, 0))) ∧ Aside0 (Below w.heap.size w wc))
 case first =>
  have H := HC3.out; clear HC3
  by_cases c5 : a0_6 = some 60
  ·subst c5
   replace H := ip H
   (try simp only [fnv_some]); replace H := bm H; obtain ⟨t244, A6, H⟩ := H; replace A6 := am A6
   by_cases c7 : 1 ≤ (t244.size : Int); rotate_left
   ·rw [if_neg c7] at H
    exact absurd H (by simp)
   rw [if_pos c7] at H; have c7b0 := eq_true c7
   have c7b1 := dT c7; clear c7
   have H' := am H; clear H
   have Z8_0 := z0 BK243.out
   have Z8_1 := z1 BK243.out
   have Z8_2 := z2 BK243.out
   have Z8_3 := z3 BK243.out
   have Z8_4 := z4 BK243.out
   have Z8_5 := z5 BK243.out
   have Z8_6 := z6 BK243.out; have F8_0 := fz BK243.out 0; have F8_1 := fz BK243.out 1; have F8_2 := fz BK243.out 2; have F8_3 := fz BK243.out 3; have F8_4 := fz BK243.out 4; have F8_5 := fz BK243.out 5; have F8_6 := fz BK243.out 6
   go_wp2_with (first | (go_at_call 60; (refine (word_tongues_3.calls (B_ #[63]) 2 t244 _ A6.out).mono ?_); rintro e w' ⟨rfl, ⟨nd, rfl⟩⟩))
   go_meet
   case rel => exact ⟨_, (t244.extract 1 t244.size), cd, H', ⟨om⟩, ⟨by exact blk_st BK243.out⟩, ⟨by exact bes HB.out⟩⟩
  rw [if_neg c5] at H
  by_cases c9 : a0_6 = some 64
  ·subst c9
   replace H := ip H
   (try simp only [fnv_some]); replace H := bm H; obtain ⟨t245, A10, H⟩ := H; replace A10 := am A10
   by_cases c11 : 1 ≤ (t245.size : Int); rotate_left
   ·rw [if_neg c11] at H
    exact absurd H (by simp)
   rw [if_pos c11] at H; have c11b0 := eq_true c11
   have c11b1 := dT c11; clear c11
   have H' := am H; clear H
   have Z12_0 := z0 BK243.out
   have Z12_1 := z1 BK243.out
   have Z12_2 := z2 BK243.out
   have Z12_3 := z3 BK243.out
   have Z12_4 := z4 BK243.out
   have Z12_5 := z5 BK243.out
   have Z12_6 := z6 BK243.out; have F12_0 := fz BK243.out 0; have F12_1 := fz BK243.out 1; have F12_2 := fz BK243.out 2; have F12_3 := fz BK243.out 3; have F12_4 := fz BK243.out 4; have F12_5 := fz BK243.out 5; have F12_6 := fz BK243.out 6
   go_wp2_with (first | (go_at_call 64; (refine (word_tongues_6.calls (B_ #[63]) 2 t245 _ A10.out).mono ?_); rintro e w' ⟨rfl, ⟨nd, rfl⟩⟩))
   go_meet
   case rel => exact ⟨_, (t245.extract 1 t245.size), cd, H', ⟨om⟩, ⟨by exact blk_st BK243.out⟩, ⟨by exact bes HB.out⟩⟩
  rw [if_neg c9] at H
  by_cases c13 : a0_6 = some 67; rotate_left
  ·rw [if_neg c13] at H
   exact absurd H (by simp)
  subst c13; replace H := ip H
  (try simp only [fnv_some]); replace H := bm H; obtain ⟨t246, A14, H⟩ := H; replace A14 := am A14
  by_cases c15 : 1 ≤ (t246.size : Int); rotate_left
  ·rw [if_neg c15] at H
   exact absurd H (by simp)
  rw [if_pos c15] at H; have c15b0 := eq_true c15
  have c15b1 := dT c15; clear c15
  have H' := am H; clear H
  have Z16_0 := z0 BK243.out
  have Z16_1 := z1 BK243.out
  have Z16_2 := z2 BK243.out
  have Z16_3 := z3 BK243.out
  have Z16_4 := z4 BK243.out
  have Z16_5 := z5 BK243.out
  have Z16_6 := z6 BK243.out; have F16_0 := fz BK243.out 0; have F16_1 := fz BK243.out 1; have F16_2 := fz BK243.out 2; have F16_3 := fz BK243.out 3; have F16_4 := fz BK243.out 4; have F16_5 := fz BK243.out 5; have F16_6 := fz BK243.out 6
  go_wp2_with (first | (go_at_call 67; (refine (word_tongues_9.calls (B_ #[63]) 2 t246 _ A14.out).mono ?_); rintro e w' ⟨rfl, ⟨nd, rfl⟩⟩))
  go_meet
  case rel => exact ⟨_, (t246.extract 1 t246.size), cd, H', ⟨om⟩, ⟨by exact blk_st BK243.out⟩, ⟨by exact bes HB.out⟩⟩
 clear HC3
 try clear c1
 try clear p2
 try clear c3
 try clear c5
 try clear c7
 try clear c7b0
 try clear c7b1
 try clear c9
 try clear c11
 try clear c11b0
 try clear c11b1
 try clear c13
 try clear c15
 try clear c15b0
 try clear c15b1
 try clear Z12_0 Z12_1 Z12_2 Z12_3 Z12_4 Z12_5 Z12_6
 try clear Z16_0 Z16_1 Z16_2 Z16_3 Z16_4 Z16_5 Z16_6
 try clear Z8_0 Z8_1 Z8_2 Z8_3 Z8_4 Z8_5 Z8_6
 try clear F12_0 F12_1 F12_2 F12_3 F12_4 F12_5 F12_6
 try clear F16_0 F16_1 F16_2 F16_3 F16_4 F16_5 F16_6
 try clear F8_0 F8_1 F8_2 F8_3 F8_4 F8_5 F8_6
 obtain ⟨kq, x6_2, rfl, HA, HJ2, BK243, HB⟩ := hcut
 cases kq with
 | zero => exact absurd HA.out (by simp [word_tongue_many.j0])
 | succ kj2 =>
  have H := HA.out; clear HA; simp only [word_tongue_many.j0] at H; replace H := bm H; obtain ⟨⟨t247, t248⟩, A170, H⟩ := H; replace H : (if 1 < (l0_0.length : Int) then (if t247.size + 1 ≤ 9223372036854775807 then (word_tongue_many.l0 kj2 a1 0 (rdOf ByteArray.empty l0_0 1) t247 (t247 ++ (B_ #[115])) (t247 ++ (B_ #[111])) l0_0 l0_1 l0_2 l0_3 a0_4 a0_5 a0_6) else (none)) else (none)) = some (r1, r2) := H; have A17 := am A170; clear A170
  by_cases c18 : 1 < (l0_0.length : Int); rotate_left
  ·rw [if_neg c18] at H
   exact absurd H (by simp)
  rw [if_pos c18] at H
  have c18b0 := dT c18
  have c18b1 : decide (1 < l0_0.length) = true := decide_eq_true (by omega); clear c18
  by_cases c19 : t247.size + 1 ≤ 9223372036854775807; rotate_left
  ·rw [if_neg c19] at H
   exact absurd H (by simp)
  rw [if_pos c19] at H; have c19b0 := eq_true c19
  have c19b1 := dT c19
  try have c19b2 := eF c19
  have H' := am H; clear H
  go_wp2_with (first | ((with_reducible refine gate_callee (f := 68) rfl ?_); refine gL (some 20) rfl rfl Tryd.func68 #[.string a1, .string x6_2] ?_; (refine (strings_CutSuffix.calls a1 x6_2 t247 t248 _ A17.out).mono ?_); rintro e w' ⟨rfl, ⟨nd, rfl⟩⟩; refine ⟨_, rfl, ?_⟩; have Z20_0 := z0 BK243.out; have Z20_1 := z1 BK243.out; have Z20_2 := z2 BK243.out; have Z20_3 := z3 BK243.out; have Z20_4 := z4 BK243.out; have Z20_5 := z5 BK243.out; have Z20_6 := z6 BK243.out; have F20_0 := fz BK243.out 0; have F20_1 := fz BK243.out 1; have F20_2 := fz BK243.out 2; have F20_3 := fz BK243.out 3; have F20_4 := fz BK243.out 4; have F20_5 := fz BK243.out 5; have F20_6 := fz BK243.out 6; have p249 : 0 ≤ (1 : Int) := (by omega); have q249 : 1 < (l0_0.length : Int) := of_decide_eq_true (by assumption); obtain ⟨ad249, e249, hx249_0⟩ := Kd.at_string HR0_0.out 1 p249 q249; cases e249; (try simp only [show (1 : Int).toNat = 1 from rfl, Nat.reduceMul, Nat.reduceEqDiff, Go.Addr.add, ↓reduceIte] at hx249_0); have qi249 : (1 < l0_0.length) = True := eq_true (by omega); (try rw [show ((1 : Int)).toNat = 1 from rfl] at hx249_0); replace hx249_0 := (HB.out.cell (World.block_lt_of_cell? w _ hx249_0)).trans hx249_0; replace p249 := eq_true p249; replace q249 := eq_true q249))
  go_loopg [33] kj2 (fun kq v33 w' => ∃ (x33_2 : Int), v33 = .int .i64 x33_2 ∧ Aside0 (word_tongue_many.l0 kq a1 x33_2 (rdOf ByteArray.empty l0_0 1) t247 (t247 ++ (B_ #[115])) (t247 ++ (B_ #[111])) l0_0 l0_1 l0_2 l0_3 a0_4 a0_5 a0_6 = some (r1, r2)) ∧ Aside0 (kq ≤ kj2) ∧ Aside0 (w'.heap[gb243]? = some (.cells #[(.slice (some ad249) l0_0.length c0_0), (.slice A0_1 l0_1.length c0_1), (.slice A0_2 l0_2.length c0_2), (.slice A0_3 l0_3.length c0_3), fnv a0_4, fnv a0_5, fnv a0_6] 59 (0, 0))) ∧ Aside0 (Below w.heap.size w w'))
  case atStart => exact ⟨(0), cd, H', ⟨Nat.le_refl _⟩, ⟨by exact blk_st BK243.out⟩, ⟨by exact bes HB.out⟩⟩
  clear H'
  try clear c1
  try clear p2
  try clear q2
  try clear hx2
  try clear qi2
  try clear c3
  try clear c5
  try clear c6
  try clear c7
  try clear c7b0
  try clear c7b1
  try clear c9
  try clear c11
  try clear c11b0
  try clear c11b1
  try clear c13
  try clear c15
  try clear c15b0
  try clear c15b1
  try clear c18
  try clear c18b0
  try clear c18b1
  try clear c19
  try clear c19b0
  try clear c19b1
  try clear c19b2
  try clear Z12_0 Z12_1 Z12_2 Z12_3 Z12_4 Z12_5 Z12_6
  try clear Z16_0 Z16_1 Z16_2 Z16_3 Z16_4 Z16_5 Z16_6
  try clear Z20_0 Z20_1 Z20_2 Z20_3 Z20_4 Z20_5 Z20_6
  try clear Z8_0 Z8_1 Z8_2 Z8_3 Z8_4 Z8_5 Z8_6
  try clear F12_0 F12_1 F12_2 F12_3 F12_4 F12_5 F12_6
  try clear F16_0 F16_1 F16_2 F16_3 F16_4 F16_5 F16_6
  try clear F20_0 F20_1 F20_2 F20_3 F20_4 F20_5 F20_6
  try clear F8_0 F8_1 F8_2 F8_3 F8_4 F8_5 F8_6
  try clear hx249_0
  try clear p2
  try clear p249
  try clear q249
  obtain ⟨x33_2, rfl, HA, HK2, BK243, HB⟩ := hrel
  cases gk with
  | zero => exact absurd HA.out (by simp [word_tongue_many.l0])
  | succ k2 =>
   have H := HA.out; clear HA; simp only [word_tongue_many.l0] at H
   by_cases c21 : x33_2 < 4; rotate_left
   ·rw [if_neg c21] at H
    have c21b0 := dF c21; clear c21; simp only [Option.some.injEq, Prod.mk.injEq] at H; obtain ⟨rfl, rfl⟩ := H
    go_wp2
    go_ret2
    exact ⟨er, by exact bes HB.out⟩
   rw [if_pos c21] at H
   have c21b0 := dT c21; clear c21; have HC22 := am H; clear H
   go_upto_region 5 with (fail)
   go_cut [10] (fun v10 wc => ∃ (kq : Nat) (x10_21 : ByteArray), v10 = .string x10_21 ∧ Aside0 (word_tongue_many.j2 kq a1 x10_21 x33_2 (rdOf ByteArray.empty l0_0 1) t247 (t247 ++ (B_ #[115])) (t247 ++ (B_ #[111])) l0_0 l0_1 l0_2 l0_3 a0_4 a0_5 a0_6 = some (r1, r2)) ∧ Aside0 (kq ≤ k2) ∧ Aside0 (wc.heap[gb243]? = some (.cells #[(.slice (some ad249) l0_0.length c0_0), (.slice A0_1 l0_1.length c0_1), (.slice A0_2 l0_2.length c0_2), (.slice A0_3 l0_3.length c0_3), fnv a0_4, fnv a0_5, fnv a0_6] 59 (0, 0))) ∧ Aside0 (Below w.heap.size w wc))
   case first =>
    have H := HC22.out; clear HC22
    by_cases c23 : x33_2 = 0
    ·subst c23
     replace H := ip H
     have hixi24 : ∀ W_, (Instr.index 68 (.agg #[.string (rdOf ByteArray.empty l0_0 1), .string t247, .string (t247 ++ (B_ #[115])), .string (t247 ++ (B_ #[111]))]) (.int .i64 0)).run Tryd.prog W_ = .ok (.string (rdOf ByteArray.empty l0_0 1)) W_ := fun _ => by kernel_rfl
     have H' := am H; clear H
     go_wp2
     go_meet
     case rel => exact ⟨_, ((rdOf ByteArray.empty l0_0 1)), cd, H', ⟨by have := HJ2.out; have := HK2.out; first | omega | exact Nat.le_refl _⟩, ⟨by exact blk_st BK243.out⟩, ⟨by exact bes HB.out⟩⟩
    rw [if_neg c23] at H
    by_cases c25 : x33_2 = 1
    ·subst c25
     replace H := ip H
     have hixi26 : ∀ W_, (Instr.index 68 (.agg #[.string (rdOf ByteArray.empty l0_0 1), .string t247, .string (t247 ++ (B_ #[115])), .string (t247 ++ (B_ #[111]))]) (.int .i64 1)).run Tryd.prog W_ = .ok (.string t247) W_ := fun _ => by kernel_rfl
     have H' := am H; clear H
     go_wp2
     go_meet
     case rel => exact ⟨_, (t247), cd, H', ⟨by have := HJ2.out; have := HK2.out; first | omega | exact Nat.le_refl _⟩, ⟨by exact blk_st BK243.out⟩, ⟨by exact bes HB.out⟩⟩
    rw [if_neg c25] at H
    by_cases c27 : x33_2 = 2
    ·subst c27
     replace H := ip H
     have hixi28 : ∀ W_, (Instr.index 68 (.agg #[.string (rdOf ByteArray.empty l0_0 1), .string t247, .string (t247 ++ (B_ #[115])), .string (t247 ++ (B_ #[111]))]) (.int .i64 2)).run Tryd.prog W_ = .ok (.string (t247 ++ (B_ #[115]))) W_ := fun _ => by kernel_rfl
     have H' := am H; clear H
     go_wp2
     go_meet
     case rel => exact ⟨_, ((t247 ++ (B_ #[115]))), cd, H', ⟨by have := HJ2.out; have := HK2.out; first | omega | exact Nat.le_refl _⟩, ⟨by exact blk_st BK243.out⟩, ⟨by exact bes HB.out⟩⟩
    rw [if_neg c27] at H
    by_cases c29 : x33_2 = 3
    ·subst c29
     replace H := ip H
     have hixi30 : ∀ W_, (Instr.index 68 (.agg #[.string (rdOf ByteArray.empty l0_0 1), .string t247, .string (t247 ++ (B_ #[115])), .string (t247 ++ (B_ #[111]))]) (.int .i64 3)).run Tryd.prog W_ = .ok (.string (t247 ++ (B_ #[111]))) W_ := fun _ => by kernel_rfl
     have H' := am H; clear H
     go_wp2
     go_meet
     case rel => exact ⟨_, ((t247 ++ (B_ #[111]))), cd, H', ⟨by have := HJ2.out; have := HK2.out; first | omega | exact Nat.le_refl _⟩, ⟨by exact blk_st BK243.out⟩, ⟨by exact bes HB.out⟩⟩
    rw [if_neg c29] at H
    exact absurd H (by simp)
   clear HC22
   try clear c1
   try clear c2
   try clear p2
   try clear q2
   try clear hx2
   try clear qi2
   try clear c3
   try clear c5
   try clear c6
   try clear c7
   try clear c7b0
   try clear c7b1
   try clear c9
   try clear c11
   try clear c11b0
   try clear c11b1
   try clear c13
   try clear c15
   try clear c15b0
   try clear c15b1
   try clear c18
   try clear c18b0
   try clear c18b1
   try clear c19
   try clear c19b0
   try clear c19b1
   try clear c19b2
   try clear c21
   try clear c21b0
   try clear c23
   try clear p24
   try clear q24
   try clear hx24
   try clear qi24
   try clear c25
   try clear c27
   try clear c29
   try clear Z12_0 Z12_1 Z12_2 Z12_3 Z12_4 Z12_5 Z12_6
   try clear Z16_0 Z16_1 Z16_2 Z16_3 Z16_4 Z16_5 Z16_6
   try clear Z20_0 Z20_1 Z20_2 Z20_3 Z20_4 Z20_5 Z20_6
   try clear Z8_0 Z8_1 Z8_2 Z8_3 Z8_4 Z8_5 Z8_6
   try clear F12_0 F12_1 F12_2 F12_3 F12_4 F12_5 F12_6
   try clear F16_0 F16_1 F16_2 F16_3 F16_4 F16_5 F16_6
   try clear F20_0 F20_1 F20_2 F20_3 F20_4 F20_5 F20_6
   try clear F8_0 F8_1 F8_2 F8_3 F8_4 F8_5 F8_6
   try clear hx249_0
   try clear p2
   try clear p249
   try clear q2
   try clear q249
   obtain ⟨kq, x10_21, rfl, HA, HJ21, BK243, HB⟩ := hcut
   cases kq with
   | zero => exact absurd HA.out (by simp [word_tongue_many.j2])
   | succ kj21 =>
    have H := HA.out; clear HA; simp only [word_tongue_many.j2] at H; replace H := bm H; obtain ⟨⟨t254, t255⟩, A310, H⟩ := H; replace H : (if t255 = true then ((word_tongue_small.f kj21 l0_0 l0_1 l0_2 l0_3 a0_4 a0_5 a0_6 t254).bind fun t256 => (if a0_6 = some 60 then ((word_tongues_3.f t256 t254).bind fun t257 => (word_tongue_many.j3 kj21 a1 t254 x33_2 (t257.toList == a1.toList) (rdOf ByteArray.empty l0_0 1) t247 (t247 ++ (B_ #[115])) (t247 ++ (B_ #[111])) l0_0 l0_1 l0_2 l0_3 a0_4 a0_5 (some 60))) else (if a0_6 = some 64 then ((word_tongues_6.f t256 t254).bind fun t258 => (word_tongue_many.j3 kj21 a1 t254 x33_2 (t258.toList == a1.toList) (rdOf ByteArray.empty l0_0 1) t247 (t247 ++ (B_ #[115])) (t247 ++ (B_ #[111])) l0_0 l0_1 l0_2 l0_3 a0_4 a0_5 (some 64))) else (if a0_6 = some 67 then ((word_tongues_9.f t256 t254).bind fun t259 => (word_tongue_many.j3 kj21 a1 t254 x33_2 (t259.toList == a1.toList) (rdOf ByteArray.empty l0_0 1) t247 (t247 ++ (B_ #[115])) (t247 ++ (B_ #[111])) l0_0 l0_1 l0_2 l0_3 a0_4 a0_5 (some 67))) else (none))))) else (word_tongue_many.j3 kj21 a1 t254 x33_2 false (rdOf ByteArray.empty l0_0 1) t247 (t247 ++ (B_ #[115])) (t247 ++ (B_ #[111])) l0_0 l0_1 l0_2 l0_3 a0_4 a0_5 a0_6)) = some (r1, r2) := H; have A31 := am A310; clear A310; have HC32 := am H; clear H
    have Z33_0 := z0 BK243.out
    have Z33_1 := z1 BK243.out
    have Z33_2 := z2 BK243.out
    have Z33_3 := z3 BK243.out
    have Z33_4 := z4 BK243.out
    have Z33_5 := z5 BK243.out
    have Z33_6 := z6 BK243.out; have F33_0 := fz BK243.out 0; have F33_1 := fz BK243.out 1; have F33_2 := fz BK243.out 2; have F33_3 := fz BK243.out 3; have F33_4 := fz BK243.out 4; have F33_5 := fz BK243.out 5; have F33_6 := fz BK243.out 6
    go_upto_region 7 with (first | ((with_reducible refine gate_callee (f := 40) rfl ?_); refine gL (some 39) rfl rfl Tryd.func40 #[.agg #[.slice (some ad249) l0_0.length c0_0, .slice A0_1 l0_1.length c0_1, .slice A0_2 l0_2.length c0_2, .slice A0_3 l0_3.length c0_3, fnv a0_4, fnv a0_5, fnv a0_6], .string x10_21] ?_; (refine (word_tongue_value.calls kj21 _ _ l0_0 _ _ l0_1 _ _ l0_2 _ _ l0_3 a0_4 a0_5 a0_6 x10_21 t254 t255 _ ?_ ?_ ?_ ?_ ?_ ?_ ?_ ?_ A31.out).mono ?_); exact C_st (Kd.C_below HR0_0.out HB.out); exact HC0_0.out; exact C_st (Kd.C_below HR0_1.out HB.out); exact HC0_1.out; exact C_st (Kd.C_below HR0_2.out HB.out); exact HC0_2.out; exact C_st (Kd.C_below HR0_3.out HB.out); exact HC0_3.out; rintro e w34 ⟨rfl, hb⟩; refine ⟨_, rfl, ?_⟩; replace BK243 := kb BK243 hb; replace HB := bsp HB hb; (try clear hb)))
    (try simp only [Act.put, sa_, s0_, s1_])
    go_cut [53] (fun v53 wc => ∃ (kq : Nat) (x53_31 : Bool), v53 = .bool x53_31 ∧ Aside0 (word_tongue_many.j3 kq a1 t254 x33_2 x53_31 (rdOf ByteArray.empty l0_0 1) t247 (t247 ++ (B_ #[115])) (t247 ++ (B_ #[111])) l0_0 l0_1 l0_2 l0_3 a0_4 a0_5 a0_6 = some (r1, r2)) ∧ Aside0 (kq ≤ kj21) ∧ Aside0 (wc.heap[gb243]? = some (.cells #[(.slice (some ad249) l0_0.length c0_0), (.slice A0_1 l0_1.length c0_1), (.slice A0_2 l0_2.length c0_2), (.slice A0_3 l0_3.length c0_3), fnv a0_4, fnv a0_5, fnv a0_6] 59 (0, 0))) ∧ Aside0 (Below w.heap.size w wc))
    case first =>
     have H := HC32.out; clear HC32
     by_cases c35 : t255 = true; rotate_left
     ·replace c35 := Bool.eq_false_iff.mpr c35
      subst c35; replace H := inn H
      have H' := am H; clear H
      try go_wp2
      replace BK243 := am (blk_drew BK243.out); replace HB := am (below_drew1 HB.out)
      refine start_ (n := 12) (S := fun w' => True) (ds := []) #[ff,ff,ff,ff,ff,ff,ff,ff,ff,ff,ff,ff] (by kernel_rfl) rfl rfl trivial (fun hHeld => ?_); refine with_tabW word_tongue_many.tab7 word_tongue_many.bits7 (fun HT_ HW_ => ?_)
      generalize w34.drew = w49 at BK243 HB hHeld ⊢
      refine pv 0 (some 42) HT_.out #[tt,ff,ff,ff,ff,ff,ff,ff,ff,ff,ff,ff] ?_
      refine pv 1 (some 43) HT_.out #[tt,tt,ff,ff,ff,ff,ff,ff,ff,ff,ff,ff] ?_
      refine pn 2 (some 44) HT_.out #[tt,tt,tt,ff,ff,ff,ff,ff,ff,ff,ff,ff] ?_
      refine pn 3 (some 45) HT_.out #[tt,tt,tt,tt,ff,ff,ff,ff,ff,ff,ff,ff] ?_
      refine pn 4 (some 46) HT_.out #[tt,tt,tt,tt,tt,ff,ff,ff,ff,ff,ff,ff] ?_
      refine pn 5 (some 47) HT_.out #[tt,tt,tt,tt,tt,tt,ff,ff,ff,ff,ff,ff] ?_
      refine pn 6 (some 48) HT_.out #[tt,tt,tt,tt,tt,tt,tt,ff,ff,ff,ff,ff] ?_
      refine pn 7 (some 49) HT_.out #[tt,tt,tt,tt,tt,tt,tt,tt,ff,ff,ff,ff] ?_
      refine pn 8 (some 50) HT_.out #[tt,tt,tt,tt,tt,tt,tt,tt,tt,ff,ff,ff] ?_
      refine pn 9 (some 51) HT_.out #[tt,tt,tt,tt,tt,tt,tt,tt,tt,tt,ff,ff] ?_
      refine pn 10 (some 52) HT_.out #[tt,tt,tt,tt,tt,tt,tt,tt,tt,tt,tt,ff] ?_
      refine pv 11 (some 53) HT_.out #[tt,tt,tt,tt,tt,tt,tt,tt,tt,tt,tt,tt] ?_
      refine done_ (done_of HT_.out (by kernel_rfl)) ?_
      try go_wp2
      go_meet
      case rel => exact ⟨_, (false), cd, H', ⟨by have := HJ2.out; have := HK2.out; have := HJ21.out; first | omega | exact Nat.le_refl _⟩, ⟨by exact blk_st BK243.out⟩, ⟨by exact bes HB.out⟩⟩
     subst c35; replace H := ip H
     replace H := bm H; obtain ⟨t256, A36, H⟩ := H; replace A36 := am A36
     by_cases c37 : a0_6 = some 60
     ·subst c37
      replace H := ip H
      (try simp only [fnv_some]); replace H := bm H; obtain ⟨t257, A38, H⟩ := H; replace A38 := am A38
      have H' := am H; clear H
      try go_wp2
      replace BK243 := am (blk_drew BK243.out); replace HB := am (below_drew1 HB.out)
      refine start_ (n := 12) (S := fun w' => w'.cell? ⟨gb243, 0, none⟩ = some (.slice (some ad249) l0_0.length c0_0) ∧ w'.cell? ⟨gb243, 1, none⟩ = some (.slice A0_1 l0_1.length c0_1) ∧ w'.cell? ⟨gb243, 2, none⟩ = some (.slice A0_2 l0_2.length c0_2) ∧ w'.cell? ⟨gb243, 3, none⟩ = some (.slice A0_3 l0_3.length c0_3) ∧ w'.cell? ⟨gb243, 4, none⟩ = some (fnv a0_4) ∧ w'.cell? ⟨gb243, 5, none⟩ = some (fnv a0_5) ∧ w'.cell? ⟨gb243, 6, none⟩ = some (.func (.func 60) #[] #[])) (ds := []) #[ff,ff,ff,ff,ff,ff,ff,ff,ff,ff,ff,ff] (by kernel_rfl) rfl rfl ⟨bc BK243.out 0, bc BK243.out 1, bc BK243.out 2, bc BK243.out 3, bc BK243.out 4, bc BK243.out 5, bc BK243.out 6⟩ (fun hHeld => ?_); refine with_tabW word_tongue_many.tab7 word_tongue_many.bits7 (fun HT_ HW_ => ?_)
      generalize w34.drew = w39 at BK243 HB hHeld ⊢
      refine pv 0 (some 42) HT_.out #[tt,ff,ff,ff,ff,ff,ff,ff,ff,ff,ff,ff] ?_
      refine pv 1 (some 43) HT_.out #[tt,tt,ff,ff,ff,ff,ff,ff,ff,ff,ff,ff] ?_
      refine pv 2 (some 44) HT_.out #[tt,tt,tt,ff,ff,ff,ff,ff,ff,ff,ff,ff] ?_
      refine pv 5 (some 47) HT_.out #[tt,tt,tt,ff,ff,tt,ff,ff,ff,ff,ff,ff] ?_
      refine pv 7 (some 49) HT_.out #[tt,tt,tt,ff,ff,tt,ff,tt,ff,ff,ff,ff] ?_
      refine pv 9 (some 51) HT_.out #[tt,tt,tt,ff,ff,tt,ff,tt,ff,tt,ff,ff] ?_
      refine tu 3 (some 45) ?_ #[tt,tt,tt,tt,ff,tt,ff,tt,ff,tt,ff,ff] rfl rfl (ta HT_.out HW_.out) (fun _ _ _ h => h) (Or.inl ⟨by rfl, ?_⟩) hHeld ?_ ?_ ?_; rotate_left
      ·rintro w' ⟨s0, s1, s2, s3, s4, s5, s6⟩
       go_simp
       with_reducible rfl
      rotate_left; exact sp
      refine tu 4 (some 46) ?_ #[tt,tt,tt,tt,tt,tt,ff,tt,ff,tt,ff,ff] rfl rfl (ta HT_.out HW_.out) (fun _ _ _ h => h) (Or.inl ⟨by rfl, ?_⟩) hHeld ?_ ?_ ?_; rotate_left
      ·rintro w' ⟨s0, s1, s2, s3, s4, s5, s6⟩
       go_simp
       with_reducible rfl
      rotate_left; exact sp
      refine o1 6 (some 48) HT_.out #[tt,tt,tt,tt,tt,tt,tt,tt,ff,tt,ff,ff] fun K hK => ?_
      refine gV Tryd.func47 #[.agg #[.slice (some ad249) l0_0.length c0_0, .slice A0_1 l0_1.length c0_1, .slice A0_2 l0_2.length c0_2, .slice A0_3 l0_3.length c0_3, fnv a0_4, fnv a0_5, .func (.func 60) #[] #[]], .int .i64 t254] ?_
      with_reducible refine (word_tongue_small.calls kj21 _ _ l0_0 _ _ l0_1 _ _ l0_2 _ _ l0_3 a0_4 a0_5 (some 60) t254 t256 _ ?_ ?_ ?_ ?_ ?_ ?_ ?_ ?_ A36.out).mono ?_
      exact C_st (Kd.C_below HR0_0.out HB.out)
      exact HC0_0.out
      exact C_st (Kd.C_below HR0_1.out HB.out)
      exact HC0_1.out
      exact C_st (Kd.C_below HR0_2.out HB.out)
      exact HC0_2.out
      exact C_st (Kd.C_below HR0_3.out HB.out)
      exact HC0_3.out
      rintro e w40 ⟨rfl, hb⟩
      refine ⟨_, rfl, ?_⟩; replace BK243 := kb BK243 hb; replace HB := bsp HB hb
      (try clear hb)
      (try clear hb2)
      (try clear hk)
      (try clear hi)
      refine hK.out _ _ ⟨bc BK243.out 0, bc BK243.out 1, bc BK243.out 2, bc BK243.out 3, bc BK243.out 4, bc BK243.out 5, bc BK243.out 6⟩ (fun hHeld => ?_); clear hK K
      refine norm_ (a' := ?_) ?_ ?_; rotate_left
      ·show Act.put _ (some 48) _ = _
       simp only [Act.put, sa_, s0_, s1_, i64_w, i32_w]
       rfl
      refine o1 8 (some 50) HT_.out #[tt,tt,tt,tt,tt,tt,tt,tt,tt,tt,ff,ff] fun K hK => ?_
      refine gV Tryd.func60 #[.string t256, .int .i64 t254] ?_
      with_reducible refine (word_tongues_3.calls t256 t254 t257 _ A38.out).mono ?_
      rintro e w' ⟨rfl, ⟨nd, rfl⟩⟩
      refine ⟨_, rfl, ?_⟩
      refine hK.out _ _ ⟨bc BK243.out 0, bc BK243.out 1, bc BK243.out 2, bc BK243.out 3, bc BK243.out 4, bc BK243.out 5, bc BK243.out 6⟩ (fun hHeld => ?_); clear hK K
      refine norm_ (a' := ?_) ?_ ?_; rotate_left
      ·show Act.put _ (some 50) _ = _
       simp only [Act.put, sa_, s0_, s1_, i64_w, i32_w]
       rfl
      refine pv 10 (some 52) HT_.out #[tt,tt,tt,tt,tt,tt,tt,tt,tt,tt,tt,ff] ?_
      refine pv 11 (some 53) HT_.out #[tt,tt,tt,tt,tt,tt,tt,tt,tt,tt,tt,tt] ?_
      refine done_ (done_of HT_.out (by kernel_rfl)) ?_
      try go_wp2
      go_meet
      case rel => exact ⟨_, ((t257.toList == a1.toList)), cd, H', ⟨by have := HJ2.out; have := HK2.out; have := HJ21.out; first | omega | exact Nat.le_refl _⟩, ⟨by exact blk_st BK243.out⟩, ⟨by exact bes HB.out⟩⟩
     rw [if_neg c37] at H
     by_cases c41 : a0_6 = some 64
     ·subst c41
      replace H := ip H
      (try simp only [fnv_some]); replace H := bm H; obtain ⟨t258, A42, H⟩ := H; replace A42 := am A42
      have H' := am H; clear H
      try go_wp2
      replace BK243 := am (blk_drew BK243.out); replace HB := am (below_drew1 HB.out)
      refine start_ (n := 12) (S := fun w' => w'.cell? ⟨gb243, 0, none⟩ = some (.slice (some ad249) l0_0.length c0_0) ∧ w'.cell? ⟨gb243, 1, none⟩ = some (.slice A0_1 l0_1.length c0_1) ∧ w'.cell? ⟨gb243, 2, none⟩ = some (.slice A0_2 l0_2.length c0_2) ∧ w'.cell? ⟨gb243, 3, none⟩ = some (.slice A0_3 l0_3.length c0_3) ∧ w'.cell? ⟨gb243, 4, none⟩ = some (fnv a0_4) ∧ w'.cell? ⟨gb243, 5, none⟩ = some (fnv a0_5) ∧ w'.cell? ⟨gb243, 6, none⟩ = some (.func (.func 64) #[] #[])) (ds := []) #[ff,ff,ff,ff,ff,ff,ff,ff,ff,ff,ff,ff] (by kernel_rfl) rfl rfl ⟨bc BK243.out 0, bc BK243.out 1, bc BK243.out 2, bc BK243.out 3, bc BK243.out 4, bc BK243.out 5, bc BK243.out 6⟩ (fun hHeld => ?_); refine with_tabW word_tongue_many.tab7 word_tongue_many.bits7 (fun HT_ HW_ => ?_)
      generalize w34.drew = w43 at BK243 HB hHeld ⊢
      refine pv 0 (some 42) HT_.out #[tt,ff,ff,ff,ff,ff,ff,ff,ff,ff,ff,ff] ?_
      refine pv 1 (some 43) HT_.out #[tt,tt,ff,ff,ff,ff,ff,ff,ff,ff,ff,ff] ?_
      refine pv 2 (some 44) HT_.out #[tt,tt,tt,ff,ff,ff,ff,ff,ff,ff,ff,ff] ?_
      refine pv 5 (some 47) HT_.out #[tt,tt,tt,ff,ff,tt,ff,ff,ff,ff,ff,ff] ?_
      refine pv 7 (some 49) HT_.out #[tt,tt,tt,ff,ff,tt,ff,tt,ff,ff,ff,ff] ?_
      refine pv 9 (some 51) HT_.out #[tt,tt,tt,ff,ff,tt,ff,tt,ff,tt,ff,ff] ?_
      refine tu 3 (some 45) ?_ #[tt,tt,tt,tt,ff,tt,ff,tt,ff,tt,ff,ff] rfl rfl (ta HT_.out HW_.out) (fun _ _ _ h => h) (Or.inl ⟨by rfl, ?_⟩) hHeld ?_ ?_ ?_; rotate_left
      ·rintro w' ⟨s0, s1, s2, s3, s4, s5, s6⟩
       go_simp
       with_reducible rfl
      rotate_left; exact sp
      refine tu 4 (some 46) ?_ #[tt,tt,tt,tt,tt,tt,ff,tt,ff,tt,ff,ff] rfl rfl (ta HT_.out HW_.out) (fun _ _ _ h => h) (Or.inl ⟨by rfl, ?_⟩) hHeld ?_ ?_ ?_; rotate_left
      ·rintro w' ⟨s0, s1, s2, s3, s4, s5, s6⟩
       go_simp
       with_reducible rfl
      rotate_left; exact sp
      refine o1 6 (some 48) HT_.out #[tt,tt,tt,tt,tt,tt,tt,tt,ff,tt,ff,ff] fun K hK => ?_
      refine gV Tryd.func47 #[.agg #[.slice (some ad249) l0_0.length c0_0, .slice A0_1 l0_1.length c0_1, .slice A0_2 l0_2.length c0_2, .slice A0_3 l0_3.length c0_3, fnv a0_4, fnv a0_5, .func (.func 64) #[] #[]], .int .i64 t254] ?_
      with_reducible refine (word_tongue_small.calls kj21 _ _ l0_0 _ _ l0_1 _ _ l0_2 _ _ l0_3 a0_4 a0_5 (some 64) t254 t256 _ ?_ ?_ ?_ ?_ ?_ ?_ ?_ ?_ A36.out).mono ?_
      exact C_st (Kd.C_below HR0_0.out HB.out)
      exact HC0_0.out
      exact C_st (Kd.C_below HR0_1.out HB.out)
      exact HC0_1.out
      exact C_st (Kd.C_below HR0_2.out HB.out)
      exact HC0_2.out
      exact C_st (Kd.C_below HR0_3.out HB.out)
      exact HC0_3.out
      rintro e w44 ⟨rfl, hb⟩
      refine ⟨_, rfl, ?_⟩; replace BK243 := kb BK243 hb; replace HB := bsp HB hb
      (try clear hb)
      (try clear hb2)
      (try clear hk)
      (try clear hi)
      refine hK.out _ _ ⟨bc BK243.out 0, bc BK243.out 1, bc BK243.out 2, bc BK243.out 3, bc BK243.out 4, bc BK243.out 5, bc BK243.out 6⟩ (fun hHeld => ?_); clear hK K
      refine norm_ (a' := ?_) ?_ ?_; rotate_left
      ·show Act.put _ (some 48) _ = _
       simp only [Act.put, sa_, s0_, s1_, i64_w, i32_w]
       rfl
      refine o1 8 (some 50) HT_.out #[tt,tt,tt,tt,tt,tt,tt,tt,tt,tt,ff,ff] fun K hK => ?_
      refine gV Tryd.func64 #[.string t256, .int .i64 t254] ?_
      with_reducible refine (word_tongues_6.calls t256 t254 t258 _ A42.out).mono ?_
      rintro e w' ⟨rfl, ⟨nd, rfl⟩⟩
      refine ⟨_, rfl, ?_⟩
      refine hK.out _ _ ⟨bc BK243.out 0, bc BK243.out 1, bc BK243.out 2, bc BK243.out 3, bc BK243.out 4, bc BK243.out 5, bc BK243.out 6⟩ (fun hHeld => ?_); clear hK K
      refine norm_ (a' := ?_) ?_ ?_; rotate_left
      ·show Act.put _ (some 50) _ = _
       simp only [Act.put, sa_, s0_, s1_, i64_w, i32_w]
       rfl
      refine pv 10 (some 52) HT_.out #[tt,tt,tt,tt,tt,tt,tt,tt,tt,tt,tt,ff] ?_
      refine pv 11 (some 53) HT_.out #[tt,tt,tt,tt,tt,tt,tt,tt,tt,tt,tt,tt] ?_
      refine done_ (done_of HT_.out (by kernel_rfl)) ?_
      try go_wp2
      go_meet
      case rel => exact ⟨_, ((t258.toList == a1.toList)), cd, H', ⟨by have := HJ2.out; have := HK2.out; have := HJ21.out; first | omega | exact Nat.le_refl _⟩, ⟨by exact blk_st BK243.out⟩, ⟨by exact bes HB.out⟩⟩
     rw [if_neg c41] at H
     by_cases c45 : a0_6 = some 67; rotate_left
     ·rw [if_neg c45] at H
      exact absurd H (by simp)
     subst c45; replace H := ip H
     (try simp only [fnv_some]); replace H := bm H; obtain ⟨t259, A46, H⟩ := H; replace A46 := am A46
     have H' := am H; clear H
     try go_wp2
     replace BK243 := am (blk_drew BK243.out); replace HB := am (below_drew1 HB.out)
     refine start_ (n := 12) (S := fun w' => w'.cell? ⟨gb243, 0, none⟩ = some (.slice (some ad249) l0_0.length c0_0) ∧ w'.cell? ⟨gb243, 1, none⟩ = some (.slice A0_1 l0_1.length c0_1) ∧ w'.cell? ⟨gb243, 2, none⟩ = some (.slice A0_2 l0_2.length c0_2) ∧ w'.cell? ⟨gb243, 3, none⟩ = some (.slice A0_3 l0_3.length c0_3) ∧ w'.cell? ⟨gb243, 4, none⟩ = some (fnv a0_4) ∧ w'.cell? ⟨gb243, 5, none⟩ = some (fnv a0_5) ∧ w'.cell? ⟨gb243, 6, none⟩ = some (.func (.func 67) #[] #[])) (ds := []) #[ff,ff,ff,ff,ff,ff,ff,ff,ff,ff,ff,ff] (by kernel_rfl) rfl rfl ⟨bc BK243.out 0, bc BK243.out 1, bc BK243.out 2, bc BK243.out 3, bc BK243.out 4, bc BK243.out 5, bc BK243.out 6⟩ (fun hHeld => ?_); refine with_tabW word_tongue_many.tab7 word_tongue_many.bits7 (fun HT_ HW_ => ?_)
     generalize w34.drew = w47 at BK243 HB hHeld ⊢
     refine pv 0 (some 42) HT_.out #[tt,ff,ff,ff,ff,ff,ff,ff,ff,ff,ff,ff] ?_
     refine pv 1 (some 43) HT_.out #[tt,tt,ff,ff,ff,ff,ff,ff,ff,ff,ff,ff] ?_
     refine pv 2 (some 44) HT_.out #[tt,tt,tt,ff,ff,ff,ff,ff,ff,ff,ff,ff] ?_
     refine pv 5 (some 47) HT_.out #[tt,tt,tt,ff,ff,tt,ff,ff,ff,ff,ff,ff] ?_
     refine pv 7 (some 49) HT_.out #[tt,tt,tt,ff,ff,tt,ff,tt,ff,ff,ff,ff] ?_
     refine pv 9 (some 51) HT_.out #[tt,tt,tt,ff,ff,tt,ff,tt,ff,tt,ff,ff] ?_
     refine tu 3 (some 45) ?_ #[tt,tt,tt,tt,ff,tt,ff,tt,ff,tt,ff,ff] rfl rfl (ta HT_.out HW_.out) (fun _ _ _ h => h) (Or.inl ⟨by rfl, ?_⟩) hHeld ?_ ?_ ?_; rotate_left
     ·rintro w' ⟨s0, s1, s2, s3, s4, s5, s6⟩
      go_simp
      with_reducible rfl
     rotate_left; exact sp
     refine tu 4 (some 46) ?_ #[tt,tt,tt,tt,tt,tt,ff,tt,ff,tt,ff,ff] rfl rfl (ta HT_.out HW_.out) (fun _ _ _ h => h) (Or.inl ⟨by rfl, ?_⟩) hHeld ?_ ?_ ?_; rotate_left
     ·rintro w' ⟨s0, s1, s2, s3, s4, s5, s6⟩
      go_simp
      with_reducible rfl
     rotate_left; exact sp
     refine o1 6 (some 48) HT_.out #[tt,tt,tt,tt,tt,tt,tt,tt,ff,tt,ff,ff] fun K hK => ?_
     refine gV Tryd.func47 #[.agg #[.slice (some ad249) l0_0.length c0_0, .slice A0_1 l0_1.length c0_1, .slice A0_2 l0_2.length c0_2, .slice A0_3 l0_3.length c0_3, fnv a0_4, fnv a0_5, .func (.func 67) #[] #[]], .int .i64 t254] ?_
     with_reducible refine (word_tongue_small.calls kj21 _ _ l0_0 _ _ l0_1 _ _ l0_2 _ _ l0_3 a0_4 a0_5 (some 67) t254 t256 _ ?_ ?_ ?_ ?_ ?_ ?_ ?_ ?_ A36.out).mono ?_
     exact C_st (Kd.C_below HR0_0.out HB.out)
     exact HC0_0.out
     exact C_st (Kd.C_below HR0_1.out HB.out)
     exact HC0_1.out
     exact C_st (Kd.C_below HR0_2.out HB.out)
     exact HC0_2.out
     exact C_st (Kd.C_below HR0_3.out HB.out)
     exact HC0_3.out
     rintro e w48 ⟨rfl, hb⟩
     refine ⟨_, rfl, ?_⟩; replace BK243 := kb BK243 hb; replace HB := bsp HB hb
     (try clear hb)
     (try clear hb2)
     (try clear hk)
     (try clear hi)
     refine hK.out _ _ ⟨bc BK243.out 0, bc BK243.out 1, bc BK243.out 2, bc BK243.out 3, bc BK243.out 4, bc BK243.out 5, bc BK243.out 6⟩ (fun hHeld => ?_); clear hK K
     refine norm_ (a' := ?_) ?_ ?_; rotate_left
     ·show Act.put _ (some 48) _ = _
      simp only [Act.put, sa_, s0_, s1_, i64_w, i32_w]
      rfl
     refine o1 8 (some 50) HT_.out #[tt,tt,tt,tt,tt,tt,tt,tt,tt,tt,ff,ff] fun K hK => ?_
     refine gV Tryd.func67 #[.string t256, .int .i64 t254] ?_
     with_reducible refine (word_tongues_9.calls t256 t254 t259 _ A46.out).mono ?_
     rintro e w' ⟨rfl, ⟨nd, rfl⟩⟩
     refine ⟨_, rfl, ?_⟩
     refine hK.out _ _ ⟨bc BK243.out 0, bc BK243.out 1, bc BK243.out 2, bc BK243.out 3, bc BK243.out 4, bc BK243.out 5, bc BK243.out 6⟩ (fun hHeld => ?_); clear hK K
     refine norm_ (a' := ?_) ?_ ?_; rotate_left
     ·show Act.put _ (some 50) _ = _
      simp only [Act.put, sa_, s0_, s1_, i64_w, i32_w]
      rfl
     refine pv 10 (some 52) HT_.out #[tt,tt,tt,tt,tt,tt,tt,tt,tt,tt,tt,ff] ?_
     refine pv 11 (some 53) HT_.out #[tt,tt,tt,tt,tt,tt,tt,tt,tt,tt,tt,tt] ?_
     refine done_ (done_of HT_.out (by kernel_rfl)) ?_
     try go_wp2
     go_meet
     case rel => exact ⟨_, ((t259.toList == a1.toList)), cd, H', ⟨by have := HJ2.out; have := HK2.out; have := HJ21.out; first | omega | exact Nat.le_refl _⟩, ⟨by exact blk_st BK243.out⟩, ⟨by exact bes HB.out⟩⟩
    clear HC32
    try clear p2
    try clear q2
    try clear hx2
    try clear c3
    try clear c4
    try clear c6
    try clear p24
    try clear q24
    try clear hx24
    try clear c35
    try clear c37
    try clear c40
    try clear c41
    try clear c45
    try clear c47
    try clear Z33_0 Z33_1 Z33_2 Z33_3 Z33_4 Z33_5 Z33_6
    try clear F20_5
    try clear F20_6
    try clear F33_0 F33_1 F33_2 F33_3 F33_4 F33_5 F33_6
    try clear F8_0 F8_1 F8_2 F8_3 F8_4 F8_5 F8_6
    try clear hx249_0
    try clear p2
    try clear p249
    try clear q2
    try clear q249
    obtain ⟨kq, x53_31, rfl, HA, HJ31, BK243, HB⟩ := hcut
    cases kq with
    | zero => exact absurd HA.out (by simp [word_tongue_many.j3])
    | succ kj31 =>
     have H := HA.out; clear HA; simp only [word_tongue_many.j3] at H
     by_cases c50 : x53_31 = true
     ·subst c50
      replace H := ip H
      simp only [Option.some.injEq, Prod.mk.injEq] at H; obtain ⟨rfl, rfl⟩ := H
      go_wp2
      go_ret2
      exact ⟨er, by exact bes HB.out⟩
     replace c50 := Bool.eq_false_iff.mpr c50; subst c50; replace H := inn H
     have H' := am H; clear H
     go_wp2
     go_roundg kj31
     case measure => have := HJ2.out; have := HK2.out; have := HJ21.out; have := HJ31.out; omega
     case rel => exact ⟨(wrap64 (x33_2 + 1)), cd, H', ⟨by have := HJ2.out; have := HK2.out; have := HJ21.out; have := HJ31.out; omega⟩, ⟨by exact blk_st BK243.out⟩, ⟨by exact bes HB.out⟩⟩

end Go.Proofs.YtjgobfbjmlacjaaDoor.XA
