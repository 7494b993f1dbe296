-- Written by wip/xprint.py (a driver of mine over the kit's printer) for this claim.
import Derived.Test.YtjgobfbjmlacjaaDoorXA0
import Derived.Test.YtjgobfbjmlacjaaDoorXA1
import Derived.Test.YtjgobfbjmlacjaaDoorXA2
namespace Go.Proofs.YtjgobfbjmlacjaaDoor.XA
open Go.RowKit Go.Proofs.YtjgobfbjmlacjaaDoorW.PrintWords Go.Proofs.YtjgobfbjmlacjaaDoorW.PrintLast Go.Proofs.YtjgobfbjmlacjaaDoorW.PrintMore
open Bool renaming true → tt, false → ff
open _root_.ByteArray renaming mk → B_
attribute [local go_sem] max2_int min2_int max_two min_two max_three min_three max_four min_four   -- for this text's walks alone
set_option maxHeartbeats 8000000
set_option maxRecDepth 100000
set_option linter.unusedVariables false
set_option linter.unusedSimpArgs false

/-! ### stringslite_HasPrefix: function 89 -/
def stringslite_HasPrefix.f (a0 : ByteArray) (a1 : ByteArray) : Option (Bool) := if (a0.size : Int) ≥ (a1.size : Int) then (if 0 ≤ (a1.size : Int) then (if (a1.size : Int) ≤ (a0.size : Int) then (some ((a0.extract 0 ((a1.size : Int) : Int).toNat).toList == a1.toList)) else (none)) else (none)) else (some false)
theorem stringslite_HasPrefix.calls (a0 : ByteArray) (a1 : ByteArray) (r : Bool) (w : World) (h : stringslite_HasPrefix.f a0 a1 = some r) :
  Calls Tryd.prog 89 #[.string a0, .string a1] w fun e w' => e = .returned (.bool r) ∧ Drawn0 w w' := by
 have H := h; clear h; unfold stringslite_HasPrefix.f at H
 by_cases c3 : (a0.size : Int) ≥ (a1.size : Int); rotate_left
 ·rw [if_neg c3] at H
  have c3b0 := dF c3
  have c3b1 : decide (a1.size ≤ a0.size) = false := decide_eq_false (fun h => c3 (Int.ofNat_le.mpr h)); clear c3; obtain rfl := Option.some.inj H
  go_enter Tryd.func89, Tryd.ntmps89
  go_wp2
  go_ret
  exact ⟨by first | rfl | (simp; done) | (simp [*]; done), by repeat (first | exact Drawn0.refl _ | apply Drawn0.step)⟩
 rw [if_pos c3] at H
 have c3b0 := dT c3
 have c3b1 : decide (a1.size ≤ a0.size) = true := decide_eq_true (Int.ofNat_le.mp c3); clear c3
 by_cases c4 : 0 ≤ (a1.size : Int); rotate_left
 ·rw [if_neg c4] at H
  exact absurd H (by simp)
 rw [if_pos c4] at H; have c4b0 := eq_true c4
 have c4b1 := dT c4; clear c4
 by_cases c5 : (a1.size : Int) ≤ (a0.size : Int)
 ·rw [if_pos c5] at H
  have c5b0 := eq_true c5
  have c5b1 := dT c5; clear c5; obtain rfl := Option.some.inj H
  go_enter Tryd.func89, Tryd.ntmps89
  go_wp2
  go_ret
  exact ⟨by first | rfl | (simp; done) | (simp [*]; done), by repeat (first | exact Drawn0.refl _ | apply Drawn0.step)⟩
 rw [if_neg c5] at H
 exact absurd H (by simp)

/-! ### stringslite_CutPrefix: function 83 -/
def stringslite_CutPrefix.f (a0 : ByteArray) (a1 : ByteArray) : Option (ByteArray × Bool) := (stringslite_HasPrefix.f a0 a1).bind fun t221 => (if t221 = true then (if 0 ≤ (a1.size : Int) then (if (a1.size : Int) ≤ (a0.size : Int) then (some (a0.extract ((a1.size : Int) : Int).toNat a0.size, true)) else (none)) else (none)) else (some (a0, false)))
theorem stringslite_CutPrefix.calls (a0 : ByteArray) (a1 : ByteArray) (r1 : ByteArray) (r2 : Bool) (w : World) (h : stringslite_CutPrefix.f a0 a1 = some (r1, r2)) :
  Calls Tryd.prog 83 #[.string a0, .string a1] w fun e w' => e = .returned (.tuple #[.string r1, .bool r2]) ∧ Drawn0 w w' := by
 have H := h; clear h; unfold stringslite_CutPrefix.f at H; replace H := bm H; obtain ⟨t221, A3, H⟩ := H; replace A3 := am A3
 by_cases c4 : t221 = true; rotate_left
 ·replace c4 := Bool.eq_false_iff.mpr c4
  subst c4; replace H := inn H
  simp only [Option.some.injEq, Prod.mk.injEq] at H; obtain ⟨rfl, rfl⟩ := H
  go_enter Tryd.func83, Tryd.ntmps83
  go_wp2_with (first | ((with_reducible refine gate_callee (f := 89) rfl ?_); refine gL (some 8) rfl rfl Tryd.func89 #[.string a0, .string a1] ?_; (refine (stringslite_HasPrefix.calls a0 a1 false _ A3.out).mono ?_); rintro e w' ⟨rfl, ⟨nd, rfl⟩⟩; refine ⟨_, rfl, ?_⟩))
  go_ret2
  exact ⟨by first | rfl | (simp; done) | (simp [*]; done), by repeat (first | exact Drawn0.refl _ | apply Drawn0.step)⟩
 subst c4; replace H := ip H
 by_cases c5 : 0 ≤ (a1.size : Int); rotate_left
 ·rw [if_neg c5] at H
  exact absurd H (by simp)
 rw [if_pos c5] at H; have c5b0 := eq_true c5
 have c5b1 := dT c5; clear c5
 by_cases c6 : (a1.size : Int) ≤ (a0.size : Int)
 ·rw [if_pos c6] at H
  have c6b0 := eq_true c6
  have c6b1 := dT c6; clear c6; simp only [Option.some.injEq, Prod.mk.injEq] at H; obtain ⟨rfl, rfl⟩ := H
  go_enter Tryd.func83, Tryd.ntmps83
  go_wp2_with (first | ((with_reducible refine gate_callee (f := 89) rfl ?_); refine gL (some 8) rfl rfl Tryd.func89 #[.string a0, .string a1] ?_; (refine (stringslite_HasPrefix.calls a0 a1 true _ A3.out).mono ?_); rintro e w' ⟨rfl, ⟨nd, rfl⟩⟩; refine ⟨_, rfl, ?_⟩))
  go_ret2
  exact ⟨by first | rfl | (simp; done) | (simp [*]; done), by repeat (first | exact Drawn0.refl _ | apply Drawn0.step)⟩
 rw [if_neg c6] at H
 exact absurd H (by simp)

/-! ### strings_CutPrefix: function 73 -/
def strings_CutPrefix.f (a0 : ByteArray) (a1 : ByteArray) : Option (ByteArray × Bool) := (stringslite_CutPrefix.f a0 a1).bind fun bt222 => (some (bt222.1, bt222.2))
theorem strings_CutPrefix.calls (a0 : ByteArray) (a1 : ByteArray) (r1 : ByteArray) (r2 : Bool) (w : World) (h : strings_CutPrefix.f a0 a1 = some (r1, r2)) :
  Calls Tryd.prog 73 #[.string a0, .string a1] w fun e w' => e = .returned (.tuple #[.string r1, .bool r2]) ∧ Drawn0 w w' := by
 have H := h; clear h; unfold strings_CutPrefix.f at H; replace H := bm H; obtain ⟨⟨t222, t223⟩, A30, H⟩ := H; replace H : (some (t222, t223)) = some (r1, r2) := H; have A3 := am A30; clear A30; simp only [Option.some.injEq, Prod.mk.injEq] at H; obtain ⟨rfl, rfl⟩ := H
 go_enter Tryd.func73, Tryd.ntmps73
 go_wp2_with (first | ((with_reducible refine gate_callee (f := 83) rfl ?_); refine gL (some 8) rfl rfl Tryd.func83 #[.string a0, .string a1] ?_; (refine (stringslite_CutPrefix.calls a0 a1 t222 t223 _ A3.out).mono ?_); rintro e w' ⟨rfl, ⟨nd, rfl⟩⟩; refine ⟨_, rfl, ?_⟩))
 go_ret2
 exact ⟨by first | rfl | (simp; done) | (simp [*]; done), by repeat (first | exact Drawn0.refl _ | apply Drawn0.step)⟩

/-! ### word_tongue_value: function 40 -/
mutual
def word_tongue_value.l0 : Nat → ByteArray → Int → List ByteArray → List ByteArray → List ByteArray → List ByteArray → Option Nat → Option Nat → Option Nat → Option (Int × Bool)
 | 0, _, _, _, _, _, _, _, _, _ => none
 | k + 1, x1, x8, a, b, c, d, e, g, h => if x8 < 10 then (if g = some 58 then ((word_tongues_2.f a b c d e (some 58) h x8 (B_ #[])).bind fun t227 => (word_tongue_value.j1 k x1 x8 (t227.toList == x1.toList) a b c d e (some 58) h)) else (if g = some 63 then ((word_tongues_5.f a b c d e (some 63) h x8 (B_ #[])).bind fun t228 => (word_tongue_value.j1 k x1 x8 (t228.toList == x1.toList) a b c d e (some 63) h)) else (if g = some 66 then ((word_tongues_8.f a b c d e (some 66) h x8 (B_ #[])).bind fun t229 => (word_tongue_value.j1 k x1 x8 (t229.toList == x1.toList) a b c d e (some 66) h)) else (none)))) else (some (0, false))
def word_tongue_value.j1 : Nat → ByteArray → Int → Bool → List ByteArray → List ByteArray → List ByteArray → List ByteArray → Option Nat → Option Nat → Option Nat → Option (Int × Bool)
 | 0, _, _, _, _, _, _, _, _, _, _ => none
 | k + 1, x1, x8, x33, a, b, c, d, e, g, h => if x33 = true then (some (wrap64 (100 * x8), true)) else (if g = some 58 then ((word_tongues_2.f a b c d e (some 58) h x8 (B_ #[63])).bind fun t230 => ((strings_CutSuffix.f t230 (B_ #[63])).bind fun bt231 => (word_tongue_value.j2 k x1 x8 bt231.1 a b c d e (some 58) h))) else (if g = some 63 then ((word_tongues_5.f a b c d e (some 63) h x8 (B_ #[63])).bind fun t233 => ((strings_CutSuffix.f t233 (B_ #[63])).bind fun bt234 => (word_tongue_value.j2 k x1 x8 bt234.1 a b c d e (some 63) h))) else (if g = some 66 then ((word_tongues_8.f a b c d e (some 66) h x8 (B_ #[63])).bind fun t236 => ((strings_CutSuffix.f t236 (B_ #[63])).bind fun bt237 => (word_tongue_value.j2 k x1 x8 bt237.1 a b c d e (some 66) h))) else (none))))
def word_tongue_value.j2 : Nat → ByteArray → Int → ByteArray → List ByteArray → List ByteArray → List ByteArray → List ByteArray → Option Nat → Option Nat → Option Nat → Option (Int × Bool)
 | 0, _, _, _, _, _, _, _, _, _, _ => none
 | k + 1, x1, x8, x9, a, b, c, d, e, g, h => (strings_CutPrefix.f x1 x9).bind fun bt239 => (if bt239.2 = true then ((word_tongue_rest.f k a b c d e g h bt239.1).bind fun bt241 => (if bt241.2 = true then (some (wrap64 ((wrap64 (100 * x8)) + bt241.1), true)) else (word_tongue_value.l0 k x1 (wrap64 (x8 + 1)) a b c d e g h))) else (word_tongue_value.l0 k x1 (wrap64 (x8 + 1)) a b c d e g h))
end
def word_tongue_value.f (k : Nat) (l0_0 : List ByteArray) (l0_1 : List ByteArray) (l0_2 : List ByteArray) (l0_3 : List ByteArray) (a0_4 : Option Nat) (a0_5 : Option Nat) (a0_6 : Option Nat) (a1 : ByteArray) : Option (Int × Bool) := (word_tongue_rest.f k l0_0 l0_1 l0_2 l0_3 a0_4 a0_5 a0_6 a1).bind fun bt225 => (if bt225.2 = true then (some (bt225.1, true)) else (word_tongue_value.l0 k a1 1 l0_0 l0_1 l0_2 l0_3 a0_4 a0_5 a0_6))
theorem word_tongue_value.mono_l : ∀ k, (∀ y0 y1 y2 y3 y4 y5 y6 y7 y8, LeO (word_tongue_value.l0 k y0 y1 y2 y3 y4 y5 y6 y7 y8) (word_tongue_value.l0 (k + 1) y0 y1 y2 y3 y4 y5 y6 y7 y8)) ∧ (∀ y0 y1 y2 y3 y4 y5 y6 y7 y8 y9, LeO (word_tongue_value.j1 k y0 y1 y2 y3 y4 y5 y6 y7 y8 y9) (word_tongue_value.j1 (k + 1) y0 y1 y2 y3 y4 y5 y6 y7 y8 y9)) ∧ (∀ y0 y1 y2 y3 y4 y5 y6 y7 y8 y9, LeO (word_tongue_value.j2 k y0 y1 y2 y3 y4 y5 y6 y7 y8 y9) (word_tongue_value.j2 (k + 1) y0 y1 y2 y3 y4 y5 y6 y7 y8 y9))
 | 0 => ⟨fun _ _ _ _ _ _ _ _ _ r h => by simp [word_tongue_value.l0] at h, fun _ _ _ _ _ _ _ _ _ _ r h => by simp [word_tongue_value.j1] at h, fun _ _ _ _ _ _ _ _ _ _ r h => by simp [word_tongue_value.j2] at h⟩
 | k + 1 => by
  obtain ⟨ih0, ih1, ih2⟩ := word_tongue_value.mono_l k
  refine ⟨?_, ?_, ?_⟩
  all_goals
   intros; first | unfold word_tongue_value.l0 | unfold word_tongue_value.j1 | unfold word_tongue_value.j2
   repeat' first
   | (with_reducible exact ih0 _ _ _ _ _ _ _ _ _)
   | (with_reducible exact ih1 _ _ _ _ _ _ _ _ _ _)
   | (with_reducible exact ih2 _ _ _ _ _ _ _ _ _ _)
   | (with_reducible exact word_tongue_rest.mono _ _ _ _ _ _ _ _ _)
   | (with_reducible exact LeO.refl _)
   | (with_reducible exact LeO.none _)
   | (with_reducible refine LeO.ite ?_ ?_)
   | (with_reducible refine LeO.bind ?_ (fun _ => ?_))
theorem word_tongue_value.mono : ∀ a0 a1 a2 a3 a4 a5 a6 a7 k, LeO (word_tongue_value.f k a0 a1 a2 a3 a4 a5 a6 a7) (word_tongue_value.f (k + 1) a0 a1 a2 a3 a4 a5 a6 a7) := by
 intro a0 a1 a2 a3 a4 a5 a6 a7 k; obtain ⟨ih0, ih1, ih2⟩ := word_tongue_value.mono_l k
 unfold word_tongue_value.f
 repeat' first
   | (with_reducible exact ih0 _ _ _ _ _ _ _ _ _)
   | (with_reducible exact ih1 _ _ _ _ _ _ _ _ _ _)
   | (with_reducible exact ih2 _ _ _ _ _ _ _ _ _ _)
   | (with_reducible exact word_tongue_rest.mono _ _ _ _ _ _ _ _ _)
   | (with_reducible exact LeO.refl _)
   | (with_reducible exact LeO.none _)
   | (with_reducible refine LeO.ite ?_ ?_)
   | (with_reducible refine LeO.bind ?_ (fun _ => ?_))
theorem word_tongue_value.calls (k : Nat) (A0_0 : Option Addr) (c0_0 : Nat) (l0_0 : List ByteArray) (A0_1 : Option Addr) (c0_1 : Nat) (l0_1 : List ByteArray) (A0_2 : Option Addr) (c0_2 : Nat) (l0_2 : List ByteArray) (A0_3 : Option Addr) (c0_3 : Nat) (l0_3 : List ByteArray) (a0_4 : Option Nat) (a0_5 : Option Nat) (a0_6 : Option Nat) (a1 : ByteArray) (r1 : Int) (r2 : Bool) (w : World) (hr0_0 : Kd.C Kd.string w A0_0 l0_0.length l0_0) (hc0_0 : l0_0.length ≤ c0_0) (hr0_1 : Kd.C Kd.string w A0_1 l0_1.length l0_1) (hc0_1 : l0_1.length ≤ c0_1) (hr0_2 : Kd.C Kd.string w A0_2 l0_2.length l0_2) (hc0_2 : l0_2.length ≤ c0_2) (hr0_3 : Kd.C Kd.string w A0_3 l0_3.length l0_3) (hc0_3 : l0_3.length ≤ c0_3) (h : word_tongue_value.f k l0_0 l0_1 l0_2 l0_3 a0_4 a0_5 a0_6 a1 = some (r1, r2)) :
  Calls Tryd.prog 40 #[.agg #[.slice A0_0 l0_0.length c0_0, .slice A0_1 l0_1.length c0_1, .slice A0_2 l0_2.length c0_2, .slice A0_3 l0_3.length c0_3, fnv a0_4, fnv a0_5, fnv a0_6], .string a1] w fun e w' => e = .returned (.tuple #[.int .i64 r1, .bool r2]) ∧ Below w.heap.size w w' := by
 have hu59 := Tryd.underlying59; have HR0_0 := am hr0_0; have HC0_0 := am hc0_0; clear hr0_0 hc0_0; have HR0_1 := am hr0_1; have HC0_1 := am hc0_1; clear hr0_1 hc0_1; have HR0_2 := am hr0_2; have HC0_2 := am hc0_2; clear hr0_2 hc0_2; have HR0_3 := am hr0_3; have HC0_3 := am hc0_3; clear hr0_3 hc0_3; have HB := am (Below.refl w.heap.size w)
 have H := h; clear h; unfold word_tongue_value.f at H; replace H := bm H; obtain ⟨⟨t225, t226⟩, A30, H⟩ := H; replace H : (if t226 = true then (some (t225, true)) else (word_tongue_value.l0 k a1 1 l0_0 l0_1 l0_2 l0_3 a0_4 a0_5 a0_6)) = some (r1, r2) := H; have A3 := am A30; clear A30
 by_cases c4 : t226 = true
 ·subst c4
  replace H := ip H
  simp only [Option.some.injEq, Prod.mk.injEq] at H; obtain ⟨rfl, rfl⟩ := H
  go_enter Tryd.func40, Tryd.ntmps40
  go_wp2_with (first | ((with_reducible refine gate_dst (N := 2) rfl ?_); refine bx 2 #[.slice A0_0 l0_0.length c0_0, .slice A0_1 l0_1.length c0_1, .slice A0_2 l0_2.length c0_2, .slice A0_3 l0_3.length c0_3, fnv a0_4, fnv a0_5, fnv a0_6] 59 ?_; intro gb224 hg w5 hbox hb; have BK224 := am hbox; have GW224 := gwm hg HB; have GE224 := gem hg HB; replace HB := bsp HB hb; clear hb hbox hg; have Z6_0 := z0 BK224.out; have Z6_1 := z1 BK224.out; have Z6_2 := z2 BK224.out; have Z6_3 := z3 BK224.out; have Z6_4 := z4 BK224.out; have Z6_5 := z5 BK224.out; have Z6_6 := z6 BK224.out; have F6_0 := fz BK224.out 0; have F6_1 := fz BK224.out 1; have F6_2 := fz BK224.out 2; have F6_3 := fz BK224.out 3; have F6_4 := fz BK224.out 4; have F6_5 := fz BK224.out 5; have F6_6 := fz BK224.out 6) | ((with_reducible refine gate_callee (f := 72) rfl ?_); refine gL (some 18) rfl rfl Tryd.func72 #[.agg #[.slice A0_0 l0_0.length c0_0, .slice A0_1 l0_1.length c0_1, .slice A0_2 l0_2.length c0_2, .slice A0_3 l0_3.length c0_3, fnv a0_4, fnv a0_5, fnv a0_6], .string a1] ?_; (refine (word_tongue_rest.calls k _ _ l0_0 _ _ l0_1 _ _ l0_2 _ _ l0_3 a0_4 a0_5 a0_6 a1 t225 true _ ?_ ?_ ?_ ?_ ?_ ?_ ?_ ?_ A3.out).mono ?_); exact C_st (Kd.C_below HR0_0.out HB.out); exact HC0_0.out; exact C_st (Kd.C_below HR0_1.out HB.out); exact HC0_1.out; exact C_st (Kd.C_below HR0_2.out HB.out); exact HC0_2.out; exact C_st (Kd.C_below HR0_3.out HB.out); exact HC0_3.out; rintro e w7 ⟨rfl, hb⟩; refine ⟨_, rfl, ?_⟩; replace BK224 := kb BK224 hb; replace HB := bsp HB hb; (try clear hb)))
  go_ret2
  exact ⟨er, by exact bes HB.out⟩
 replace c4 := Bool.eq_false_iff.mpr c4; subst c4; replace H := inn H
 have H' := am H; clear H
 go_enter Tryd.func40, Tryd.ntmps40
 go_wp2_with (first | ((with_reducible refine gate_dst (N := 2) rfl ?_); refine bx 2 #[.slice A0_0 l0_0.length c0_0, .slice A0_1 l0_1.length c0_1, .slice A0_2 l0_2.length c0_2, .slice A0_3 l0_3.length c0_3, fnv a0_4, fnv a0_5, fnv a0_6] 59 ?_; intro gb224 hg w8 hbox hb; have BK224 := am hbox; have GW224 := gwm hg HB; have GE224 := gem hg HB; replace HB := bsp HB hb; clear hb hbox hg; have Z9_0 := z0 BK224.out; have Z9_1 := z1 BK224.out; have Z9_2 := z2 BK224.out; have Z9_3 := z3 BK224.out; have Z9_4 := z4 BK224.out; have Z9_5 := z5 BK224.out; have Z9_6 := z6 BK224.out; have F9_0 := fz BK224.out 0; have F9_1 := fz BK224.out 1; have F9_2 := fz BK224.out 2; have F9_3 := fz BK224.out 3; have F9_4 := fz BK224.out 4; have F9_5 := fz BK224.out 5; have F9_6 := fz BK224.out 6) | ((with_reducible refine gate_callee (f := 72) rfl ?_); refine gL (some 18) rfl rfl Tryd.func72 #[.agg #[.slice A0_0 l0_0.length c0_0, .slice A0_1 l0_1.length c0_1, .slice A0_2 l0_2.length c0_2, .slice A0_3 l0_3.length c0_3, fnv a0_4, fnv a0_5, fnv a0_6], .string a1] ?_; (refine (word_tongue_rest.calls k _ _ l0_0 _ _ l0_1 _ _ l0_2 _ _ l0_3 a0_4 a0_5 a0_6 a1 t225 false _ ?_ ?_ ?_ ?_ ?_ ?_ ?_ ?_ A3.out).mono ?_); exact C_st (Kd.C_below HR0_0.out HB.out); exact HC0_0.out; exact C_st (Kd.C_below HR0_1.out HB.out); exact HC0_1.out; exact C_st (Kd.C_below HR0_2.out HB.out); exact HC0_2.out; exact C_st (Kd.C_below HR0_3.out HB.out); exact HC0_3.out; rintro e w10 ⟨rfl, hb⟩; refine ⟨_, rfl, ?_⟩; replace BK224 := kb BK224 hb; replace HB := bsp HB hb; (try clear hb)))
 go_loopg [8] k (fun kq v8 w' => ∃ (x8_1 : Int), v8 = .int .i64 x8_1 ∧ Aside0 (word_tongue_value.l0 kq a1 x8_1 l0_0 l0_1 l0_2 l0_3 a0_4 a0_5 a0_6 = some (r1, r2)) ∧ Aside0 (kq ≤ k) ∧ Aside0 (w'.heap[gb224]? = some (.cells #[(.slice A0_0 l0_0.length c0_0), (.slice A0_1 l0_1.length c0_1), (.slice A0_2 l0_2.length c0_2), (.slice A0_3 l0_3.length c0_3), fnv a0_4, fnv a0_5, fnv a0_6] 59 (0, 0))) ∧ Aside0 (Below w.heap.size w w'))
 case atStart => exact ⟨(1), cd, H', ⟨Nat.le_refl _⟩, ⟨by exact blk_st BK224.out⟩, ⟨by exact bes HB.out⟩⟩
 clear H'
 try clear p2
 try clear c4
 try clear c7
 try clear Z6_0 Z6_1 Z6_2 Z6_3 Z6_4 Z6_5 Z6_6
 try clear Z9_0 Z9_1 Z9_2 Z9_3 Z9_4 Z9_5 Z9_6
 try clear F6_0 F6_1 F6_2 F6_3 F6_4 F6_5 F6_6
 try clear F9_0 F9_1 F9_2 F9_3 F9_4 F9_5 F9_6
 obtain ⟨x8_1, rfl, HA, HK1, BK224, HB⟩ := hrel
 cases gk with
 | zero => exact absurd HA.out (by simp [word_tongue_value.l0])
 | succ k1 =>
  have H := HA.out; clear HA; simp only [word_tongue_value.l0] at H
  by_cases c11 : x8_1 < 10; rotate_left
  ·rw [if_neg c11] at H
   have c11b0 := dF c11; clear c11; simp only [Option.some.injEq, Prod.mk.injEq] at H; obtain ⟨rfl, rfl⟩ := H
   go_wp2
   go_ret2
   exact ⟨er, by exact bes HB.out⟩
  rw [if_pos c11] at H
  have c11b0 := dT c11; clear c11; have HC12 := am H; clear H
  go_upto_region 7 with (fail)
  go_cut [33] (fun v33 wc => ∃ (kq : Nat) (x33_11 : Bool), v33 = .bool x33_11 ∧ Aside0 (word_tongue_value.j1 kq a1 x8_1 x33_11 l0_0 l0_1 l0_2 l0_3 a0_4 a0_5 a0_6 = some (r1, r2)) ∧ Aside0 (kq ≤ k1) ∧ Aside0 (wc.heap[gb224]? = some (.cells #[(.slice A0_0 l0_0.length c0_0), (.slice A0_1 l0_1.length c0_1), (.slice A0_2 l0_2.length c0_2), (.slice A0_3 l0_3.length c0_3), fnv a0_4, fnv a0_5, fnv a0_6] 59 (0, 0))) ∧ Aside0 (Below w.heap.size w wc))
  case first =>
   have H := HC12.out; clear HC12
   by_cases c13 : a0_5 = some 58
   ·subst c13
    replace H := ip H
    (try simp only [fnv_some]); replace H := bm H; obtain ⟨t227, A14, H⟩ := H; replace A14 := am A14
    have H' := am H; clear H
    have Z15_0 := z0 BK224.out
    have Z15_1 := z1 BK224.out
    have Z15_2 := z2 BK224.out
    have Z15_3 := z3 BK224.out
    have Z15_4 := z4 BK224.out
    have Z15_5 := z5 BK224.out
    have Z15_6 := z6 BK224.out; have F15_0 := fz BK224.out 0; have F15_1 := fz BK224.out 1; have F15_2 := fz BK224.out 2; have F15_3 := fz BK224.out 3; have F15_4 := fz BK224.out 4; have F15_5 := fz BK224.out 5; have F15_6 := fz BK224.out 6
    go_wp2_with (first | (go_at_call 58; (refine (word_tongues_2.calls _ _ l0_0 _ _ l0_1 _ _ l0_2 _ _ l0_3 a0_4 (some 58) a0_6 x8_1 (B_ #[]) t227 _ ?_ ?_ ?_ ?_ ?_ ?_ ?_ ?_ A14.out).mono ?_); exact C_st (Kd.C_below HR0_0.out HB.out); exact HC0_0.out; exact C_st (Kd.C_below HR0_1.out HB.out); exact HC0_1.out; exact C_st (Kd.C_below HR0_2.out HB.out); exact HC0_2.out; exact C_st (Kd.C_below HR0_3.out HB.out); exact HC0_3.out; rintro e w16 ⟨rfl, hb⟩; replace BK224 := kb BK224 hb; replace HB := bsp HB hb; (try clear hb)))
    go_meet
    case rel => exact ⟨_, ((t227.toList == a1.toList)), cd, H', ⟨by have := HK1.out; first | omega | exact Nat.le_refl _⟩, ⟨by exact blk_st BK224.out⟩, ⟨by exact bes HB.out⟩⟩
   rw [if_neg c13] at H
   by_cases c17 : a0_5 = some 63
   ·subst c17
    replace H := ip H
    (try simp only [fnv_some]); replace H := bm H; obtain ⟨t228, A18, H⟩ := H; replace A18 := am A18
    have H' := am H; clear H
    have Z19_0 := z0 BK224.out
    have Z19_1 := z1 BK224.out
    have Z19_2 := z2 BK224.out
    have Z19_3 := z3 BK224.out
    have Z19_4 := z4 BK224.out
    have Z19_5 := z5 BK224.out
    have Z19_6 := z6 BK224.out; have F19_0 := fz BK224.out 0; have F19_1 := fz BK224.out 1; have F19_2 := fz BK224.out 2; have F19_3 := fz BK224.out 3; have F19_4 := fz BK224.out 4; have F19_5 := fz BK224.out 5; have F19_6 := fz BK224.out 6
    go_wp2_with (first | (go_at_call 63; (refine (word_tongues_5.calls _ _ l0_0 _ _ l0_1 _ _ l0_2 _ _ l0_3 a0_4 (some 63) a0_6 x8_1 (B_ #[]) t228 _ ?_ ?_ ?_ ?_ ?_ ?_ ?_ ?_ A18.out).mono ?_); exact C_st (Kd.C_below HR0_0.out HB.out); exact HC0_0.out; exact C_st (Kd.C_below HR0_1.out HB.out); exact HC0_1.out; exact C_st (Kd.C_below HR0_2.out HB.out); exact HC0_2.out; exact C_st (Kd.C_below HR0_3.out HB.out); exact HC0_3.out; rintro e w20 ⟨rfl, hb⟩; replace BK224 := kb BK224 hb; replace HB := bsp HB hb; (try clear hb)))
    go_meet
    case rel => exact ⟨_, ((t228.toList == a1.toList)), cd, H', ⟨by have := HK1.out; first | omega | exact Nat.le_refl _⟩, ⟨by exact blk_st BK224.out⟩, ⟨by exact bes HB.out⟩⟩
   rw [if_neg c17] at H
   by_cases c21 : a0_5 = some 66; rotate_left
   ·rw [if_neg c21] at H
    exact absurd H (by simp)
   subst c21; replace H := ip H
   (try simp only [fnv_some]); replace H := bm H; obtain ⟨t229, A22, H⟩ := H; replace A22 := am A22
   have H' := am H; clear H
   have Z23_0 := z0 BK224.out
   have Z23_1 := z1 BK224.out
   have Z23_2 := z2 BK224.out
   have Z23_3 := z3 BK224.out
   have Z23_4 := z4 BK224.out
   have Z23_5 := z5 BK224.out
   have Z23_6 := z6 BK224.out; have F23_0 := fz BK224.out 0; have F23_1 := fz BK224.out 1; have F23_2 := fz BK224.out 2; have F23_3 := fz BK224.out 3; have F23_4 := fz BK224.out 4; have F23_5 := fz BK224.out 5; have F23_6 := fz BK224.out 6
   go_wp2_with (first | (go_at_call 66; (refine (word_tongues_8.calls _ _ l0_0 _ _ l0_1 _ _ l0_2 _ _ l0_3 a0_4 (some 66) a0_6 x8_1 (B_ #[]) t229 _ ?_ ?_ ?_ ?_ ?_ ?_ ?_ ?_ A22.out).mono ?_); exact C_st (Kd.C_below HR0_0.out HB.out); exact HC0_0.out; exact C_st (Kd.C_below HR0_1.out HB.out); exact HC0_1.out; exact C_st (Kd.C_below HR0_2.out HB.out); exact HC0_2.out; exact C_st (Kd.C_below HR0_3.out HB.out); exact HC0_3.out; rintro e w24 ⟨rfl, hb⟩; replace BK224 := kb BK224 hb; replace HB := bsp HB hb; (try clear hb)))
   go_meet
   case rel => exact ⟨_, ((t229.toList == a1.toList)), cd, H', ⟨by have := HK1.out; first | omega | exact Nat.le_refl _⟩, ⟨by exact blk_st BK224.out⟩, ⟨by exact bes HB.out⟩⟩
  clear HC12
  try clear c1
  try clear c2
  try clear p2
  try clear c4
  try clear c7
  try clear c11
  try clear c11b0
  try clear c13
  try clear c17
  try clear c21
  try clear Z15_0 Z15_1 Z15_2 Z15_3 Z15_4 Z15_5 Z15_6
  try clear Z19_0 Z19_1 Z19_2 Z19_3 Z19_4 Z19_5 Z19_6
  try clear Z23_0 Z23_1 Z23_2 Z23_3 Z23_4 Z23_5 Z23_6
  try clear Z6_0 Z6_1 Z6_2 Z6_3 Z6_4 Z6_5 Z6_6
  try clear Z9_0 Z9_1 Z9_2 Z9_3 Z9_4 Z9_5 Z9_6
  try clear F15_0 F15_1 F15_2 F15_3 F15_4 F15_5 F15_6
  try clear F19_0 F19_1 F19_2 F19_3 F19_4 F19_5 F19_6
  try clear F23_0 F23_1 F23_2 F23_3 F23_4 F23_5 F23_6
  try clear F6_0 F6_1 F6_2 F6_3 F6_4 F6_5 F6_6
  try clear F9_0 F9_1 F9_2 F9_3 F9_4 F9_5 F9_6
  try clear p2
  obtain ⟨kq, x33_11, rfl, HA, HJ11, BK224, HB⟩ := hcut
  cases kq with
  | zero => exact absurd HA.out (by simp [word_tongue_value.j1])
  | succ kj11 =>
   have H := HA.out; clear HA; simp only [word_tongue_value.j1] at H
   by_cases c25 : x33_11 = true
   ·subst c25
    replace H := ip H
    simp only [Option.some.injEq, Prod.mk.injEq] at H; obtain ⟨rfl, rfl⟩ := H
    go_wp2
    go_ret2
    exact ⟨er, by exact bes HB.out⟩
   replace c25 := Bool.eq_false_iff.mpr c25; subst c25; replace H := inn H
   have HC26 := am H; clear H
   go_upto_region 9 with (fail)
   go_cut [9] (fun v9 wc => ∃ (kq : Nat) (x9_25 : ByteArray), v9 = .string x9_25 ∧ Aside0 (word_tongue_value.j2 kq a1 x8_1 x9_25 l0_0 l0_1 l0_2 l0_3 a0_4 a0_5 a0_6 = some (r1, r2)) ∧ Aside0 (kq ≤ kj11) ∧ Aside0 (wc.heap[gb224]? = some (.cells #[(.slice A0_0 l0_0.length c0_0), (.slice A0_1 l0_1.length c0_1), (.slice A0_2 l0_2.length c0_2), (.slice A0_3 l0_3.length c0_3), fnv a0_4, fnv a0_5, fnv a0_6] 59 (0, 0))) ∧ Aside0 (Below w.heap.size w wc))
   case first =>
    have H := HC26.out; clear HC26
    by_cases c27 : a0_5 = some 58
    ·subst c27
     replace H := ip H
     (try simp only [fnv_some]); replace H := bm H; obtain ⟨t230, A28, H⟩ := H; replace A28 := am A28; replace H := bm H; obtain ⟨⟨t231, t232⟩, A290, H⟩ := H; replace H : (word_tongue_value.j2 kj11 a1 x8_1 t231 l0_0 l0_1 l0_2 l0_3 a0_4 (some 58) a0_6) = some (r1, r2) := H; have A29 := am A290; clear A290
     have H' := am H; clear H
     have Z30_0 := z0 BK224.out
     have Z30_1 := z1 BK224.out
     have Z30_2 := z2 BK224.out
     have Z30_3 := z3 BK224.out
     have Z30_4 := z4 BK224.out
     have Z30_5 := z5 BK224.out
     have Z30_6 := z6 BK224.out; have F30_0 := fz BK224.out 0; have F30_1 := fz BK224.out 1; have F30_2 := fz BK224.out 2; have F30_3 := fz BK224.out 3; have F30_4 := fz BK224.out 4; have F30_5 := fz BK224.out 5; have F30_6 := fz BK224.out 6
     go_wp2_with (first | (go_at_call 58; (refine (word_tongues_2.calls _ _ l0_0 _ _ l0_1 _ _ l0_2 _ _ l0_3 a0_4 (some 58) a0_6 x8_1 (B_ #[63]) t230 _ ?_ ?_ ?_ ?_ ?_ ?_ ?_ ?_ A28.out).mono ?_); exact C_st (Kd.C_below HR0_0.out HB.out); exact HC0_0.out; exact C_st (Kd.C_below HR0_1.out HB.out); exact HC0_1.out; exact C_st (Kd.C_below HR0_2.out HB.out); exact HC0_2.out; exact C_st (Kd.C_below HR0_3.out HB.out); exact HC0_3.out; rintro e w31 ⟨rfl, hb⟩; replace BK224 := kb BK224 hb; replace HB := bsp HB hb; (try clear hb)) | ((with_reducible refine gate_callee (f := 68) rfl ?_); refine gL (some 42) rfl rfl Tryd.func68 #[.string t230, .string (B_ #[63])] ?_; (refine (strings_CutSuffix.calls t230 (B_ #[63]) t231 t232 _ A29.out).mono ?_); rintro e w' ⟨rfl, ⟨nd, rfl⟩⟩; refine ⟨_, rfl, ?_⟩))
     go_meet
     case rel => exact ⟨_, (t231), cd, H', ⟨by have := HK1.out; have := HJ11.out; first | omega | exact Nat.le_refl _⟩, ⟨by exact blk_st BK224.out⟩, ⟨by exact bes HB.out⟩⟩
    rw [if_neg c27] at H
    by_cases c32 : a0_5 = some 63
    ·subst c32
     replace H := ip H
     (try simp only [fnv_some]); replace H := bm H; obtain ⟨t233, A33, H⟩ := H; replace A33 := am A33; replace H := bm H; obtain ⟨⟨t234, t235⟩, A340, H⟩ := H; replace H : (word_tongue_value.j2 kj11 a1 x8_1 t234 l0_0 l0_1 l0_2 l0_3 a0_4 (some 63) a0_6) = some (r1, r2) := H; have A34 := am A340; clear A340
     have H' := am H; clear H
     have Z35_0 := z0 BK224.out
     have Z35_1 := z1 BK224.out
     have Z35_2 := z2 BK224.out
     have Z35_3 := z3 BK224.out
     have Z35_4 := z4 BK224.out
     have Z35_5 := z5 BK224.out
     have Z35_6 := z6 BK224.out; have F35_0 := fz BK224.out 0; have F35_1 := fz BK224.out 1; have F35_2 := fz BK224.out 2; have F35_3 := fz BK224.out 3; have F35_4 := fz BK224.out 4; have F35_5 := fz BK224.out 5; have F35_6 := fz BK224.out 6
     go_wp2_with (first | (go_at_call 63; (refine (word_tongues_5.calls _ _ l0_0 _ _ l0_1 _ _ l0_2 _ _ l0_3 a0_4 (some 63) a0_6 x8_1 (B_ #[63]) t233 _ ?_ ?_ ?_ ?_ ?_ ?_ ?_ ?_ A33.out).mono ?_); exact C_st (Kd.C_below HR0_0.out HB.out); exact HC0_0.out; exact C_st (Kd.C_below HR0_1.out HB.out); exact HC0_1.out; exact C_st (Kd.C_below HR0_2.out HB.out); exact HC0_2.out; exact C_st (Kd.C_below HR0_3.out HB.out); exact HC0_3.out; rintro e w36 ⟨rfl, hb⟩; replace BK224 := kb BK224 hb; replace HB := bsp HB hb; (try clear hb)) | ((with_reducible refine gate_callee (f := 68) rfl ?_); refine gL (some 42) rfl rfl Tryd.func68 #[.string t233, .string (B_ #[63])] ?_; (refine (strings_CutSuffix.calls t233 (B_ #[63]) t234 t235 _ A34.out).mono ?_); rintro e w' ⟨rfl, ⟨nd, rfl⟩⟩; refine ⟨_, rfl, ?_⟩))
     go_meet
     case rel => exact ⟨_, (t234), cd, H', ⟨by have := HK1.out; have := HJ11.out; first | omega | exact Nat.le_refl _⟩, ⟨by exact blk_st BK224.out⟩, ⟨by exact bes HB.out⟩⟩
    rw [if_neg c32] at H
    by_cases c37 : a0_5 = some 66; rotate_left
    ·rw [if_neg c37] at H
     exact absurd H (by simp)
    subst c37; replace H := ip H
    (try simp only [fnv_some]); replace H := bm H; obtain ⟨t236, A38, H⟩ := H; replace A38 := am A38; replace H := bm H; obtain ⟨⟨t237, t238⟩, A390, H⟩ := H; replace H : (word_tongue_value.j2 kj11 a1 x8_1 t237 l0_0 l0_1 l0_2 l0_3 a0_4 (some 66) a0_6) = some (r1, r2) := H; have A39 := am A390; clear A390
    have H' := am H; clear H
    have Z40_0 := z0 BK224.out
    have Z40_1 := z1 BK224.out
    have Z40_2 := z2 BK224.out
    have Z40_3 := z3 BK224.out
    have Z40_4 := z4 BK224.out
    have Z40_5 := z5 BK224.out
    have Z40_6 := z6 BK224.out; have F40_0 := fz BK224.out 0; have F40_1 := fz BK224.out 1; have F40_2 := fz BK224.out 2; have F40_3 := fz BK224.out 3; have F40_4 := fz BK224.out 4; have F40_5 := fz BK224.out 5; have F40_6 := fz BK224.out 6
    go_wp2_with (first | (go_at_call 66; (refine (word_tongues_8.calls _ _ l0_0 _ _ l0_1 _ _ l0_2 _ _ l0_3 a0_4 (some 66) a0_6 x8_1 (B_ #[63]) t236 _ ?_ ?_ ?_ ?_ ?_ ?_ ?_ ?_ A38.out).mono ?_); exact C_st (Kd.C_below HR0_0.out HB.out); exact HC0_0.out; exact C_st (Kd.C_below HR0_1.out HB.out); exact HC0_1.out; exact C_st (Kd.C_below HR0_2.out HB.out); exact HC0_2.out; exact C_st (Kd.C_below HR0_3.out HB.out); exact HC0_3.out; rintro e w41 ⟨rfl, hb⟩; replace BK224 := kb BK224 hb; replace HB := bsp HB hb; (try clear hb)) | ((with_reducible refine gate_callee (f := 68) rfl ?_); refine gL (some 42) rfl rfl Tryd.func68 #[.string t236, .string (B_ #[63])] ?_; (refine (strings_CutSuffix.calls t236 (B_ #[63]) t237 t238 _ A39.out).mono ?_); rintro e w' ⟨rfl, ⟨nd, rfl⟩⟩; refine ⟨_, rfl, ?_⟩))
    go_meet
    case rel => exact ⟨_, (t237), cd, H', ⟨by have := HK1.out; have := HJ11.out; first | omega | exact Nat.le_refl _⟩, ⟨by exact blk_st BK224.out⟩, ⟨by exact bes HB.out⟩⟩
   clear HC26
   try clear c1
   try clear c2
   try clear p2
   try clear c3
   try clear c4
   try clear c6
   try clear p6
   try clear c7
   try clear c11
   try clear c11b0
   try clear c13
   try clear c17
   try clear c21
   try clear c25
   try clear c27
   try clear c32
   try clear c37
   try clear c40
   try clear Z15_0 Z15_1 Z15_2 Z15_3 Z15_4 Z15_5 Z15_6
   try clear Z19_0 Z19_1 Z19_2 Z19_3 Z19_4 Z19_5 Z19_6
   try clear Z23_0 Z23_1 Z23_2 Z23_3 Z23_4 Z23_5 Z23_6
   try clear Z30_0 Z30_1 Z30_2 Z30_3 Z30_4 Z30_5 Z30_6
   try clear Z35_0 Z35_1 Z35_2 Z35_3 Z35_4 Z35_5 Z35_6
   try clear Z40_0 Z40_1 Z40_2 Z40_3 Z40_4 Z40_5 Z40_6
   try clear Z6_0 Z6_1 Z6_2 Z6_3 Z6_4 Z6_5 Z6_6
   try clear Z9_0 Z9_1 Z9_2 Z9_3 Z9_4 Z9_5 Z9_6
   try clear F15_0 F15_1 F15_2 F15_3 F15_4 F15_5 F15_6
   try clear F19_0 F19_1 F19_2 F19_3 F19_4 F19_5 F19_6
   try clear F23_0 F23_1 F23_2 F23_3 F23_4 F23_5 F23_6
   try clear F30_0 F30_1 F30_2 F30_3 F30_4 F30_5 F30_6
   try clear F35_0 F35_1 F35_2 F35_3 F35_4 F35_5 F35_6
   try clear F40_0 F40_1 F40_2 F40_3 F40_4 F40_5 F40_6
   try clear F6_0 F6_1 F6_2 F6_3 F6_4 F6_5 F6_6
   try clear F9_0 F9_1 F9_2 F9_3 F9_4 F9_5 F9_6
   try clear p2
   obtain ⟨kq, x9_25, rfl, HA, HJ25, BK224, HB⟩ := hcut
   cases kq with
   | zero => exact absurd HA.out (by simp [word_tongue_value.j2])
   | succ kj25 =>
    have H := HA.out; clear HA; simp only [word_tongue_value.j2] at H; replace H := bm H; obtain ⟨⟨t239, t240⟩, A420, H⟩ := H; replace H : (if t240 = true then ((word_tongue_rest.f kj25 l0_0 l0_1 l0_2 l0_3 a0_4 a0_5 a0_6 t239).bind fun bt241 => (if bt241.2 = true then (some (wrap64 ((wrap64 (100 * x8_1)) + bt241.1), true)) else (word_tongue_value.l0 kj25 a1 (wrap64 (x8_1 + 1)) l0_0 l0_1 l0_2 l0_3 a0_4 a0_5 a0_6))) else (word_tongue_value.l0 kj25 a1 (wrap64 (x8_1 + 1)) l0_0 l0_1 l0_2 l0_3 a0_4 a0_5 a0_6)) = some (r1, r2) := H; have A42 := am A420; clear A420
    by_cases c43 : t240 = true; rotate_left
    ·replace c43 := Bool.eq_false_iff.mpr c43
     subst c43; replace H := inn H
     have H' := am H; clear H
     go_wp2_with (first | ((with_reducible refine gate_callee (f := 73) rfl ?_); refine gL (some 48) rfl rfl Tryd.func73 #[.string a1, .string x9_25] ?_; (refine (strings_CutPrefix.calls a1 x9_25 t239 false _ A42.out).mono ?_); rintro e w' ⟨rfl, ⟨nd, rfl⟩⟩; refine ⟨_, rfl, ?_⟩))
     go_roundg kj25
     case measure => have := HK1.out; have := HJ11.out; have := HJ25.out; omega
     case rel => exact ⟨(wrap64 (x8_1 + 1)), cd, H', ⟨by have := HK1.out; have := HJ11.out; have := HJ25.out; omega⟩, ⟨by exact blk_st BK224.out⟩, ⟨by exact bes HB.out⟩⟩
    subst c43; replace H := ip H
    replace H := bm H; obtain ⟨⟨t241, t242⟩, A440, H⟩ := H; replace H : (if t242 = true then (some (wrap64 ((wrap64 (100 * x8_1)) + t241), true)) else (word_tongue_value.l0 kj25 a1 (wrap64 (x8_1 + 1)) l0_0 l0_1 l0_2 l0_3 a0_4 a0_5 a0_6)) = some (r1, r2) := H; have A44 := am A440; clear A440
    by_cases c45 : t242 = true
    ·subst c45
     replace H := ip H
     simp only [Option.some.injEq, Prod.mk.injEq] at H; obtain ⟨rfl, rfl⟩ := H
     go_wp2_with (first | ((with_reducible refine gate_callee (f := 73) rfl ?_); refine gL (some 48) rfl rfl Tryd.func73 #[.string a1, .string x9_25] ?_; (refine (strings_CutPrefix.calls a1 x9_25 t239 true _ A42.out).mono ?_); rintro e w' ⟨rfl, ⟨nd, rfl⟩⟩; refine ⟨_, rfl, ?_⟩; have Z46_0 := z0 BK224.out; have Z46_1 := z1 BK224.out; have Z46_2 := z2 BK224.out; have Z46_3 := z3 BK224.out; have Z46_4 := z4 BK224.out; have Z46_5 := z5 BK224.out; have Z46_6 := z6 BK224.out; have F46_0 := fz BK224.out 0; have F46_1 := fz BK224.out 1; have F46_2 := fz BK224.out 2; have F46_3 := fz BK224.out 3; have F46_4 := fz BK224.out 4; have F46_5 := fz BK224.out 5; have F46_6 := fz BK224.out 6) | ((with_reducible refine gate_callee (f := 72) rfl ?_); refine gL (some 55) rfl rfl Tryd.func72 #[.agg #[.slice A0_0 l0_0.length c0_0, .slice A0_1 l0_1.length c0_1, .slice A0_2 l0_2.length c0_2, .slice A0_3 l0_3.length c0_3, fnv a0_4, fnv a0_5, fnv a0_6], .string t239] ?_; (refine (word_tongue_rest.calls kj25 _ _ l0_0 _ _ l0_1 _ _ l0_2 _ _ l0_3 a0_4 a0_5 a0_6 t239 t241 true _ ?_ ?_ ?_ ?_ ?_ ?_ ?_ ?_ A44.out).mono ?_); exact (Kd.C_below HR0_0.out (bes HB.out)); exact HC0_0.out; exact (Kd.C_below HR0_1.out (bes HB.out)); exact HC0_1.out; exact (Kd.C_below HR0_2.out (bes HB.out)); exact HC0_2.out; exact (Kd.C_below HR0_3.out (bes HB.out)); exact HC0_3.out; rintro e w47 ⟨rfl, hb⟩; refine ⟨_, rfl, ?_⟩; replace BK224 := kb BK224 hb; replace HB := bsp HB hb; (try clear hb)))
     go_ret2
     exact ⟨er, by exact bes HB.out⟩
    replace c45 := Bool.eq_false_iff.mpr c45; subst c45; replace H := inn H
    have H' := am H; clear H
    go_wp2_with (first | ((with_reducible refine gate_callee (f := 73) rfl ?_); refine gL (some 48) rfl rfl Tryd.func73 #[.string a1, .string x9_25] ?_; (refine (strings_CutPrefix.calls a1 x9_25 t239 true _ A42.out).mono ?_); rintro e w' ⟨rfl, ⟨nd, rfl⟩⟩; refine ⟨_, rfl, ?_⟩; have Z48_0 := z0 BK224.out; have Z48_1 := z1 BK224.out; have Z48_2 := z2 BK224.out; have Z48_3 := z3 BK224.out; have Z48_4 := z4 BK224.out; have Z48_5 := z5 BK224.out; have Z48_6 := z6 BK224.out; have F48_0 := fz BK224.out 0; have F48_1 := fz BK224.out 1; have F48_2 := fz BK224.out 2; have F48_3 := fz BK224.out 3; have F48_4 := fz BK224.out 4; have F48_5 := fz BK224.out 5; have F48_6 := fz BK224.out 6) | ((with_reducible refine gate_callee (f := 72) rfl ?_); refine gL (some 55) rfl rfl Tryd.func72 #[.agg #[.slice A0_0 l0_0.length c0_0, .slice A0_1 l0_1.length c0_1, .slice A0_2 l0_2.length c0_2, .slice A0_3 l0_3.length c0_3, fnv a0_4, fnv a0_5, fnv a0_6], .string t239] ?_; (refine (word_tongue_rest.calls kj25 _ _ l0_0 _ _ l0_1 _ _ l0_2 _ _ l0_3 a0_4 a0_5 a0_6 t239 t241 false _ ?_ ?_ ?_ ?_ ?_ ?_ ?_ ?_ A44.out).mono ?_); exact (Kd.C_below HR0_0.out (bes HB.out)); exact HC0_0.out; exact (Kd.C_below HR0_1.out (bes HB.out)); exact HC0_1.out; exact (Kd.C_below HR0_2.out (bes HB.out)); exact HC0_2.out; exact (Kd.C_below HR0_3.out (bes HB.out)); exact HC0_3.out; rintro e w49 ⟨rfl, hb⟩; refine ⟨_, rfl, ?_⟩; replace BK224 := kb BK224 hb; replace HB := bsp HB hb; (try clear hb)))
    go_roundg kj25
    case measure => have := HK1.out; have := HJ11.out; have := HJ25.out; omega
    case rel => exact ⟨(wrap64 (x8_1 + 1)), cd, H', ⟨by have := HK1.out; have := HJ11.out; have := HJ25.out; omega⟩, ⟨by exact blk_st BK224.out⟩, ⟨by exact bes HB.out⟩⟩

end Go.Proofs.YtjgobfbjmlacjaaDoor.XA
