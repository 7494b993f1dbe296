-- Written by wip/xprint.py (a driver of mine over the kit's printer) for this claim.
import Derived.Test.YtjgobfbjmlacjaaDoorXA0
import Derived.Test.YtjgobfbjmlacjaaDoorXA1
import Derived.Test.YtjgobfbjmlacjaaDoorXA2
import Derived.Test.YtjgobfbjmlacjaaDoorXA3
import Derived.Test.YtjgobfbjmlacjaaDoorXA4
namespace Go.Proofs.YtjgobfbjmlacjaaDoor.XA
open Go.RowKit Go.Proofs.YtjgobfbjmlacjaaDoorW.PrintWords Go.Proofs.YtjgobfbjmlacjaaDoorW.PrintLast Go.Proofs.YtjgobfbjmlacjaaDoorW.PrintMore
open Bool renaming true → tt, false → ff
open _root_.ByteArray renaming mk → B_
attribute [local go_sem] max2_int min2_int max_two min_two max_three min_three max_four min_four   -- for this text's walks alone
set_option maxHeartbeats 8000000
set_option maxRecDepth 100000
set_option linter.unusedVariables false
set_option linter.unusedSimpArgs false

/-! ### word_Number: function 14 -/
mutual
def word_Number.j0 : Nat → Int → List ByteArray → Bool → Option (Int × Int)
 | 0, _, _, _ => none
 | k + 1, x0, x1, x22 => if x22 = true then (some (0, 110)) else ((word_tongues.f x0).bind fun bt261 => (if 1 ≤ (bt261.1.length : Int) then ((XL.slices_Equal_string_string.f k x1 (bt261.1.take 1)).bind fun t281 => (if t281 = true then (some (0, 0)) else (word_Number.l0 k x0 x1 (x1.length : Int) bt261.1 bt261.2.1 bt261.2.2.1 bt261.2.2.2.1 bt261.2.2.2.2.1 bt261.2.2.2.2.2.1 bt261.2.2.2.2.2.2))) else (none)))
def word_Number.l0 : Nat → Int → List ByteArray → Int → List ByteArray → List ByteArray → List ByteArray → List ByteArray → Option Nat → Option Nat → Option Nat → Option (Int × Int)
 | 0, _, _, _, _, _, _, _, _, _, _ => none
 | k + 1, x0, x1, x7, a, b, c, d, e, g, h => if x7 ≥ 0 then (if 0 ≤ x7 then (if x7 ≤ (x1.length : Int) then ((strings_Join.f (x1.take (x7 : Int).toNat) (B_ #[32])).bind fun t283 => ((word_tongue_many.f k a b c d e g h t283).bind fun bt284 => ((strings_Join.f (x1.drop (x7 : Int).toNat) (B_ #[32])).bind fun t287 => ((word_tongue_value.f k a b c d e g h t287).bind fun bt288 => (if bt284.2 = true then (if bt288.2 = true then (word_Number.j2 k x0 x1 x7 (wrap64 ((wrap64 (1000 * bt284.1)) + bt288.1)) (decide ((wrap64 ((wrap64 (1000 * bt284.1)) + bt288.1)) > 0)) a b c d e g h) else (if x7 = (x1.length : Int) then (word_Number.j2 k x0 x1 x7 (wrap64 ((wrap64 (1000 * bt284.1)) + bt288.1)) (decide ((wrap64 ((wrap64 (1000 * bt284.1)) + bt288.1)) > 0)) a b c d e g h) else (word_Number.j2 k x0 x1 x7 (wrap64 ((wrap64 (1000 * bt284.1)) + bt288.1)) false a b c d e g h))) else (if x7 = 0 then (if bt288.2 = true then (word_Number.j2 k x0 x1 x7 (wrap64 ((wrap64 (1000 * bt284.1)) + bt288.1)) (decide ((wrap64 ((wrap64 (1000 * bt284.1)) + bt288.1)) > 0)) a b c d e g h) else (if x7 = (x1.length : Int) then (word_Number.j2 k x0 x1 x7 (wrap64 ((wrap64 (1000 * bt284.1)) + bt288.1)) (decide ((wrap64 ((wrap64 (1000 * bt284.1)) + bt288.1)) > 0)) a b c d e g h) else (word_Number.j2 k x0 x1 x7 (wrap64 ((wrap64 (1000 * bt284.1)) + bt288.1)) false a b c d e g h))) else (word_Number.j2 k x0 x1 x7 (wrap64 ((wrap64 (1000 * bt284.1)) + bt288.1)) false a b c d e g h))))))) else (none)) else (none)) else (some (0, 110))
def word_Number.j2 : Nat → Int → List ByteArray → Int → Int → Bool → List ByteArray → List ByteArray → List ByteArray → List ByteArray → Option Nat → Option Nat → Option Nat → Option (Int × Int)
 | 0, _, _, _, _, _, _, _, _, _, _, _, _ => none
 | k + 1, x0, x1, x7, x12, x75, a, b, c, d, e, g, h => if x75 = true then ((word_Words.f k x0 x12).bind fun bt290 => ((XL.slices_Equal_string_string.f k bt290.1 x1).bind fun t294 => (if t294 = true then (some (x12, 0)) else (word_Number.l0 k x0 x1 (wrap64 (x7 - 1)) a b c d e g h)))) else (word_Number.l0 k x0 x1 (wrap64 (x7 - 1)) a b c d e g h)
end
def word_Number.f (k : Nat) (a0 : Int) (l1 : List ByteArray) : Option (Int × Int) := (word_known.f a0).bind fun t260 => (if t260 = true then (word_Number.j0 k a0 l1 (decide ((l1.length : Int) > 9))) else (word_Number.j0 k a0 l1 true))
theorem word_Number.mono_l : ∀ k, (∀ y0 y1 y2, LeO (word_Number.j0 k y0 y1 y2) (word_Number.j0 (k + 1) y0 y1 y2)) ∧ (∀ y0 y1 y2 y3 y4 y5 y6 y7 y8 y9, LeO (word_Number.l0 k y0 y1 y2 y3 y4 y5 y6 y7 y8 y9) (word_Number.l0 (k + 1) y0 y1 y2 y3 y4 y5 y6 y7 y8 y9)) ∧ (∀ y0 y1 y2 y3 y4 y5 y6 y7 y8 y9 y10 y11, LeO (word_Number.j2 k y0 y1 y2 y3 y4 y5 y6 y7 y8 y9 y10 y11) (word_Number.j2 (k + 1) y0 y1 y2 y3 y4 y5 y6 y7 y8 y9 y10 y11))
 | 0 => ⟨fun _ _ _ r h => by simp [word_Number.j0] at h, fun _ _ _ _ _ _ _ _ _ _ r h => by simp [word_Number.l0] at h, fun _ _ _ _ _ _ _ _ _ _ _ _ r h => by simp [word_Number.j2] at h⟩
 | k + 1 => by
  obtain ⟨ih0, ih1, ih2⟩ := word_Number.mono_l k
  refine ⟨?_, ?_, ?_⟩
  all_goals
   intros; first | unfold word_Number.j0 | unfold word_Number.l0 | unfold word_Number.j2
   repeat' first
   | (with_reducible exact ih0 _ _ _)
   | (with_reducible exact ih1 _ _ _ _ _ _ _ _ _ _)
   | (with_reducible exact ih2 _ _ _ _ _ _ _ _ _ _ _ _)
   | (with_reducible exact XL.slices_Equal_string_string.mono _ _ _)
   | (with_reducible exact word_Words.mono _ _ _)
   | (with_reducible exact word_tongue_many.mono _ _ _ _ _ _ _ _ _)
   | (with_reducible exact word_tongue_value.mono _ _ _ _ _ _ _ _ _)
   | (with_reducible exact LeO.refl _)
   | (with_reducible exact LeO.none _)
   | (with_reducible refine LeO.ite ?_ ?_)
   | (with_reducible refine LeO.bind ?_ (fun _ => ?_))
theorem word_Number.mono : ∀ a0 a1 k, LeO (word_Number.f k a0 a1) (word_Number.f (k + 1) a0 a1) := by
 intro a0 a1 k; obtain ⟨ih0, ih1, ih2⟩ := word_Number.mono_l k
 unfold word_Number.f
 repeat' first
   | (with_reducible exact ih0 _ _ _)
   | (with_reducible exact ih1 _ _ _ _ _ _ _ _ _ _)
   | (with_reducible exact ih2 _ _ _ _ _ _ _ _ _ _ _ _)
   | (with_reducible exact XL.slices_Equal_string_string.mono _ _ _)
   | (with_reducible exact word_Words.mono _ _ _)
   | (with_reducible exact word_tongue_many.mono _ _ _ _ _ _ _ _ _)
   | (with_reducible exact word_tongue_value.mono _ _ _ _ _ _ _ _ _)
   | (with_reducible exact LeO.refl _)
   | (with_reducible exact LeO.none _)
   | (with_reducible refine LeO.ite ?_ ?_)
   | (with_reducible refine LeO.bind ?_ (fun _ => ?_))
def word_Number.T9 : Bool × List (List Nat × List Nat) := (true, [([], []), ([], []), ([], []), ([1, 2], [1, 2]), ([3], [3]), ([0, 4, 4], [0, 4]), ([5], [5]), ([6], [6]), ([6], [6]), ([7, 5, 0, 1, 2, 3, 4, 5, 6, 7], [7]), ([8, 9, 0, 1, 2, 3, 4, 5, 6, 7, 8, 9], [8])])
def word_Number.B9 : List Nat := [0, 0, 0, 6, 14, 31, 63, 127, 127, 255, 1023]
theorem word_Number.tab9 : rtab .any (opsOf Tryd.f14 9) = word_Number.T9 := by kernel_rfl
theorem word_Number.bits9 : waitsOk word_Number.T9.2 word_Number.B9 = true := by kernel_rfl
def word_Number.T10 : Bool × List (List Nat × List Nat) := (true, [([], []), ([], []), ([], []), ([1, 2], [1, 2]), ([3], [3]), ([0, 4, 4], [0, 4]), ([5], [5]), ([6], [6]), ([6], [6]), ([7, 5, 0, 1, 2, 3, 4, 5, 6, 7], [7]), ([8, 9, 0, 1, 2, 3, 4, 5, 6, 7, 8, 9], [8])])
def word_Number.B10 : List Nat := [0, 0, 0, 6, 14, 31, 63, 127, 127, 255, 1023]
theorem word_Number.tab10 : rtab .any (opsOf Tryd.f14 10) = word_Number.T10 := by kernel_rfl
theorem word_Number.bits10 : waitsOk word_Number.T10.2 word_Number.B10 = true := by kernel_rfl
theorem word_Number.calls (k : Nat) (a0 : Int) (A1 : Option Addr) (c1 : Nat) (l1 : List ByteArray) (r1 : Int) (r2 : Int) (w : World) (hr1 : Kd.C Kd.string w A1 l1.length l1) (hc1 : l1.length ≤ c1) (hL_ : LW w) (h : word_Number.f k a0 l1 = some (r1, r2)) :
  Calls Tryd.prog 14 #[.int .i64 a0, .slice A1 l1.length c1] w fun e w' => e = .returned (.tuple #[.int .i64 r1, .int .i64 r2]) ∧ Below w.heap.size w w' := by
 have hu59 := Tryd.underlying59; have HR1 := am hr1; have HC1 := am hc1; clear hr1 hc1; have HLW := am hL_; clear hL_; have HB := am (Below.refl w.heap.size w)
 have H := h; clear h; unfold word_Number.f at H; have HC3 := am H; clear H
 go_enter Tryd.func14, Tryd.ntmps14
 go_upto_region 1 with (fail)
 go_cut [22] (fun v22 wc => ∃ (kq : Nat) (x22_2 : Bool), v22 = .bool x22_2 ∧ Aside0 (word_Number.j0 kq a0 l1 x22_2 = some (r1, r2)) ∧ Aside0 (kq ≤ k) ∧ Aside0 (Below w.heap.size w wc))
 case first =>
  have H := HC3.out; clear HC3; replace H := bm H; obtain ⟨t260, A4, H⟩ := H; replace A4 := am A4
  by_cases c5 : t260 = true
  ·subst c5
   replace H := ip H
   have H' := am H; clear H
   go_wp2_with (first | ((with_reducible refine gate_callee (f := 35) rfl ?_); refine gL (some 16) rfl rfl Tryd.func35 #[.int .i64 a0] ?_; (refine (word_known.calls a0 true _ A4.out).mono ?_); rintro e w' ⟨rfl, ⟨nd, rfl⟩⟩; refine ⟨_, rfl, ?_⟩))
   go_meet
   case rel => exact ⟨_, (decide ((l1.length : Int) > 9)), cd, H', ⟨om⟩, ⟨by exact bes HB.out⟩⟩
  replace c5 := Bool.eq_false_iff.mpr c5; subst c5; replace H := inn H
  have H' := am H; clear H
  go_wp2_with (first | ((with_reducible refine gate_callee (f := 35) rfl ?_); refine gL (some 16) rfl rfl Tryd.func35 #[.int .i64 a0] ?_; (refine (word_known.calls a0 false _ A4.out).mono ?_); rintro e w' ⟨rfl, ⟨nd, rfl⟩⟩; refine ⟨_, rfl, ?_⟩))
  go_meet
  case rel => exact ⟨_, (true), cd, H', ⟨om⟩, ⟨by exact bes HB.out⟩⟩
 clear HC3
 try clear c1
 try clear p2
 try clear c3
 try clear c5
 obtain ⟨kq, x22_2, rfl, HA, HJ2, HB⟩ := hcut
 cases kq with
 | zero => exact absurd HA.out (by simp [word_Number.j0])
 | succ kj2 =>
  have H := HA.out; clear HA; simp only [word_Number.j0] at H
  by_cases c6 : x22_2 = true
  ·subst c6
   replace H := ip H
   simp only [Option.some.injEq, Prod.mk.injEq] at H; obtain ⟨rfl, rfl⟩ := H
   go_wp2
   go_ret2
   exact ⟨er, by exact bes HB.out⟩
  replace c6 := Bool.eq_false_iff.mpr c6; subst c6; replace H := inn H
  replace H := bm H; obtain ⟨⟨t261, t264, t267, t270, t273, t274, t275⟩, A70, H⟩ := H; replace H : (if 1 ≤ (t261.length : Int) then ((XL.slices_Equal_string_string.f kj2 l1 (t261.take 1)).bind fun t281 => (if t281 = true then (some (0, 0)) else (word_Number.l0 kj2 a0 l1 (l1.length : Int) t261 t264 t267 t270 t273 t274 t275))) else (none)) = some (r1, r2) := H; have A7 := am A70; clear A70
  by_cases c8 : 1 ≤ (t261.length : Int); rotate_left
  ·rw [if_neg c8] at H
   exact absurd H (by simp)
  rw [if_pos c8] at H; have c8b0 := eq_true c8
  have c8b1 := dT c8; clear c8; obtain ⟨y277, hy277⟩ : ∃ y_ : List ByteArray, y_ = (t261.take 1) := ⟨_, rfl⟩; replace H : ((XL.slices_Equal_string_string.f kj2 l1 y277).bind fun t281 => (if t281 = true then (some (0, 0)) else (word_Number.l0 kj2 a0 l1 (l1.length : Int) t261 t264 t267 t270 t273 t274 t275))) = some (r1, r2) := by first | (rw [hy277]; with_reducible exact H) | (have H2_ := (Option.bind_some _ _).symm.trans H; rw [hy277]; with_reducible exact H2_) | (have H2_ := (Option.bind_some _ _).symm.trans H; with_reducible exact H2_) | with_reducible exact H | (rw [hy277]; exact H) | exact H
  have Ny277 := am hy277; clear hy277; replace H := bm H; obtain ⟨t281, A9, H⟩ := H; replace A9 := am A9
  by_cases c10 : t281 = true
  ·subst c10
   replace H := ip H
   simp only [Option.some.injEq, Prod.mk.injEq] at H; obtain ⟨rfl, rfl⟩ := H
   go_wp2_with (first | ((with_reducible refine gate_callee (f := 36) rfl ?_); refine gL (some 24) rfl rfl Tryd.func36 #[.int .i64 a0] ?_; (refine (word_tongues.calls a0 t261 t264 t267 t270 t273 t274 t275 _ A7.out).mono ?_); rintro e w11 ⟨v262, v265, v268, v271, rfl, ho0, ho1, ho2, ho3, hb⟩; refine ⟨_, rfl, ?_⟩; have HO263 := am (Kd.R_lower ho0 (below_size (bes HB.out))); have HO266 := am (Kd.R_lower ho1 (below_size (bes HB.out))); have HO269 := am (Kd.R_lower ho2 (below_size (bes HB.out))); have HO272 := am (Kd.R_lower ho3 (below_size (bes HB.out))); replace HB := bsp HB hb; (try clear hb); (try clear ho0); (try clear ho1); (try clear ho2); (try clear ho3)) | ((with_reducible refine gate_dst (N := 6) rfl ?_); (try (refine gate_guard (by rfl) ?_; dsimp only)); refine box_event ?hg (N := 6) ?hd (cs := #[.slice none 0 0, .slice none 0 0, .slice none 0 0, .slice none 0 0, .nilFunc, .nilFunc, .nilFunc]) (t := 59) ?hr ?_; (case hd => rfl); (case hg => rfl); (case hr => first | (go_simp; done) | (go_simp; rfl)); intro gb276 hg w12 hbox hb; replace HO263 := rb HO263 hb; replace HO266 := rb HO266 hb; replace HO269 := rb HO269 hb; replace HO272 := rb HO272 hb; have BK276 := am (hbox); have GW276 := gwm hg HB; have GE276 := gem hg HB; replace HB := bsp HB hb; clear hb hbox hg; obtain ⟨Ao13, co13, eo13⟩ := Kd.R_slice HO263.out; subst eo13; have Z14_0 := z0 BK276.out; have Z14_1 := z1 BK276.out; have Z14_2 := z2 BK276.out; have Z14_3 := z3 BK276.out; have Z14_4 := z4 BK276.out; have Z14_5 := z5 BK276.out; have Z14_6 := z6 BK276.out; have F14_0 := fz BK276.out 0; have F14_1 := fz BK276.out 1; have F14_2 := fz BK276.out 2; have F14_3 := fz BK276.out 3; have F14_4 := fz BK276.out 4; have F14_5 := fz BK276.out 5; have F14_6 := fz BK276.out 6; obtain ⟨Ao15, co15, eo15⟩ := Kd.R_slice HO266.out; subst eo15; obtain ⟨Ao16, co16, eo16⟩ := Kd.R_slice HO269.out; subst eo16; obtain ⟨Ao17, co17, eo17⟩ := Kd.R_slice HO272.out; subst eo17) | ((with_reducible refine gate_store (t := 59) (p := 6) rfl ?_); refine store_event (t := 59) (p := 6) (v := ?vo_w18) (w1 := (((((((w12.setCell ⟨gb276, 0, none⟩ (.slice Ao13 t261.length co13)).setCell ⟨gb276, 1, none⟩ (.slice Ao15 t264.length co15)).setCell ⟨gb276, 2, none⟩ (.slice Ao16 t267.length co16)).setCell ⟨gb276, 3, none⟩ (.slice Ao17 t270.length co17)).setCell ⟨gb276, 4, none⟩ (fnv t273)).setCell ⟨gb276, 5, none⟩ (fnv t274)).setCell ⟨gb276, 6, none⟩ (fnv t275))) ?hg ?ho ?hn ?hr ?_; (case ho => rfl); (case hg => rfl); (case hn => rfl); (case hr => first | (go_simp; done) | (go_simp; rfl)); intro w18 hw; have n0_ : Aside0 (Kd.R Kd.string 9 w18 w.heap.size (fun k_ => some k_ ≠ (.slice Ao15 t264.length co15 : Value).ownBlock ∧ some k_ ≠ (.slice Ao16 t267.length co16 : Value).ownBlock ∧ some k_ ≠ (.slice Ao17 t270.length co17 : Value).ownBlock) (.slice Ao13 t261.length co13) t261) := ⟨(by rw [hw]; exact (by exact rfm HO263.out BK276.out (fun _ hk => ⟨hk.1.1, ⟨hk.1.2.1, hk.1.2.2⟩⟩)))⟩; have n1_ : Aside0 (Kd.R Kd.string 9 w18 w.heap.size (fun k_ => some k_ ≠ (.slice Ao13 t261.length co13 : Value).ownBlock ∧ some k_ ≠ (.slice Ao16 t267.length co16 : Value).ownBlock ∧ some k_ ≠ (.slice Ao17 t270.length co17 : Value).ownBlock) (.slice Ao15 t264.length co15) t264) := ⟨(by rw [hw]; exact (by exact rfm HO266.out BK276.out (fun _ hk => ⟨hk.1.1, ⟨hk.1.2.1, hk.1.2.2⟩⟩)))⟩; have n2_ : Aside0 (Kd.R Kd.string 9 w18 w.heap.size (fun k_ => some k_ ≠ (.slice Ao13 t261.length co13 : Value).ownBlock ∧ some k_ ≠ (.slice Ao15 t264.length co15 : Value).ownBlock ∧ some k_ ≠ (.slice Ao17 t270.length co17 : Value).ownBlock) (.slice Ao16 t267.length co16) t267) := ⟨(by rw [hw]; exact (by exact rfm HO269.out BK276.out (fun _ hk => ⟨hk.1.1, ⟨hk.1.2.1, hk.1.2.2⟩⟩)))⟩; have n3_ : Aside0 (Kd.R Kd.string 9 w18 w.heap.size (fun k_ => some k_ ≠ (.slice Ao13 t261.length co13 : Value).ownBlock ∧ some k_ ≠ (.slice Ao15 t264.length co15 : Value).ownBlock ∧ some k_ ≠ (.slice Ao16 t267.length co16 : Value).ownBlock) (.slice Ao17 t270.length co17) t270) := ⟨(by rw [hw]; exact (by exact rfm HO272.out BK276.out (fun _ hk => ⟨hk.1.1, ⟨hk.1.2.1, hk.1.2.2⟩⟩)))⟩; have n4_ : Aside0 (w18.heap[gb276]? = some (.cells #[.slice Ao13 t261.length co13, .slice Ao15 t264.length co15, .slice Ao16 t267.length co16, .slice Ao17 t270.length co17, fnv t273, fnv t274, fnv t275] 59 (0, 0))) := ⟨(by rw [hw]; exact (bp BK276.out))⟩; have n5_ : Aside0 (Below w.heap.size w w18) := ⟨(by rw [hw]; exact (bes HB.out))⟩; clear hw; clear HO263; clear HO266; clear HO269; clear HO272; clear BK276; clear HB; have HO263 := n0_; have HO266 := n1_; have HO269 := n2_; have HO272 := n3_; have BK276 := n4_; have HB := n5_; clear n0_ n1_ n2_ n3_ n4_ n5_; have Z19_0 := z0 BK276.out; have Z19_1 := z1 BK276.out; have Z19_2 := z2 BK276.out; have Z19_3 := z3 BK276.out; have Z19_4 := z4 BK276.out; have Z19_5 := z5 BK276.out; have Z19_6 := z6 BK276.out; have F19_0 := fz BK276.out 0; have F19_1 := fz BK276.out 1; have F19_2 := fz BK276.out 2; have F19_3 := fz BK276.out 3; have F19_4 := fz BK276.out 4; have F19_5 := fz BK276.out 5; have F19_6 := fz BK276.out 6; have q20 : (1 : Int) ≤ ((t261.length : Int) : Int) := of_decide_eq_true (by assumption); obtain ⟨i020, hi020, _, hsz20, _⟩ := info_parts info9; have hroom20 : t261.length ≤ co13 := (Kd.R_reads' HO263.out).2.1; have hC20 : Kd.C Kd.string _ Ao13 t261.length t261 := (Kd.R_reads' HO263.out).2.2; have hcut20 := cut_to (P := Tryd.prog) 22 9 .i64 Tryd.underlying22 hi020 Ao13 t261.length co13 1 (by omega) q20 hroom20; have hr20 := Kd.C_take (m := 1) hC20 (by omega); have hy20 : y277.length = (1 : Int).toNat := (by rw [Ny277.out, List.length_take]; omega); rw [← Ny277.out] at hr20; rw [← hy20] at hcut20; have HR280 := am hr20; have HC280 := am (show y277.length ≤ co13 from by omega); clear hr20 hC20 hroom20 hi020 hsz20; have KY20 := am hy20; clear hy20; have KL20 := am (show 1 ≤ t261.length from by omega); replace q20 := eq_true q20) | ((with_reducible refine gate_callee (f := 37) rfl ?_); refine gL (some 29) rfl rfl Tryd.func37 #[.slice A1 l1.length c1, .slice Ao13 y277.length co13] ?_; (refine (XL.slices_Equal_string_string.calls kj2 _ _ l1 _ _ y277 true _ ?_ ?_ ?_ ?_ A9.out).mono ?_); exact C_st (Kd.C_below HR1.out HB.out); exact HC1.out; exact C_st (by repeat (first | (with_reducible exact HR280.out) | (with_reducible refine Kd.C_alloc ?_ _) | (with_reducible refine Kd.C_drewN ?_ _) | (with_reducible refine Kd.C_drew ?_) | exact HR280.out)); exact HC280.out; rintro e w' ⟨rfl, ⟨nd, rfl⟩⟩; refine ⟨_, rfl, ?_⟩))
   go_ret2
   exact ⟨er, by exact bes HB.out⟩
  replace c10 := Bool.eq_false_iff.mpr c10; subst c10; replace H := inn H
  have H' := am H; clear H
  go_wp2_with (first | ((with_reducible refine gate_callee (f := 36) rfl ?_); refine gL (some 24) rfl rfl Tryd.func36 #[.int .i64 a0] ?_; (refine (word_tongues.calls a0 t261 t264 t267 t270 t273 t274 t275 _ A7.out).mono ?_); rintro e w21 ⟨v262, v265, v268, v271, rfl, ho0, ho1, ho2, ho3, hb⟩; refine ⟨_, rfl, ?_⟩; have HO263 := am (Kd.R_lower ho0 (below_size (bes HB.out))); have HO266 := am (Kd.R_lower ho1 (below_size (bes HB.out))); have HO269 := am (Kd.R_lower ho2 (below_size (bes HB.out))); have HO272 := am (Kd.R_lower ho3 (below_size (bes HB.out))); replace HB := bsp HB hb; (try clear hb); (try clear ho0); (try clear ho1); (try clear ho2); (try clear ho3)) | ((with_reducible refine gate_dst (N := 6) rfl ?_); (try (refine gate_guard (by rfl) ?_; dsimp only)); refine box_event ?hg (N := 6) ?hd (cs := #[.slice none 0 0, .slice none 0 0, .slice none 0 0, .slice none 0 0, .nilFunc, .nilFunc, .nilFunc]) (t := 59) ?hr ?_; (case hd => rfl); (case hg => rfl); (case hr => first | (go_simp; done) | (go_simp; rfl)); intro gb276 hg w22 hbox hb; replace HO263 := rb HO263 hb; replace HO266 := rb HO266 hb; replace HO269 := rb HO269 hb; replace HO272 := rb HO272 hb; have BK276 := am (hbox); have GW276 := gwm hg HB; have GE276 := gem hg HB; replace HB := bsp HB hb; clear hb hbox hg; obtain ⟨Ao23, co23, eo23⟩ := Kd.R_slice HO263.out; subst eo23; have Z24_0 := z0 BK276.out; have Z24_1 := z1 BK276.out; have Z24_2 := z2 BK276.out; have Z24_3 := z3 BK276.out; have Z24_4 := z4 BK276.out; have Z24_5 := z5 BK276.out; have Z24_6 := z6 BK276.out; have F24_0 := fz BK276.out 0; have F24_1 := fz BK276.out 1; have F24_2 := fz BK276.out 2; have F24_3 := fz BK276.out 3; have F24_4 := fz BK276.out 4; have F24_5 := fz BK276.out 5; have F24_6 := fz BK276.out 6; obtain ⟨Ao25, co25, eo25⟩ := Kd.R_slice HO266.out; subst eo25; obtain ⟨Ao26, co26, eo26⟩ := Kd.R_slice HO269.out; subst eo26; obtain ⟨Ao27, co27, eo27⟩ := Kd.R_slice HO272.out; subst eo27) | ((with_reducible refine gate_store (t := 59) (p := 6) rfl ?_); refine store_event (t := 59) (p := 6) (v := ?vo_w28) (w1 := (((((((w22.setCell ⟨gb276, 0, none⟩ (.slice Ao23 t261.length co23)).setCell ⟨gb276, 1, none⟩ (.slice Ao25 t264.length co25)).setCell ⟨gb276, 2, none⟩ (.slice Ao26 t267.length co26)).setCell ⟨gb276, 3, none⟩ (.slice Ao27 t270.length co27)).setCell ⟨gb276, 4, none⟩ (fnv t273)).setCell ⟨gb276, 5, none⟩ (fnv t274)).setCell ⟨gb276, 6, none⟩ (fnv t275))) ?hg ?ho ?hn ?hr ?_; (case ho => rfl); (case hg => rfl); (case hn => rfl); (case hr => first | (go_simp; done) | (go_simp; rfl)); intro w28 hw; have n0_ : Aside0 (Kd.R Kd.string 9 w28 w.heap.size (fun k_ => some k_ ≠ (.slice Ao25 t264.length co25 : Value).ownBlock ∧ some k_ ≠ (.slice Ao26 t267.length co26 : Value).ownBlock ∧ some k_ ≠ (.slice Ao27 t270.length co27 : Value).ownBlock) (.slice Ao23 t261.length co23) t261) := ⟨(by rw [hw]; exact (by exact rfm HO263.out BK276.out (fun _ hk => ⟨hk.1.1, ⟨hk.1.2.1, hk.1.2.2⟩⟩)))⟩; have n1_ : Aside0 (Kd.R Kd.string 9 w28 w.heap.size (fun k_ => some k_ ≠ (.slice Ao23 t261.length co23 : Value).ownBlock ∧ some k_ ≠ (.slice Ao26 t267.length co26 : Value).ownBlock ∧ some k_ ≠ (.slice Ao27 t270.length co27 : Value).ownBlock) (.slice Ao25 t264.length co25) t264) := ⟨(by rw [hw]; exact (by exact rfm HO266.out BK276.out (fun _ hk => ⟨hk.1.1, ⟨hk.1.2.1, hk.1.2.2⟩⟩)))⟩; have n2_ : Aside0 (Kd.R Kd.string 9 w28 w.heap.size (fun k_ => some k_ ≠ (.slice Ao23 t261.length co23 : Value).ownBlock ∧ some k_ ≠ (.slice Ao25 t264.length co25 : Value).ownBlock ∧ some k_ ≠ (.slice Ao27 t270.length co27 : Value).ownBlock) (.slice Ao26 t267.length co26) t267) := ⟨(by rw [hw]; exact (by exact rfm HO269.out BK276.out (fun _ hk => ⟨hk.1.1, ⟨hk.1.2.1, hk.1.2.2⟩⟩)))⟩; have n3_ : Aside0 (Kd.R Kd.string 9 w28 w.heap.size (fun k_ => some k_ ≠ (.slice Ao23 t261.length co23 : Value).ownBlock ∧ some k_ ≠ (.slice Ao25 t264.length co25 : Value).ownBlock ∧ some k_ ≠ (.slice Ao26 t267.length co26 : Value).ownBlock) (.slice Ao27 t270.length co27) t270) := ⟨(by rw [hw]; exact (by exact rfm HO272.out BK276.out (fun _ hk => ⟨hk.1.1, ⟨hk.1.2.1, hk.1.2.2⟩⟩)))⟩; have n4_ : Aside0 (w28.heap[gb276]? = some (.cells #[.slice Ao23 t261.length co23, .slice Ao25 t264.length co25, .slice Ao26 t267.length co26, .slice Ao27 t270.length co27, fnv t273, fnv t274, fnv t275] 59 (0, 0))) := ⟨(by rw [hw]; exact (bp BK276.out))⟩; have n5_ : Aside0 (Below w.heap.size w w28) := ⟨(by rw [hw]; exact (bes HB.out))⟩; clear hw; clear HO263; clear HO266; clear HO269; clear HO272; clear BK276; clear HB; have HO263 := n0_; have HO266 := n1_; have HO269 := n2_; have HO272 := n3_; have BK276 := n4_; have HB := n5_; clear n0_ n1_ n2_ n3_ n4_ n5_; have Z29_0 := z0 BK276.out; have Z29_1 := z1 BK276.out; have Z29_2 := z2 BK276.out; have Z29_3 := z3 BK276.out; have Z29_4 := z4 BK276.out; have Z29_5 := z5 BK276.out; have Z29_6 := z6 BK276.out; have F29_0 := fz BK276.out 0; have F29_1 := fz BK276.out 1; have F29_2 := fz BK276.out 2; have F29_3 := fz BK276.out 3; have F29_4 := fz BK276.out 4; have F29_5 := fz BK276.out 5; have F29_6 := fz BK276.out 6; have q30 : (1 : Int) ≤ ((t261.length : Int) : Int) := of_decide_eq_true (by assumption); obtain ⟨i030, hi030, _, hsz30, _⟩ := info_parts info9; have hroom30 : t261.length ≤ co23 := (Kd.R_reads' HO263.out).2.1; have hC30 : Kd.C Kd.string _ Ao23 t261.length t261 := (Kd.R_reads' HO263.out).2.2; have hcut30 := cut_to (P := Tryd.prog) 22 9 .i64 Tryd.underlying22 hi030 Ao23 t261.length co23 1 (by omega) q30 hroom30; have hr30 := Kd.C_take (m := 1) hC30 (by omega); have hy30 : y277.length = (1 : Int).toNat := (by rw [Ny277.out, List.length_take]; omega); rw [← Ny277.out] at hr30; rw [← hy30] at hcut30; have HR280 := am hr30; have HC280 := am (show y277.length ≤ co23 from by omega); clear hr30 hC30 hroom30 hi030 hsz30; have KY30 := am hy30; clear hy30; have KL30 := am (show 1 ≤ t261.length from by omega); replace q30 := eq_true q30) | ((with_reducible refine gate_callee (f := 37) rfl ?_); refine gL (some 29) rfl rfl Tryd.func37 #[.slice A1 l1.length c1, .slice Ao23 y277.length co23] ?_; (refine (XL.slices_Equal_string_string.calls kj2 _ _ l1 _ _ y277 false _ ?_ ?_ ?_ ?_ A9.out).mono ?_); exact C_st (Kd.C_below HR1.out HB.out); exact HC1.out; exact C_st (by repeat (first | (with_reducible exact HR280.out) | (with_reducible refine Kd.C_alloc ?_ _) | (with_reducible refine Kd.C_drewN ?_ _) | (with_reducible refine Kd.C_drew ?_) | exact HR280.out)); exact HC280.out; rintro e w' ⟨rfl, ⟨nd, rfl⟩⟩; refine ⟨_, rfl, ?_⟩))
  go_loopg [7] kj2 (fun kq v7 w' => ∃ (x7_2 : Int), v7 = .int .i64 x7_2 ∧ Aside0 (word_Number.l0 kq a0 l1 x7_2 t261 t264 t267 t270 t273 t274 t275 = some (r1, r2)) ∧ Aside0 (kq ≤ kj2) ∧ Aside0 (Kd.R Kd.string 9 w' w.heap.size (fun k_ => some k_ ≠ ((.slice Ao25 t264.length co25) : Value).ownBlock ∧ some k_ ≠ ((.slice Ao26 t267.length co26) : Value).ownBlock ∧ some k_ ≠ ((.slice Ao27 t270.length co27) : Value).ownBlock) (.slice Ao23 t261.length co23) t261) ∧ Aside0 (Kd.R Kd.string 9 w' w.heap.size (fun k_ => some k_ ≠ ((.slice Ao23 t261.length co23) : Value).ownBlock ∧ some k_ ≠ ((.slice Ao26 t267.length co26) : Value).ownBlock ∧ some k_ ≠ ((.slice Ao27 t270.length co27) : Value).ownBlock) (.slice Ao25 t264.length co25) t264) ∧ Aside0 (Kd.R Kd.string 9 w' w.heap.size (fun k_ => some k_ ≠ ((.slice Ao23 t261.length co23) : Value).ownBlock ∧ some k_ ≠ ((.slice Ao25 t264.length co25) : Value).ownBlock ∧ some k_ ≠ ((.slice Ao27 t270.length co27) : Value).ownBlock) (.slice Ao26 t267.length co26) t267) ∧ Aside0 (Kd.R Kd.string 9 w' w.heap.size (fun k_ => some k_ ≠ ((.slice Ao23 t261.length co23) : Value).ownBlock ∧ some k_ ≠ ((.slice Ao25 t264.length co25) : Value).ownBlock ∧ some k_ ≠ ((.slice Ao26 t267.length co26) : Value).ownBlock) (.slice Ao27 t270.length co27) t270) ∧ Aside0 (w'.heap[gb276]? = some (.cells #[(.slice Ao23 t261.length co23), (.slice Ao25 t264.length co25), (.slice Ao26 t267.length co26), (.slice Ao27 t270.length co27), fnv t273, fnv t274, fnv t275] 59 (0, 0))) ∧ Aside0 (Below w.heap.size w w'))
  case atStart => exact ⟨((l1.length : Int)), cd, H', ⟨Nat.le_refl _⟩, ⟨by exact R_st HO263.out⟩, ⟨by exact R_st HO266.out⟩, ⟨by exact R_st HO269.out⟩, ⟨by exact R_st HO272.out⟩, ⟨by exact blk_st BK276.out⟩, ⟨by exact bes HB.out⟩⟩
  clear H'
  try clear c1
  try clear p2
  try clear q2
  try clear c3
  try clear q3
  try clear c5
  try clear c6
  try clear c8
  try clear c8b0
  try clear c8b1
  try clear c10
  try clear c14
  try clear q20
  try clear q30
  try clear Z14_0 Z14_1 Z14_2 Z14_3 Z14_4 Z14_5 Z14_6
  try clear Z19_0 Z19_1 Z19_2 Z19_3 Z19_4 Z19_5 Z19_6
  try clear Z24_0 Z24_1 Z24_2 Z24_3 Z24_4 Z24_5 Z24_6
  try clear Z29_0 Z29_1 Z29_2 Z29_3 Z29_4 Z29_5 Z29_6
  try clear F14_0 F14_1 F14_2 F14_3 F14_4 F14_5 F14_6
  try clear F19_0 F19_1 F19_2 F19_3 F19_4 F19_5 F19_6
  try clear F24_0 F24_1 F24_2 F24_3 F24_4 F24_5 F24_6
  try clear F29_0 F29_1 F29_2 F29_3 F29_4 F29_5 F29_6
  try clear p2
  try clear q20
  try clear q30
  obtain ⟨x7_2, rfl, HA, HK2, O1, O2, O3, O4, BK276, HB⟩ := hrel
  cases gk with
  | zero => exact absurd HA.out (by simp [word_Number.l0])
  | succ k2 =>
   have H := HA.out; clear HA; simp only [word_Number.l0] at H
   by_cases c31 : x7_2 ≥ 0; rotate_left
   ·rw [if_neg c31] at H
    have c31b0 := dF c31; clear c31; simp only [Option.some.injEq, Prod.mk.injEq] at H; obtain ⟨rfl, rfl⟩ := H
    go_wp2
    go_ret2
    exact ⟨er, by exact bes HB.out⟩
   rw [if_pos c31] at H
   have c31b0 := dT c31; clear c31
   by_cases c32 : 0 ≤ x7_2; rotate_left
   ·rw [if_neg c32] at H
    exact absurd H (by simp)
   rw [if_pos c32] at H; have c32b0 := eq_true c32
   have c32b1 := dT c32; clear c32
   by_cases c33 : x7_2 ≤ (l1.length : Int); rotate_left
   ·rw [if_neg c33] at H
    exact absurd H (by simp)
   rw [if_pos c33] at H; have c33b0 := eq_true c33
   have c33b1 := dT c33; clear c33; replace H := bm H; obtain ⟨t283, A34, H⟩ := H; replace A34 := am A34; replace H := bm H; obtain ⟨⟨t284, t285⟩, A350, H⟩ := H; replace H : ((strings_Join.f (l1.drop (x7_2 : Int).toNat) (B_ #[32])).bind fun t287 => ((word_tongue_value.f k2 t261 t264 t267 t270 t273 t274 t275 t287).bind fun bt288 => (if t285 = true then (if bt288.2 = true then (word_Number.j2 k2 a0 l1 x7_2 (wrap64 ((wrap64 (1000 * t284)) + bt288.1)) (decide ((wrap64 ((wrap64 (1000 * t284)) + bt288.1)) > 0)) t261 t264 t267 t270 t273 t274 t275) else (if x7_2 = (l1.length : Int) then (word_Number.j2 k2 a0 l1 x7_2 (wrap64 ((wrap64 (1000 * t284)) + bt288.1)) (decide ((wrap64 ((wrap64 (1000 * t284)) + bt288.1)) > 0)) t261 t264 t267 t270 t273 t274 t275) else (word_Number.j2 k2 a0 l1 x7_2 (wrap64 ((wrap64 (1000 * t284)) + bt288.1)) false t261 t264 t267 t270 t273 t274 t275))) else (if x7_2 = 0 then (if bt288.2 = true then (word_Number.j2 k2 a0 l1 x7_2 (wrap64 ((wrap64 (1000 * t284)) + bt288.1)) (decide ((wrap64 ((wrap64 (1000 * t284)) + bt288.1)) > 0)) t261 t264 t267 t270 t273 t274 t275) else (if x7_2 = (l1.length : Int) then (word_Number.j2 k2 a0 l1 x7_2 (wrap64 ((wrap64 (1000 * t284)) + bt288.1)) (decide ((wrap64 ((wrap64 (1000 * t284)) + bt288.1)) > 0)) t261 t264 t267 t270 t273 t274 t275) else (word_Number.j2 k2 a0 l1 x7_2 (wrap64 ((wrap64 (1000 * t284)) + bt288.1)) false t261 t264 t267 t270 t273 t274 t275))) else (word_Number.j2 k2 a0 l1 x7_2 (wrap64 ((wrap64 (1000 * t284)) + bt288.1)) false t261 t264 t267 t270 t273 t274 t275))))) = some (r1, r2) := H; have A35 := am A350; clear A350; have c36b0 := eq_true (of_decide_eq_true (by assumption) : 0 ≤ x7_2); have c37b0 := eq_true (of_decide_eq_true (by assumption) : x7_2 ≤ (l1.length : Int)); replace H := bm H; obtain ⟨t287, A38, H⟩ := H; replace A38 := am A38; replace H := bm H; obtain ⟨⟨t288, t289⟩, A390, H⟩ := H; replace H : (if t285 = true then (if t289 = true then (word_Number.j2 k2 a0 l1 x7_2 (wrap64 ((wrap64 (1000 * t284)) + t288)) (decide ((wrap64 ((wrap64 (1000 * t284)) + t288)) > 0)) t261 t264 t267 t270 t273 t274 t275) else (if x7_2 = (l1.length : Int) then (word_Number.j2 k2 a0 l1 x7_2 (wrap64 ((wrap64 (1000 * t284)) + t288)) (decide ((wrap64 ((wrap64 (1000 * t284)) + t288)) > 0)) t261 t264 t267 t270 t273 t274 t275) else (word_Number.j2 k2 a0 l1 x7_2 (wrap64 ((wrap64 (1000 * t284)) + t288)) false t261 t264 t267 t270 t273 t274 t275))) else (if x7_2 = 0 then (if t289 = true then (word_Number.j2 k2 a0 l1 x7_2 (wrap64 ((wrap64 (1000 * t284)) + t288)) (decide ((wrap64 ((wrap64 (1000 * t284)) + t288)) > 0)) t261 t264 t267 t270 t273 t274 t275) else (if x7_2 = (l1.length : Int) then (word_Number.j2 k2 a0 l1 x7_2 (wrap64 ((wrap64 (1000 * t284)) + t288)) (decide ((wrap64 ((wrap64 (1000 * t284)) + t288)) > 0)) t261 t264 t267 t270 t273 t274 t275) else (word_Number.j2 k2 a0 l1 x7_2 (wrap64 ((wrap64 (1000 * t284)) + t288)) false t261 t264 t267 t270 t273 t274 t275))) else (word_Number.j2 k2 a0 l1 x7_2 (wrap64 ((wrap64 (1000 * t284)) + t288)) false t261 t264 t267 t270 t273 t274 t275))) = some (r1, r2) := H; have A39 := am A390; clear A390; have HC40 := am H; clear H
   try go_wp2
   replace O1 := am (Kd.R_drew O1.out); replace O2 := am (Kd.R_drew O2.out); replace O3 := am (Kd.R_drew O3.out); replace O4 := am (Kd.R_drew O4.out); replace BK276 := am (blk_drew BK276.out); replace HB := am (below_drew1 HB.out); obtain ⟨i042, hi042, _, hsz42, _⟩ := info_parts info9; obtain ⟨hcut42, hA42, hC42⟩ := print_take_of (P := Tryd.prog) Value.string (B_ #[]) 22 9 .i64 Tryd.underlying22 hi042 hsz42 A1 c1 l1 x7_2 (of_decide_eq_true (by assumption)) (of_decide_eq_true (by assumption)) HC1.out; have HR282 := am (Kd.C_of_reads (h1 := fun _ => rfl) (hA42 _ (Kd.reads_of_C HR1.out))); have HC282 := am hC42; clear hA42 hC42 hi042 hsz42
   refine start_ (n := 11) (S := fun w' => w'.cell? ⟨gb276, 0, none⟩ = some (.slice Ao23 t261.length co23) ∧ w'.cell? ⟨gb276, 1, none⟩ = some (.slice Ao25 t264.length co25) ∧ w'.cell? ⟨gb276, 2, none⟩ = some (.slice Ao26 t267.length co26) ∧ w'.cell? ⟨gb276, 3, none⟩ = some (.slice Ao27 t270.length co27) ∧ w'.cell? ⟨gb276, 4, none⟩ = some (fnv t273) ∧ w'.cell? ⟨gb276, 5, none⟩ = some (fnv t274) ∧ w'.cell? ⟨gb276, 6, none⟩ = some (fnv t275)) (ds := []) #[ff,ff,ff,ff,ff,ff,ff,ff,ff,ff,ff] (by kernel_rfl) rfl rfl ⟨bc BK276.out 0, bc BK276.out 1, bc BK276.out 2, bc BK276.out 3, bc BK276.out 4, bc BK276.out 5, bc BK276.out 6⟩ (fun hHeld => ?_); refine with_tabW word_Number.tab9 word_Number.bits9 (fun HT_ HW_ => ?_)
   generalize wr.drew = w41 at O1 O2 O3 O4 BK276 HB HR282 hHeld ⊢
   refine pv 1 (some 38) HT_.out #[ff,tt,ff,ff,ff,ff,ff,ff,ff,ff,ff] ?_
   refine pv 2 (some 39) HT_.out #[ff,tt,tt,ff,ff,ff,ff,ff,ff,ff,ff] ?_
   refine pv 3 (some 40) HT_.out #[ff,tt,tt,tt,ff,ff,ff,ff,ff,ff,ff] ?_
   refine tu 0 (some 37) ?_ #[tt,tt,tt,tt,ff,ff,ff,ff,ff,ff,ff] rfl rfl (ta HT_.out HW_.out) (fun _ _ _ h => h) (Or.inl ⟨by rfl, ?_⟩) hHeld ?_ ?_ ?_; rotate_left
   ·rintro w' ⟨s0, s1, s2, s3, s4, s5, s6⟩
    go_simp
    with_reducible rfl
   rotate_left; exact sp
   refine o1 4 (some 41) HT_.out #[tt,tt,tt,tt,tt,ff,ff,ff,ff,ff,ff] fun K hK => ?_
   refine goesV_ Tryd.func39 (by kernel_rfl) rfl #[.slice A1 (l1.take (x7_2 : Int).toNat).length c1, .string (B_ #[32])] (by rfl) rfl rfl (by rfl) (by (try simp only [List.map_toArray, List.map_cons, List.map_nil]); first | done | (rw [show (l1.take (x7_2 : Int).toNat).length = x7_2.toNat from (by rw [List.length_take]; have h_ : (x7_2 : Int) ≤ (l1.length : Int) := of_decide_eq_true (by assumption); omega)] <;> rfl) | rfl | (simp only [List.length_drop, List.length_take]; rfl)) ?_
   with_reducible refine (strings_Join.calls _ _ (l1.take (x7_2 : Int).toNat) (B_ #[32]) t283 _ ?_ ?_ A34.out).mono ?_
   exact C_st (Kd.C_below HR282.out HB.out)
   exact HC282.out
   rintro e w43 ⟨rfl, hb⟩
   refine ⟨_, rfl, ?_⟩; replace O1 := rb O1 hb; replace O2 := rb O2 hb; replace O3 := rb O3 hb; replace O4 := rb O4 hb; replace BK276 := kb BK276 hb; replace HB := bsp HB hb
   (try clear hb)
   (try clear hb2)
   (try clear hk)
   (try clear hi)
   refine hK.out _ _ ⟨bc BK276.out 0, bc BK276.out 1, bc BK276.out 2, bc BK276.out 3, bc BK276.out 4, bc BK276.out 5, bc BK276.out 6⟩ (fun hHeld => ?_); clear hK K
   refine norm_ (a' := ?_) ?_ ?_; rotate_left
   ·show Act.put _ (some 41) _ = _
    simp only [Act.put, sa_, s0_, s1_, i64_w, i32_w]
    rfl
   refine o1 5 (some 42) HT_.out #[tt,tt,tt,tt,tt,tt,ff,ff,ff,ff,ff] fun K hK => ?_
   refine gV Tryd.func38 #[.agg #[.slice Ao23 t261.length co23, .slice Ao25 t264.length co25, .slice Ao26 t267.length co26, .slice Ao27 t270.length co27, fnv t273, fnv t274, fnv t275], .string t283] ?_
   with_reducible refine (word_tongue_many.calls k2 _ _ t261 _ _ t264 _ _ t267 _ _ t270 t273 t274 t275 t283 t284 t285 _ ?_ ?_ ?_ ?_ ?_ ?_ ?_ ?_ A35.out).mono ?_
   exact C_st ((Kd.R_reads' O1.out).2.2)
   exact (Kd.R_reads' O1.out).2.1
   exact C_st ((Kd.R_reads' O2.out).2.2)
   exact (Kd.R_reads' O2.out).2.1
   exact C_st ((Kd.R_reads' O3.out).2.2)
   exact (Kd.R_reads' O3.out).2.1
   exact C_st ((Kd.R_reads' O4.out).2.2)
   exact (Kd.R_reads' O4.out).2.1
   rintro e w44 ⟨rfl, hb⟩
   refine ⟨_, rfl, ?_⟩; replace O1 := rb O1 hb; replace O2 := rb O2 hb; replace O3 := rb O3 hb; replace O4 := rb O4 hb; replace BK276 := kb BK276 hb; replace HB := bsp HB hb
   (try clear hb)
   (try clear hb2)
   (try clear hk)
   (try clear hi)
   refine hK.out _ _ ⟨bc BK276.out 0, bc BK276.out 1, bc BK276.out 2, bc BK276.out 3, bc BK276.out 4, bc BK276.out 5, bc BK276.out 6⟩ (fun hHeld => ?_); clear hK K
   refine norm_ (a' := ?_) ?_ ?_; rotate_left
   ·show Act.put _ (some 42) _ = _
    simp only [Act.put, sa_, s0_, s1_, i64_w, i32_w]
    rfl
   refine pv 6 (some 36) HT_.out #[tt,tt,tt,tt,tt,tt,tt,ff,ff,ff,ff] ?_
   refine pv 7 (some 43) HT_.out #[tt,tt,tt,tt,tt,tt,tt,tt,ff,ff,ff] ?_
   refine pv 8 (some 44) HT_.out #[tt,tt,tt,tt,tt,tt,tt,tt,tt,ff,ff] ?_
   refine pv 9 (some 8) HT_.out #[tt,tt,tt,tt,tt,tt,tt,tt,tt,tt,ff] ?_
   refine pv 10 (some 9) HT_.out #[tt,tt,tt,tt,tt,tt,tt,tt,tt,tt,tt] ?_
   refine done_ (done_of HT_.out (by kernel_rfl)) ?_
   try go_wp2
   replace O1 := am (Kd.R_drew O1.out); replace O2 := am (Kd.R_drew O2.out); replace O3 := am (Kd.R_drew O3.out); replace O4 := am (Kd.R_drew O4.out); replace BK276 := am (blk_drew BK276.out); replace HB := am (below_drew1 HB.out); obtain ⟨i046, hi046, _, hsz46, _⟩ := info_parts info9; obtain ⟨A46, hcut46, hA46, hC46⟩ := print_drop_of (P := Tryd.prog) Value.string (B_ #[]) 22 9 .i64 Tryd.underlying22 hi046 hsz46 A1 c1 l1 x7_2 (of_decide_eq_true (by assumption)) (of_decide_eq_true (by assumption)) HC1.out; have HR286 := am (Kd.C_of_reads (h1 := fun _ => rfl) (hA46 _ (Kd.reads_of_C HR1.out))); have HC286 := am hC46; clear hA46 hC46 hi046 hsz46
   refine start_ (n := 11) (S := fun w' => w'.cell? ⟨gb276, 0, none⟩ = some (.slice Ao23 t261.length co23) ∧ w'.cell? ⟨gb276, 1, none⟩ = some (.slice Ao25 t264.length co25) ∧ w'.cell? ⟨gb276, 2, none⟩ = some (.slice Ao26 t267.length co26) ∧ w'.cell? ⟨gb276, 3, none⟩ = some (.slice Ao27 t270.length co27) ∧ w'.cell? ⟨gb276, 4, none⟩ = some (fnv t273) ∧ w'.cell? ⟨gb276, 5, none⟩ = some (fnv t274) ∧ w'.cell? ⟨gb276, 6, none⟩ = some (fnv t275)) (ds := []) #[ff,ff,ff,ff,ff,ff,ff,ff,ff,ff,ff] (by kernel_rfl) rfl rfl ⟨bc BK276.out 0, bc BK276.out 1, bc BK276.out 2, bc BK276.out 3, bc BK276.out 4, bc BK276.out 5, bc BK276.out 6⟩ (fun hHeld => ?_); refine with_tabW word_Number.tab10 word_Number.bits10 (fun HT_ HW_ => ?_)
   generalize w44.drew = w45 at O1 O2 O3 O4 BK276 HB HR286 hHeld ⊢
   refine pv 1 (some 47) HT_.out #[ff,tt,ff,ff,ff,ff,ff,ff,ff,ff,ff] ?_
   refine pv 2 (some 48) HT_.out #[ff,tt,tt,ff,ff,ff,ff,ff,ff,ff,ff] ?_
   refine pv 3 (some 49) HT_.out #[ff,tt,tt,tt,ff,ff,ff,ff,ff,ff,ff] ?_
   refine tu 0 (some 46) ?_ #[tt,tt,tt,tt,ff,ff,ff,ff,ff,ff,ff] rfl rfl (ta HT_.out HW_.out) (fun _ _ _ h => h) (Or.inl ⟨by rfl, ?_⟩) hHeld ?_ ?_ ?_; rotate_left
   ·rintro w' ⟨s0, s1, s2, s3, s4, s5, s6⟩
    go_simp
    with_reducible rfl
   rotate_left; exact sp
   refine o1 4 (some 50) HT_.out #[tt,tt,tt,tt,tt,ff,ff,ff,ff,ff,ff] fun K hK => ?_
   refine goesV_ Tryd.func39 (by kernel_rfl) rfl #[.slice A46 (l1.drop (x7_2 : Int).toNat).length (c1 - x7_2.toNat), .string (B_ #[32])] (by rfl) rfl rfl (by rfl) (by (try simp only [List.map_toArray, List.map_cons, List.map_nil]); first | done | (rw [show (l1.drop (x7_2 : Int).toNat).length = (l1.length - x7_2.toNat) from List.length_drop] <;> rfl) | rfl | (simp only [List.length_drop, List.length_take]; rfl)) ?_
   with_reducible refine (strings_Join.calls _ _ (l1.drop (x7_2 : Int).toNat) (B_ #[32]) t287 _ ?_ ?_ A38.out).mono ?_
   exact C_st (Kd.C_below HR286.out HB.out)
   exact HC286.out
   rintro e w47 ⟨rfl, hb⟩
   refine ⟨_, rfl, ?_⟩; replace O1 := rb O1 hb; replace O2 := rb O2 hb; replace O3 := rb O3 hb; replace O4 := rb O4 hb; replace BK276 := kb BK276 hb; replace HB := bsp HB hb
   (try clear hb)
   (try clear hb2)
   (try clear hk)
   (try clear hi)
   refine hK.out _ _ ⟨bc BK276.out 0, bc BK276.out 1, bc BK276.out 2, bc BK276.out 3, bc BK276.out 4, bc BK276.out 5, bc BK276.out 6⟩ (fun hHeld => ?_); clear hK K
   refine norm_ (a' := ?_) ?_ ?_; rotate_left
   ·show Act.put _ (some 50) _ = _
    simp only [Act.put, sa_, s0_, s1_, i64_w, i32_w]
    rfl
   refine o1 5 (some 51) HT_.out #[tt,tt,tt,tt,tt,tt,ff,ff,ff,ff,ff] fun K hK => ?_
   refine gV Tryd.func40 #[.agg #[.slice Ao23 t261.length co23, .slice Ao25 t264.length co25, .slice Ao26 t267.length co26, .slice Ao27 t270.length co27, fnv t273, fnv t274, fnv t275], .string t287] ?_
   with_reducible refine (word_tongue_value.calls k2 _ _ t261 _ _ t264 _ _ t267 _ _ t270 t273 t274 t275 t287 t288 t289 _ ?_ ?_ ?_ ?_ ?_ ?_ ?_ ?_ A39.out).mono ?_
   exact C_st ((Kd.R_reads' O1.out).2.2)
   exact (Kd.R_reads' O1.out).2.1
   exact C_st ((Kd.R_reads' O2.out).2.2)
   exact (Kd.R_reads' O2.out).2.1
   exact C_st ((Kd.R_reads' O3.out).2.2)
   exact (Kd.R_reads' O3.out).2.1
   exact C_st ((Kd.R_reads' O4.out).2.2)
   exact (Kd.R_reads' O4.out).2.1
   rintro e w48 ⟨rfl, hb⟩
   refine ⟨_, rfl, ?_⟩; replace O1 := rb O1 hb; replace O2 := rb O2 hb; replace O3 := rb O3 hb; replace O4 := rb O4 hb; replace BK276 := kb BK276 hb; replace HB := bsp HB hb
   (try clear hb)
   (try clear hb2)
   (try clear hk)
   (try clear hi)
   refine hK.out _ _ ⟨bc BK276.out 0, bc BK276.out 1, bc BK276.out 2, bc BK276.out 3, bc BK276.out 4, bc BK276.out 5, bc BK276.out 6⟩ (fun hHeld => ?_); clear hK K
   refine norm_ (a' := ?_) ?_ ?_; rotate_left
   ·show Act.put _ (some 51) _ = _
    simp only [Act.put, sa_, s0_, s1_, i64_w, i32_w]
    rfl
   refine pv 6 (some 45) HT_.out #[tt,tt,tt,tt,tt,tt,tt,ff,ff,ff,ff] ?_
   refine pv 7 (some 52) HT_.out #[tt,tt,tt,tt,tt,tt,tt,tt,ff,ff,ff] ?_
   refine pv 8 (some 53) HT_.out #[tt,tt,tt,tt,tt,tt,tt,tt,tt,ff,ff] ?_
   refine pv 9 (some 10) HT_.out #[tt,tt,tt,tt,tt,tt,tt,tt,tt,tt,ff] ?_
   refine pv 10 (some 11) HT_.out #[tt,tt,tt,tt,tt,tt,tt,tt,tt,tt,tt] ?_
   refine done_ (done_of HT_.out (by kernel_rfl)) ?_
   go_upto_region 12 with (fail)
   go_cut [75] (fun v75 wc => ∃ (kq : Nat) (x75_39 : Bool), v75 = .bool x75_39 ∧ Aside0 (word_Number.j2 kq a0 l1 x7_2 (wrap64 ((wrap64 (1000 * t284)) + t288)) x75_39 t261 t264 t267 t270 t273 t274 t275 = some (r1, r2)) ∧ Aside0 (kq ≤ k2) ∧ Aside0 (Kd.R Kd.string 9 wc w.heap.size (fun k_ => some k_ ≠ ((.slice Ao25 t264.length co25) : Value).ownBlock ∧ some k_ ≠ ((.slice Ao26 t267.length co26) : Value).ownBlock ∧ some k_ ≠ ((.slice Ao27 t270.length co27) : Value).ownBlock) (.slice Ao23 t261.length co23) t261) ∧ Aside0 (Kd.R Kd.string 9 wc w.heap.size (fun k_ => some k_ ≠ ((.slice Ao23 t261.length co23) : Value).ownBlock ∧ some k_ ≠ ((.slice Ao26 t267.length co26) : Value).ownBlock ∧ some k_ ≠ ((.slice Ao27 t270.length co27) : Value).ownBlock) (.slice Ao25 t264.length co25) t264) ∧ Aside0 (Kd.R Kd.string 9 wc w.heap.size (fun k_ => some k_ ≠ ((.slice Ao23 t261.length co23) : Value).ownBlock ∧ some k_ ≠ ((.slice Ao25 t264.length co25) : Value).ownBlock ∧ some k_ ≠ ((.slice Ao27 t270.length co27) : Value).ownBlock) (.slice Ao26 t267.length co26) t267) ∧ Aside0 (Kd.R Kd.string 9 wc w.heap.size (fun k_ => some k_ ≠ ((.slice Ao23 t261.length co23) : Value).ownBlock ∧ some k_ ≠ ((.slice Ao25 t264.length co25) : Value).ownBlock ∧ some k_ ≠ ((.slice Ao26 t267.length co26) : Value).ownBlock) (.slice Ao27 t270.length co27) t270) ∧ Aside0 (wc.heap[gb276]? = some (.cells #[(.slice Ao23 t261.length co23), (.slice Ao25 t264.length co25), (.slice Ao26 t267.length co26), (.slice Ao27 t270.length co27), fnv t273, fnv t274, fnv t275] 59 (0, 0))) ∧ Aside0 (Below w.heap.size w wc))
   case first =>
    have H := HC40.out; clear HC40
    by_cases c49 : t285 = true
    ·subst c49
     replace H := ip H
     by_cases c50 : t289 = true
     ·subst c50
      replace H := ip H
      have H' := am H; clear H
      go_wp2
      go_meet
      case rel => exact ⟨_, (decide ((wrap64 ((wrap64 (1000 * t284)) + t288)) > 0)), cd, H', ⟨by have := HJ2.out; have := HK2.out; first | omega | exact Nat.le_refl _⟩, ⟨by exact R_st O1.out⟩, ⟨by exact R_st O2.out⟩, ⟨by exact R_st O3.out⟩, ⟨by exact R_st O4.out⟩, ⟨by exact blk_st BK276.out⟩, ⟨by exact bes HB.out⟩⟩
     replace c50 := Bool.eq_false_iff.mpr c50; subst c50; replace H := inn H
     by_cases c51 : x7_2 = (l1.length : Int)
     ·rw [if_pos c51] at H
      have c51b0 := bT c51
      have c51b1 := nF c51; clear c51
      (first | rw [c51b0] | (simp only [i64_w, i32_w]; rw [c51b0]) | skip)
      have H' := am H; clear H
      go_wp2
      go_meet
      case rel => exact ⟨_, (decide ((wrap64 ((wrap64 (1000 * t284)) + t288)) > 0)), cd, H', ⟨by have := HJ2.out; have := HK2.out; first | omega | exact Nat.le_refl _⟩, ⟨by exact R_st O1.out⟩, ⟨by exact R_st O2.out⟩, ⟨by exact R_st O3.out⟩, ⟨by exact R_st O4.out⟩, ⟨by exact blk_st BK276.out⟩, ⟨by exact bes HB.out⟩⟩
     rw [if_neg c51] at H
     have c51b0 := bF c51
     have c51b1 := nT c51
     (first | rw [c51b0] | (simp only [i64_w, i32_w]; rw [c51b0]) | skip)
     have H' := am H; clear H
     go_wp2
     go_meet
     case rel => exact ⟨_, (false), cd, H', ⟨by have := HJ2.out; have := HK2.out; first | omega | exact Nat.le_refl _⟩, ⟨by exact R_st O1.out⟩, ⟨by exact R_st O2.out⟩, ⟨by exact R_st O3.out⟩, ⟨by exact R_st O4.out⟩, ⟨by exact blk_st BK276.out⟩, ⟨by exact bes HB.out⟩⟩
    replace c49 := Bool.eq_false_iff.mpr c49; subst c49; replace H := inn H
    by_cases c52 : x7_2 = 0; rotate_left
    ·rw [if_neg c52] at H
     have c52b0 := bF c52
     have c52b1 := nT c52
     have H' := am H; clear H
     go_wp2
     go_meet
     case rel => exact ⟨_, (false), cd, H', ⟨by have := HJ2.out; have := HK2.out; first | omega | exact Nat.le_refl _⟩, ⟨by exact R_st O1.out⟩, ⟨by exact R_st O2.out⟩, ⟨by exact R_st O3.out⟩, ⟨by exact R_st O4.out⟩, ⟨by exact blk_st BK276.out⟩, ⟨by exact bes HB.out⟩⟩
    rw [if_pos c52] at H
    have c52b0 := bT c52
    have c52b1 := nF c52; clear c52
    by_cases c53 : t289 = true
    ·subst c53
     replace H := ip H
     have H' := am H; clear H
     go_wp2
     go_meet
     case rel => exact ⟨_, (decide ((wrap64 ((wrap64 (1000 * t284)) + t288)) > 0)), cd, H', ⟨by have := HJ2.out; have := HK2.out; first | omega | exact Nat.le_refl _⟩, ⟨by exact R_st O1.out⟩, ⟨by exact R_st O2.out⟩, ⟨by exact R_st O3.out⟩, ⟨by exact R_st O4.out⟩, ⟨by exact blk_st BK276.out⟩, ⟨by exact bes HB.out⟩⟩
    replace c53 := Bool.eq_false_iff.mpr c53; subst c53; replace H := inn H
    by_cases c54 : x7_2 = (l1.length : Int)
    ·rw [if_pos c54] at H
     have c54b0 := bT c54
     have c54b1 := nF c54; clear c54
     have H' := am H; clear H
     go_wp2
     go_meet
     case rel => exact ⟨_, (decide ((wrap64 ((wrap64 (1000 * t284)) + t288)) > 0)), cd, H', ⟨by have := HJ2.out; have := HK2.out; first | omega | exact Nat.le_refl _⟩, ⟨by exact R_st O1.out⟩, ⟨by exact R_st O2.out⟩, ⟨by exact R_st O3.out⟩, ⟨by exact R_st O4.out⟩, ⟨by exact blk_st BK276.out⟩, ⟨by exact bes HB.out⟩⟩
    rw [if_neg c54] at H
    have c54b0 := bF c54
    have c54b1 := nT c54
    have H' := am H; clear H
    go_wp2
    go_meet
    case rel => exact ⟨_, (false), cd, H', ⟨by have := HJ2.out; have := HK2.out; first | omega | exact Nat.le_refl _⟩, ⟨by exact R_st O1.out⟩, ⟨by exact R_st O2.out⟩, ⟨by exact R_st O3.out⟩, ⟨by exact R_st O4.out⟩, ⟨by exact blk_st BK276.out⟩, ⟨by exact bes HB.out⟩⟩
   clear HC40
   try clear c1
   try clear p2
   try clear q2
   try clear c3
   try clear q3
   try clear c4
   try clear c5
   try clear c6
   try clear p6
   try clear c8
   try clear c8b0
   try clear c8b1
   try clear c10
   try clear c14
   try clear q20
   try clear q30
   try clear c31
   try clear c31b0
   try clear c32
   try clear c32b0
   try clear c32b1
   try clear c33
   try clear c33b0
   try clear c33b1
   try clear c36
   try clear c36b0
   try clear c37
   try clear c37b0
   try clear c38
   try clear c39
   try clear c40
   try clear c49
   try clear c50
   try clear c51
   try clear c51b0
   try clear c51b1
   try clear c52
   try clear c52b0
   try clear c52b1
   try clear c53
   try clear c54
   try clear c54b0
   try clear c54b1
   try clear Z14_0 Z14_1 Z14_2 Z14_3 Z14_4 Z14_5 Z14_6
   try clear Z19_0 Z19_1 Z19_2 Z19_3 Z19_4 Z19_5 Z19_6
   try clear Z24_0 Z24_1 Z24_2 Z24_3 Z24_4 Z24_5 Z24_6
   try clear Z29_0 Z29_1 Z29_2 Z29_3 Z29_4 Z29_5 Z29_6
   try clear F14_0 F14_1 F14_2 F14_3 F14_4 F14_5 F14_6
   try clear F19_0 F19_1 F19_2 F19_3 F19_4 F19_5 F19_6
   try clear F24_0 F24_1 F24_2 F24_3 F24_4 F24_5 F24_6
   try clear F29_0 F29_1 F29_2 F29_3 F29_4 F29_5 F29_6
   try clear p2
   try clear q2
   try clear q20
   try clear q3
   try clear q30
   obtain ⟨kq, x75_39, rfl, HA, HJ39, O1, O2, O3, O4, BK276, HB⟩ := hcut
   cases kq with
   | zero => exact absurd HA.out (by simp [word_Number.j2])
   | succ kj39 =>
    have H := HA.out; clear HA; simp only [word_Number.j2] at H
    by_cases c55 : x75_39 = true; rotate_left
    ·replace c55 := Bool.eq_false_iff.mpr c55
     subst c55; replace H := inn H
     have H' := am H; clear H
     go_wp2
     go_roundg kj39
     case measure => have := HJ2.out; have := HK2.out; have := HJ39.out; omega
     case rel => exact ⟨(wrap64 (x7_2 - 1)), cd, H', ⟨by have := HJ2.out; have := HK2.out; have := HJ39.out; omega⟩, ⟨by exact R_st O1.out⟩, ⟨by exact R_st O2.out⟩, ⟨by exact R_st O3.out⟩, ⟨by exact R_st O4.out⟩, ⟨by exact blk_st BK276.out⟩, ⟨by exact bes HB.out⟩⟩
    subst c55; replace H := ip H
    replace H := bm H; obtain ⟨⟨t290, t291⟩, A560, H⟩ := H; replace H : ((XL.slices_Equal_string_string.f kj39 t290 l1).bind fun t294 => (if t294 = true then (some ((wrap64 ((wrap64 (1000 * t284)) + t288)), 0)) else (word_Number.l0 kj39 a0 l1 (wrap64 (x7_2 - 1)) t261 t264 t267 t270 t273 t274 t275))) = some (r1, r2) := H; have A56 := am A560; clear A560; replace H := bm H; obtain ⟨t294, A57, H⟩ := H; replace A57 := am A57
    by_cases c58 : t294 = true
    ·subst c58
     replace H := ip H
     simp only [Option.some.injEq, Prod.mk.injEq] at H; obtain ⟨rfl, rfl⟩ := H
     go_wp2_with (first | ((with_reducible refine gate_callee (f := 18) rfl ?_); refine gL (some 79) rfl rfl Tryd.func18 #[.int .i64 a0, .int .i64 (wrap64 ((wrap64 (1000 * t284)) + t288))] ?_; (refine (word_Words.calls kj39 a0 (wrap64 ((wrap64 (1000 * t284)) + t288)) t290 t291 _ ?_ A56.out).mono ?_); exact LW.below HLW.out (bes HB.out); rintro e w59 ⟨v292, rfl, ho0, hb⟩; refine ⟨_, rfl, ?_⟩; have HO293 := am (Kd.R_lower (Kd.R_new' (Kd.R_new' (Kd.R_new' (Kd.R_new' ho0 (Kd.R_lt (R_st O1.out))) (Kd.R_lt (R_st O2.out))) (Kd.R_lt (R_st O3.out))) (Kd.R_lt (R_st O4.out))) (below_size (bes HB.out))); replace O1 := am (Kd.R_elder' (R_st O1.out) (Kd.R_base ho0) hb); replace O2 := am (Kd.R_elder' (R_st O2.out) (Kd.R_base ho0) hb); replace O3 := am (Kd.R_elder' (R_st O3.out) (Kd.R_base ho0) hb); replace O4 := am (Kd.R_elder' (R_st O4.out) (Kd.R_base ho0) hb); replace BK276 := kb BK276 hb; replace HB := bsp HB hb; (try clear hb); (try clear ho0); obtain ⟨Ao60, co60, eo60⟩ := Kd.R_slice HO293.out; subst eo60) | ((with_reducible refine gate_callee (f := 37) rfl ?_); refine gL (some 84) rfl rfl Tryd.func37 #[.slice Ao60 t290.length co60, .slice A1 l1.length c1] ?_; (refine (XL.slices_Equal_string_string.calls kj39 _ _ t290 _ _ l1 true _ ?_ ?_ ?_ ?_ A57.out).mono ?_); exact C_st ((Kd.R_reads' HO293.out).2.2); exact (Kd.R_reads' HO293.out).2.1; exact C_st (Kd.C_below HR1.out HB.out); exact HC1.out; rintro e w' ⟨rfl, ⟨nd, rfl⟩⟩; refine ⟨_, rfl, ?_⟩))
     go_ret2
     exact ⟨er, by exact bes HB.out⟩
    replace c58 := Bool.eq_false_iff.mpr c58; subst c58; replace H := inn H
    have H' := am H; clear H
    go_wp2_with (first | ((with_reducible refine gate_callee (f := 18) rfl ?_); refine gL (some 79) rfl rfl Tryd.func18 #[.int .i64 a0, .int .i64 (wrap64 ((wrap64 (1000 * t284)) + t288))] ?_; (refine (word_Words.calls kj39 a0 (wrap64 ((wrap64 (1000 * t284)) + t288)) t290 t291 _ ?_ A56.out).mono ?_); exact LW.below HLW.out (bes HB.out); rintro e w61 ⟨v292, rfl, ho0, hb⟩; refine ⟨_, rfl, ?_⟩; have HO293 := am (Kd.R_lower (Kd.R_new' (Kd.R_new' (Kd.R_new' (Kd.R_new' ho0 (Kd.R_lt (R_st O1.out))) (Kd.R_lt (R_st O2.out))) (Kd.R_lt (R_st O3.out))) (Kd.R_lt (R_st O4.out))) (below_size (bes HB.out))); replace O1 := am (Kd.R_elder' (R_st O1.out) (Kd.R_base ho0) hb); replace O2 := am (Kd.R_elder' (R_st O2.out) (Kd.R_base ho0) hb); replace O3 := am (Kd.R_elder' (R_st O3.out) (Kd.R_base ho0) hb); replace O4 := am (Kd.R_elder' (R_st O4.out) (Kd.R_base ho0) hb); replace BK276 := kb BK276 hb; replace HB := bsp HB hb; (try clear hb); (try clear ho0); obtain ⟨Ao62, co62, eo62⟩ := Kd.R_slice HO293.out; subst eo62) | ((with_reducible refine gate_callee (f := 37) rfl ?_); refine gL (some 84) rfl rfl Tryd.func37 #[.slice Ao62 t290.length co62, .slice A1 l1.length c1] ?_; (refine (XL.slices_Equal_string_string.calls kj39 _ _ t290 _ _ l1 false _ ?_ ?_ ?_ ?_ A57.out).mono ?_); exact C_st ((Kd.R_reads' HO293.out).2.2); exact (Kd.R_reads' HO293.out).2.1; exact C_st (Kd.C_below HR1.out HB.out); exact HC1.out; rintro e w' ⟨rfl, ⟨nd, rfl⟩⟩; refine ⟨_, rfl, ?_⟩))
    go_roundg kj39
    case measure => have := HJ2.out; have := HK2.out; have := HJ39.out; omega
    case rel => exact ⟨(wrap64 (x7_2 - 1)), cd, H', ⟨by have := HJ2.out; have := HK2.out; have := HJ39.out; omega⟩, ⟨by exact R_st (Kd.R_mono O1.out (fun _ hk => ⟨hk.1.1, ⟨hk.1.2.1, hk.1.2.2⟩⟩))⟩, ⟨by exact R_st (Kd.R_mono O2.out (fun _ hk => ⟨hk.1.1, ⟨hk.1.2.1, hk.1.2.2⟩⟩))⟩, ⟨by exact R_st (Kd.R_mono O3.out (fun _ hk => ⟨hk.1.1, ⟨hk.1.2.1, hk.1.2.2⟩⟩))⟩, ⟨by exact R_st (Kd.R_mono O4.out (fun _ hk => ⟨hk.1.1, ⟨hk.1.2.1, hk.1.2.2⟩⟩))⟩, ⟨by exact blk_st BK276.out⟩, ⟨by exact bes HB.out⟩⟩

/-! ### word_Prefix: function 16 -/
mutual
def word_Prefix.j0 : Nat → Int → List ByteArray → Int → Bool → Option (Int × Int × Bool)
 | 0, _, _, _, _ => none
 | k + 1, x0, x1, x2, x19 => if x19 = true then (some (0, 0, false)) else (word_Prefix.l0 k x0 x1 x2 (mn (wrap64 ((x1.length : Int) - x2)) 9))
def word_Prefix.l0 : Nat → Int → List ByteArray → Int → Int → Option (Int × Int × Bool)
 | 0, _, _, _, _ => none
 | k + 1, x0, x1, x2, x9 => if x9 > 0 then (if 0 ≤ x2 then (if x2 ≤ (wrap64 (x2 + x9)) then (if (wrap64 (x2 + x9)) ≤ (x1.length : Int) then ((word_Number.f k x0 ((x1.take ((wrap64 (x2 + x9)) : Int).toNat).drop (x2 : Int).toNat)).bind fun bt296 => (if bt296.2 = 0 then (some (bt296.1, x9, true)) else (word_Prefix.l0 k x0 x1 x2 (wrap64 (x9 - 1))))) else (none)) else (none)) else (none)) else (some (0, 0, false))
end
def word_Prefix.f (k : Nat) (a0 : Int) (l1 : List ByteArray) (a2 : Int) : Option (Int × Int × Bool) := if a2 < 0 then (word_Prefix.j0 k a0 l1 a2 true) else (word_Prefix.j0 k a0 l1 a2 (decide (a2 ≥ (l1.length : Int))))
theorem word_Prefix.mono_l : ∀ k, (∀ y0 y1 y2 y3, LeO (word_Prefix.j0 k y0 y1 y2 y3) (word_Prefix.j0 (k + 1) y0 y1 y2 y3)) ∧ (∀ y0 y1 y2 y3, LeO (word_Prefix.l0 k y0 y1 y2 y3) (word_Prefix.l0 (k + 1) y0 y1 y2 y3))
 | 0 => ⟨fun _ _ _ _ r h => by simp [word_Prefix.j0] at h, fun _ _ _ _ r h => by simp [word_Prefix.l0] at h⟩
 | k + 1 => by
  obtain ⟨ih0, ih1⟩ := word_Prefix.mono_l k
  refine ⟨?_, ?_⟩
  all_goals
   intros; first | unfold word_Prefix.j0 | unfold word_Prefix.l0
   repeat' first
   | (with_reducible exact ih0 _ _ _ _)
   | (with_reducible exact ih1 _ _ _ _)
   | (with_reducible exact word_Number.mono _ _ _)
   | (with_reducible exact LeO.refl _)
   | (with_reducible exact LeO.none _)
   | (with_reducible refine LeO.ite ?_ ?_)
   | (with_reducible refine LeO.bind ?_ (fun _ => ?_))
theorem word_Prefix.mono : ∀ a0 a1 a2 k, LeO (word_Prefix.f k a0 a1 a2) (word_Prefix.f (k + 1) a0 a1 a2) := by
 intro a0 a1 a2 k; obtain ⟨ih0, ih1⟩ := word_Prefix.mono_l k
 unfold word_Prefix.f
 repeat' first
   | (with_reducible exact ih0 _ _ _ _)
   | (with_reducible exact ih1 _ _ _ _)
   | (with_reducible exact word_Number.mono _ _ _)
   | (with_reducible exact LeO.refl _)
   | (with_reducible exact LeO.none _)
   | (with_reducible refine LeO.ite ?_ ?_)
   | (with_reducible refine LeO.bind ?_ (fun _ => ?_))
theorem word_Prefix.calls (k : Nat) (a0 : Int) (A1 : Option Addr) (c1 : Nat) (l1 : List ByteArray) (a2 : Int) (r1 : Int) (r2 : Int) (r3 : Bool) (w : World) (hr1 : Kd.C Kd.string w A1 l1.length l1) (hc1 : l1.length ≤ c1) (hL_ : LW w) (h : word_Prefix.f k a0 l1 a2 = some (r1, r2, r3)) :
  Calls Tryd.prog 16 #[.int .i64 a0, .slice A1 l1.length c1, .int .i64 a2] w fun e w' => e = .returned (.tuple #[.int .i64 r1, .int .i64 r2, .bool r3]) ∧ Below w.heap.size w w' := by
 have HR1 := am hr1; have HC1 := am hc1; clear hr1 hc1; have HLW := am hL_; clear hL_; have HB := am (Below.refl w.heap.size w)
 have H := h; clear h; unfold word_Prefix.f at H; have HC4 := am H; clear H
 go_enter Tryd.func16, Tryd.ntmps16
 go_upto_region 1 with (fail)
 go_cut [19] (fun v19 wc => ∃ (kq : Nat) (x19_3 : Bool), v19 = .bool x19_3 ∧ Aside0 (word_Prefix.j0 kq a0 l1 a2 x19_3 = some (r1, r2, r3)) ∧ Aside0 (kq ≤ k) ∧ Aside0 (Below w.heap.size w wc))
 case first =>
  have H := HC4.out; clear HC4
  by_cases c5 : a2 < 0
  ·rw [if_pos c5] at H
   have c5b0 := dT c5; clear c5
   (first | rw [c5b0] | (simp only [i64_w, i32_w]; rw [c5b0]) | skip)
   have H' := am H; clear H
   go_wp2
   go_meet
   case rel => exact ⟨_, (true), cd, H', ⟨om⟩, ⟨by exact bes HB.out⟩⟩
  rw [if_neg c5] at H
  have c5b0 := dF c5; clear c5
  (first | rw [c5b0] | (simp only [i64_w, i32_w]; rw [c5b0]) | skip)
  have H' := am H; clear H
  go_wp2
  go_meet
  case rel => exact ⟨_, (decide (a2 ≥ (l1.length : Int))), cd, H', ⟨om⟩, ⟨by exact bes HB.out⟩⟩
 clear HC4
 try clear c1
 try clear p2
 try clear c5
 try clear c5b0
 obtain ⟨kq, x19_3, rfl, HA, HJ3, HB⟩ := hcut
 cases kq with
 | zero => exact absurd HA.out (by simp [word_Prefix.j0])
 | succ kj3 =>
  have H := HA.out; clear HA; simp only [word_Prefix.j0] at H
  by_cases c6 : x19_3 = true
  ·subst c6
   replace H := ip H
   simp only [Option.some.injEq, Prod.mk.injEq] at H; obtain ⟨rfl, rfl, rfl⟩ := H
   go_wp2
   go_ret3
   exact ⟨er, by exact bes HB.out⟩
  replace c6 := Bool.eq_false_iff.mpr c6; subst c6; replace H := inn H
  obtain ⟨ji7, hji7⟩ : ∃ j_ : Int, (mn (wrap64 ((l1.length : Int) - a2)) 9) = j_ := ⟨_, rfl⟩; replace H : (word_Prefix.l0 kj3 a0 l1 a2 ji7) = some (r1, r2, r3) := by first | (rw [hji7] at H; exact H) | (simp only [hji7] at H ⊢; exact H)
  have hji7_ : (if 9 < (wrap64 ((l1.length : Int) - a2)) then 9 else (wrap64 ((l1.length : Int) - a2))) = ji7 := hji7
  have H' := am H; clear H
  go_wp2
  go_loopg [9] kj3 (fun kq v9 w' => ∃ (x9_2 : Int), v9 = .int .i64 x9_2 ∧ Aside0 (word_Prefix.l0 kq a0 l1 a2 x9_2 = some (r1, r2, r3)) ∧ Aside0 (kq ≤ kj3) ∧ Aside0 (Below w.heap.size w w'))
  case atStart => exact ⟨(ji7), (by first | rfl | (simp; done) | (simp only [← hji7] <;> (first | rfl | simp)) | (simp [*]; done)), H', ⟨Nat.le_refl _⟩, ⟨by exact bes HB.out⟩⟩
  clear H'
  try clear c1
  try clear p2
  try clear c5
  try clear c5b0
  try clear c6
  try clear p6
  try clear p2
  obtain ⟨x9_2, rfl, HA, HK2, HB⟩ := hrel
  cases gk with
  | zero => exact absurd HA.out (by simp [word_Prefix.l0])
  | succ k2 =>
   have H := HA.out; clear HA; simp only [word_Prefix.l0] at H
   by_cases c8 : x9_2 > 0; rotate_left
   ·rw [if_neg c8] at H
    have c8b0 := dF c8; clear c8; simp only [Option.some.injEq, Prod.mk.injEq] at H; obtain ⟨rfl, rfl, rfl⟩ := H
    go_wp2
    go_ret3
    exact ⟨by first | rfl | (simp [errW_none, errW_some] <;> rfl) | (simp only [← hji7]; first | rfl | (simp [errW_none, errW_some] <;> rfl)) | (simp [*, errW_none, errW_some] <;> rfl), by exact bes HB.out⟩
   rw [if_pos c8] at H
   have c8b0 := dT c8; clear c8
   by_cases c9 : 0 ≤ a2; rotate_left
   ·rw [if_neg c9] at H
    exact absurd H (by simp)
   rw [if_pos c9] at H; have c9b0 := eq_true c9
   have c9b1 := dT c9; clear c9
   by_cases c10 : a2 ≤ (wrap64 (a2 + x9_2)); rotate_left
   ·rw [if_neg c10] at H
    exact absurd H (by simp)
   rw [if_pos c10] at H; have c10b0 := eq_true c10
   have c10b1 := dT c10
   by_cases c11 : (wrap64 (a2 + x9_2)) ≤ (l1.length : Int); rotate_left
   ·rw [if_neg c11] at H
    exact absurd H (by simp)
   rw [if_pos c11] at H; have c11b0 := eq_true c11
   have c11b1 := dT c11; replace H := bm H; obtain ⟨⟨t296, t297⟩, A120, H⟩ := H; replace H : (if t297 = 0 then (some (t296, x9_2, true)) else (word_Prefix.l0 k2 a0 l1 a2 (wrap64 (x9_2 - 1)))) = some (r1, r2, r3) := H; have A12 := am A120; clear A120
   by_cases c13 : t297 = 0
   ·rw [if_pos c13] at H
    have c13b0 := bT c13
    have c13b1 := nF c13; clear c13; simp only [Option.some.injEq, Prod.mk.injEq] at H; obtain ⟨rfl, rfl, rfl⟩ := H; obtain ⟨i014, hi014, _, hsz14, _⟩ := info_parts info9; obtain ⟨A14, hcut14, hA14, hC14⟩ := print_mid_of (P := Tryd.prog) Value.string (B_ #[]) 22 9 .i64 .i64 Tryd.underlying22 hi014 hsz14 A1 c1 l1 a2 (wrap64 (a2 + x9_2)) (of_decide_eq_true (by assumption)) (by first | omega | exact of_decide_eq_true (by assumption)) (of_decide_eq_true (by assumption)) HC1.out; have HR295 := am (Kd.C_of_reads (h1 := fun _ => rfl) (hA14 _ (Kd.reads_of_C HR1.out))); have HC295 := am hC14; clear hA14 hC14 hi014 hsz14
    go_wp2_with (first | ((with_reducible refine gate_callee (f := 14) rfl ?_); refine goesL_ (some 37) rfl rfl Tryd.func14 (by kernel_rfl) rfl #[.int .i64 a0, .slice A14 ((l1.take ((wrap64 (a2 + x9_2)) : Int).toNat).drop (a2 : Int).toNat).length (c1 - a2.toNat)] rfl (by (try simp only [List.map_toArray, List.map_cons, List.map_nil]); first | done | (rw [show ((l1.take ((wrap64 (a2 + x9_2)) : Int).toNat).drop (a2 : Int).toNat).length = ((wrap64 (a2 + x9_2)).toNat - a2.toNat) from (by rw [List.length_drop, List.length_take]; have h_ : ((wrap64 (a2 + x9_2)) : Int) ≤ (l1.length : Int) := of_decide_eq_true (by assumption); omega)] <;> rfl) | rfl | (simp only [List.length_drop, List.length_take]; rfl)) ?_; (refine (word_Number.calls k2 a0 _ _ ((l1.take ((wrap64 (a2 + x9_2)) : Int).toNat).drop (a2 : Int).toNat) t296 t297 _ ?_ ?_ ?_ A12.out).mono ?_); exact C_st (Kd.C_below HR295.out HB.out); exact HC295.out; exact LW.below HLW.out (bes HB.out); rintro e w15 ⟨rfl, hb⟩; refine ⟨_, rfl, ?_⟩; replace HB := bsp HB hb; (try clear hb)))
    go_ret3
    exact ⟨by first | rfl | (simp [errW_none, errW_some] <;> rfl) | (simp only [← hji7]; first | rfl | (simp [errW_none, errW_some] <;> rfl)) | (simp [*, errW_none, errW_some] <;> rfl), by exact bes HB.out⟩
   rw [if_neg c13] at H
   have c13b0 := bF c13
   have c13b1 := nT c13
   have H' := am H; clear H; obtain ⟨i016, hi016, _, hsz16, _⟩ := info_parts info9; obtain ⟨A16, hcut16, hA16, hC16⟩ := print_mid_of (P := Tryd.prog) Value.string (B_ #[]) 22 9 .i64 .i64 Tryd.underlying22 hi016 hsz16 A1 c1 l1 a2 (wrap64 (a2 + x9_2)) (of_decide_eq_true (by assumption)) (by first | omega | exact of_decide_eq_true (by assumption)) (of_decide_eq_true (by assumption)) HC1.out; have HR295 := am (Kd.C_of_reads (h1 := fun _ => rfl) (hA16 _ (Kd.reads_of_C HR1.out))); have HC295 := am hC16; clear hA16 hC16 hi016 hsz16
   go_wp2_with (first | ((with_reducible refine gate_callee (f := 14) rfl ?_); refine goesL_ (some 37) rfl rfl Tryd.func14 (by kernel_rfl) rfl #[.int .i64 a0, .slice A16 ((l1.take ((wrap64 (a2 + x9_2)) : Int).toNat).drop (a2 : Int).toNat).length (c1 - a2.toNat)] rfl (by (try simp only [List.map_toArray, List.map_cons, List.map_nil]); first | done | (rw [show ((l1.take ((wrap64 (a2 + x9_2)) : Int).toNat).drop (a2 : Int).toNat).length = ((wrap64 (a2 + x9_2)).toNat - a2.toNat) from (by rw [List.length_drop, List.length_take]; have h_ : ((wrap64 (a2 + x9_2)) : Int) ≤ (l1.length : Int) := of_decide_eq_true (by assumption); omega)] <;> rfl) | rfl | (simp only [List.length_drop, List.length_take]; rfl)) ?_; (refine (word_Number.calls k2 a0 _ _ ((l1.take ((wrap64 (a2 + x9_2)) : Int).toNat).drop (a2 : Int).toNat) t296 t297 _ ?_ ?_ ?_ A12.out).mono ?_); exact C_st (Kd.C_below HR295.out HB.out); exact HC295.out; exact LW.below HLW.out (bes HB.out); rintro e w17 ⟨rfl, hb⟩; refine ⟨_, rfl, ?_⟩; replace HB := bsp HB hb; (try clear hb)))
   go_roundg k2
   case measure => have := HJ3.out; have := HK2.out; omega
   case rel => exact ⟨(wrap64 (x9_2 - 1)), cd, H', ⟨by have := HJ3.out; have := HK2.out; omega⟩, ⟨by exact bes HB.out⟩⟩

/-! ### word_monthsOf: function 49 -/
def word_monthsOf.f (l0_0 : List ByteArray) (l0_1 : List ByteArray) (l0_2 : List ByteArray) (l0_3 : List ByteArray) (a0_4 : Option Nat) (a0_5 : Option Nat) (a0_6 : Option Nat) : Option (List ByteArray) := some l0_2
theorem word_monthsOf.calls (A0_0 : Option Addr) (c0_0 : Nat) (l0_0 : List ByteArray) (A0_1 : Option Addr) (c0_1 : Nat) (l0_1 : List ByteArray) (P0_2_ : Nat → Prop) (u9000_ : Value) (l0_2 : List ByteArray) (A0_3 : Option Addr) (c0_3 : Nat) (l0_3 : List ByteArray) (a0_4 : Option Nat) (a0_5 : Option Nat) (a0_6 : Option Nat) (r : List ByteArray) (w0 w : World) (hB : Below w0.heap.size w0 w) (hr0_0 : ∀ W_, Kept w W_ (fun k_ => P0_2_ k_) → Kd.C Kd.string W_ A0_0 l0_0.length l0_0) (hc0_0 : l0_0.length ≤ c0_0) (hr0_1 : ∀ W_, Kept w W_ (fun k_ => P0_2_ k_) → Kd.C Kd.string W_ A0_1 l0_1.length l0_1) (hc0_1 : l0_1.length ≤ c0_1) (ho0_2 : Kd.R Kd.string 9 w w0.heap.size P0_2_ u9000_ l0_2) (hr0_3 : ∀ W_, Kept w W_ (fun k_ => P0_2_ k_) → Kd.C Kd.string W_ A0_3 l0_3.length l0_3) (hc0_3 : l0_3.length ≤ c0_3) (h : word_monthsOf.f l0_0 l0_1 l0_2 l0_3 a0_4 a0_5 a0_6 = some r) :
  Calls Tryd.prog 49 #[.agg #[.slice A0_0 l0_0.length c0_0, .slice A0_1 l0_1.length c0_1, u9000_, .slice A0_3 l0_3.length c0_3, fnv a0_4, fnv a0_5, fnv a0_6]] w fun e w' => ∃ v0_ : Value, e = .returned (v0_) ∧ Kd.R Kd.string 9 w' w0.heap.size (fun k_ => (P0_2_ k_ ∨ w.heap.size ≤ k_)) v0_ r ∧ Below w0.heap.size w0 w' ∧ Kept w w' (fun k_ => P0_2_ k_) := by
 have hu59 := Tryd.underlying59; have HR0_0 := am hr0_0; have HC0_0 := am hc0_0; clear hr0_0 hc0_0; have HR0_1 := am hr0_1; have HC0_1 := am hc0_1; clear hr0_1 hc0_1; have HO0_2 := am (show Kd.R Kd.string 9 w w0.heap.size (fun k_ => (P0_2_ k_ ∨ w.heap.size ≤ k_)) u9000_ l0_2 from Kd.R_mono ho0_2 (fun k_ hk => (.inl hk))); have HR0_3 := am hr0_3; have HC0_3 := am hc0_3; clear hr0_3 hc0_3; have HK := am (Kept.refl w (fun k_ => P0_2_ k_)); have HW0 := am hB.size; have HB := am hB; clear hB
 have H : (some l0_2) = some r := h; clear h; obtain rfl := Option.some.inj H; obtain ⟨Ao2, co2, eo2⟩ := Kd.R_slice HO0_2.out; subst eo2
 go_enter Tryd.func49, Tryd.ntmps49
 go_wp2_with (first | ((with_reducible refine gate_dst (N := 1) rfl ?_); refine box_event ?hg (N := 1) ?hd (cs := #[.slice A0_0 l0_0.length c0_0, .slice A0_1 l0_1.length c0_1, .slice Ao2 l0_2.length co2, .slice A0_3 l0_3.length c0_3, fnv a0_4, fnv a0_5, fnv a0_6]) (t := 59) ?hr ?_; (case hd => rfl); (case hg => rfl); (case hr => first | (go_simp; done) | (go_simp; rfl)); intro gb298 hg w3 hbox hb; replace HO0_2 := rb HO0_2 hb; have BK298 := am (hbox); have GW298 := am ((by rw [hg]; exact (by first | exact HK.out.1 | exact (show Kept w _ (fun k_ => P0_2_ k_) from by repeat (first | (with_reducible first | exact HK.out | apply Kept.alloc | apply Kept.drewN | apply Kept.drew) | exact HK.out)).1) : w.heap.size ≤ gb298)); replace HK := am (Kept.below (S := (fun k_ => P0_2_ k_)) (by repeat (first | (with_reducible first | exact HK.out | apply Kept.alloc | apply Kept.drewN | apply Kept.drew) | exact HK.out)) hb); have GE298 := Ge.mk ((by rw [hg]; exact (below_size (bes HB.out)) : w0.heap.size ≤ gb298)); replace HB := bsp HB hb; clear hb hbox hg; have Z4_0 := z0 BK298.out; have Z4_1 := z1 BK298.out; have Z4_2 := z2 BK298.out; have Z4_3 := z3 BK298.out; have Z4_4 := z4 BK298.out; have Z4_5 := z5 BK298.out; have Z4_6 := z6 BK298.out; have F4_0 := fz BK298.out 0; have F4_1 := fz BK298.out 1; have F4_2 := fz BK298.out 2; have F4_3 := fz BK298.out 3; have F4_4 := fz BK298.out 4; have F4_5 := fz BK298.out 5; have F4_6 := fz BK298.out 6))
 go_ret
 exact ⟨_, er, by exact R_st HO0_2.out, by exact bes HB.out, by repeat (first | (with_reducible first | exact HK.out | apply Kept.alloc | apply Kept.drewN | apply Kept.drew | refine Kept.setCell ?_ (.inr GW298.out) _) | exact HK.out)⟩

/-! ### word_daysOf: function 52 -/
def word_daysOf.f (l0_0 : List ByteArray) (l0_1 : List ByteArray) (l0_2 : List ByteArray) (l0_3 : List ByteArray) (a0_4 : Option Nat) (a0_5 : Option Nat) (a0_6 : Option Nat) : Option (List ByteArray) := some l0_3
theorem word_daysOf.calls (A0_0 : Option Addr) (c0_0 : Nat) (l0_0 : List ByteArray) (A0_1 : Option Addr) (c0_1 : Nat) (l0_1 : List ByteArray) (A0_2 : Option Addr) (c0_2 : Nat) (l0_2 : List ByteArray) (P0_3_ : Nat → Prop) (u9000_ : Value) (l0_3 : List ByteArray) (a0_4 : Option Nat) (a0_5 : Option Nat) (a0_6 : Option Nat) (r : List ByteArray) (w0 w : World) (hB : Below w0.heap.size w0 w) (hr0_0 : ∀ W_, Kept w W_ (fun k_ => P0_3_ k_) → Kd.C Kd.string W_ A0_0 l0_0.length l0_0) (hc0_0 : l0_0.length ≤ c0_0) (hr0_1 : ∀ W_, Kept w W_ (fun k_ => P0_3_ k_) → Kd.C Kd.string W_ A0_1 l0_1.length l0_1) (hc0_1 : l0_1.length ≤ c0_1) (hr0_2 : ∀ W_, Kept w W_ (fun k_ => P0_3_ k_) → Kd.C Kd.string W_ A0_2 l0_2.length l0_2) (hc0_2 : l0_2.length ≤ c0_2) (ho0_3 : Kd.R Kd.string 9 w w0.heap.size P0_3_ u9000_ l0_3) (h : word_daysOf.f l0_0 l0_1 l0_2 l0_3 a0_4 a0_5 a0_6 = some r) :
  Calls Tryd.prog 52 #[.agg #[.slice A0_0 l0_0.length c0_0, .slice A0_1 l0_1.length c0_1, .slice A0_2 l0_2.length c0_2, u9000_, fnv a0_4, fnv a0_5, fnv a0_6]] w fun e w' => ∃ v0_ : Value, e = .returned (v0_) ∧ Kd.R Kd.string 9 w' w0.heap.size (fun k_ => (P0_3_ k_ ∨ w.heap.size ≤ k_)) v0_ r ∧ Below w0.heap.size w0 w' ∧ Kept w w' (fun k_ => P0_3_ k_) := by
 have hu59 := Tryd.underlying59; have HR0_0 := am hr0_0; have HC0_0 := am hc0_0; clear hr0_0 hc0_0; have HR0_1 := am hr0_1; have HC0_1 := am hc0_1; clear hr0_1 hc0_1; have HR0_2 := am hr0_2; have HC0_2 := am hc0_2; clear hr0_2 hc0_2; have HO0_3 := am (show Kd.R Kd.string 9 w w0.heap.size (fun k_ => (P0_3_ k_ ∨ w.heap.size ≤ k_)) u9000_ l0_3 from Kd.R_mono ho0_3 (fun k_ hk => (.inl hk))); have HK := am (Kept.refl w (fun k_ => P0_3_ k_)); have HW0 := am hB.size; have HB := am hB; clear hB
 have H : (some l0_3) = some r := h; clear h; obtain rfl := Option.some.inj H; obtain ⟨Ao2, co2, eo2⟩ := Kd.R_slice HO0_3.out; subst eo2
 go_enter Tryd.func52, Tryd.ntmps52
 go_wp2_with (first | ((with_reducible refine gate_dst (N := 1) rfl ?_); refine box_event ?hg (N := 1) ?hd (cs := #[.slice A0_0 l0_0.length c0_0, .slice A0_1 l0_1.length c0_1, .slice A0_2 l0_2.length c0_2, .slice Ao2 l0_3.length co2, fnv a0_4, fnv a0_5, fnv a0_6]) (t := 59) ?hr ?_; (case hd => rfl); (case hg => rfl); (case hr => first | (go_simp; done) | (go_simp; rfl)); intro gb299 hg w3 hbox hb; replace HO0_3 := rb HO0_3 hb; have BK299 := am (hbox); have GW299 := am ((by rw [hg]; exact (by first | exact HK.out.1 | exact (show Kept w _ (fun k_ => P0_3_ k_) from by repeat (first | (with_reducible first | exact HK.out | apply Kept.alloc | apply Kept.drewN | apply Kept.drew) | exact HK.out)).1) : w.heap.size ≤ gb299)); replace HK := am (Kept.below (S := (fun k_ => P0_3_ k_)) (by repeat (first | (with_reducible first | exact HK.out | apply Kept.alloc | apply Kept.drewN | apply Kept.drew) | exact HK.out)) hb); have GE299 := Ge.mk ((by rw [hg]; exact (below_size (bes HB.out)) : w0.heap.size ≤ gb299)); replace HB := bsp HB hb; clear hb hbox hg; have Z4_0 := z0 BK299.out; have Z4_1 := z1 BK299.out; have Z4_2 := z2 BK299.out; have Z4_3 := z3 BK299.out; have Z4_4 := z4 BK299.out; have Z4_5 := z5 BK299.out; have Z4_6 := z6 BK299.out; have F4_0 := fz BK299.out 0; have F4_1 := fz BK299.out 1; have F4_2 := fz BK299.out 2; have F4_3 := fz BK299.out 3; have F4_4 := fz BK299.out 4; have F4_5 := fz BK299.out 5; have F4_6 := fz BK299.out 6))
 go_ret
 exact ⟨_, er, by exact R_st HO0_3.out, by exact bes HB.out, by repeat (first | (with_reducible first | exact HK.out | apply Kept.alloc | apply Kept.drewN | apply Kept.drew | refine Kept.setCell ?_ (.inr GW299.out) _) | exact HK.out)⟩

/-! ### word_name: function 48 -/
def word_name.j0 : Nat → Int → Int → List ByteArray → Option (ByteArray × Int)
 | 0, _, _, _ => none
 | k + 1, x1, x2, x10 => if x1 < x2 then (some ((B_ #[]), 110)) else (if (wrap64 (x1 - x2)) ≥ (x10.length : Int) then (some ((B_ #[]), 110)) else (if 0 ≤ (wrap64 (x1 - x2)) then (if (wrap64 (x1 - x2)) < (x10.length : Int) then (some (rdOf ByteArray.empty x10 (wrap64 (x1 - x2)), 0)) else (none)) else (none)))
def word_name.f (k : Nat) (a0 : Int) (a1 : Int) (a2 : Int) (a3 : Option Nat) : Option (ByteArray × Int) := (word_known.f a0).bind fun t300 => (if t300 = true then ((word_tongues.f a0).bind fun bt301 => (if a3 = some 49 then ((word_monthsOf.f bt301.1 bt301.2.1 bt301.2.2.1 bt301.2.2.2.1 bt301.2.2.2.2.1 bt301.2.2.2.2.2.1 bt301.2.2.2.2.2.2).bind fun t316 => (word_name.j0 k a1 a2 t316)) else (if a3 = some 52 then ((word_daysOf.f bt301.1 bt301.2.1 bt301.2.2.1 bt301.2.2.2.1 bt301.2.2.2.2.1 bt301.2.2.2.2.2.1 bt301.2.2.2.2.2.2).bind fun t319 => (word_name.j0 k a1 a2 t319)) else (none)))) else (some ((B_ #[]), 110)))
theorem word_name.mono_l : ∀ k, (∀ y0 y1 y2, LeO (word_name.j0 k y0 y1 y2) (word_name.j0 (k + 1) y0 y1 y2))
 | 0 => fun _ _ _ r h => by simp [word_name.j0] at h
 | k + 1 => by
  have ih0 := word_name.mono_l k
  intro y0 y1 y2
  unfold word_name.j0
  repeat' first
  | (with_reducible exact ih0 _ _ _)
  | (with_reducible exact LeO.refl _)
  | (with_reducible exact LeO.none _)
  | (with_reducible refine LeO.ite ?_ ?_)
  | (with_reducible refine LeO.bind ?_ (fun _ => ?_))
theorem word_name.mono : ∀ a0 a1 a2 a3 k, LeO (word_name.f k a0 a1 a2 a3) (word_name.f (k + 1) a0 a1 a2 a3) := by
 intro a0 a1 a2 a3 k; have ih0 := word_name.mono_l k
 unfold word_name.f
 repeat' first
   | (with_reducible exact ih0 _ _ _)
   | (with_reducible exact LeO.refl _)
   | (with_reducible exact LeO.none _)
   | (with_reducible refine LeO.ite ?_ ?_)
   | (with_reducible refine LeO.bind ?_ (fun _ => ?_))
theorem word_name.calls (k : Nat) (a0 : Int) (a1 : Int) (a2 : Int) (a3 : Option Nat) (r1 : ByteArray) (r2 : Int) (w : World) (h : word_name.f k a0 a1 a2 a3 = some (r1, r2)) :
  Calls Tryd.prog 48 #[.int .i64 a0, .int .i64 a1, .int .i64 a2, fnv a3] w fun e w' => e = .returned (.tuple #[.string r1, .int .i64 r2]) ∧ Below w.heap.size w w' := by
 have HB := am (Below.refl w.heap.size w)
 have H := h; clear h; unfold word_name.f at H; replace H := bm H; obtain ⟨t300, A5, H⟩ := H; replace A5 := am A5
 by_cases c6 : t300 = true; rotate_left
 ·replace c6 := Bool.eq_false_iff.mpr c6
  subst c6; replace H := inn H
  simp only [Option.some.injEq, Prod.mk.injEq] at H; obtain ⟨rfl, rfl⟩ := H
  go_enter Tryd.func48, Tryd.ntmps48
  go_wp2_with (first | ((with_reducible refine gate_callee (f := 35) rfl ?_); refine gL (some 12) rfl rfl Tryd.func35 #[.int .i64 a0] ?_; (refine (word_known.calls a0 false _ A5.out).mono ?_); rintro e w' ⟨rfl, ⟨nd, rfl⟩⟩; refine ⟨_, rfl, ?_⟩))
  go_ret2
  exact ⟨er, by exact bes HB.out⟩
 subst c6; replace H := ip H
 have HC7 := am H; clear H
 go_enter Tryd.func48, Tryd.ntmps48
 go_upto_region 3 with (first | ((with_reducible refine gate_callee (f := 35) rfl ?_); refine gL (some 12) rfl rfl Tryd.func35 #[.int .i64 a0] ?_; (refine (word_known.calls a0 true _ A5.out).mono ?_); rintro e w' ⟨rfl, ⟨nd, rfl⟩⟩; refine ⟨_, rfl, ?_⟩))
 (try simp only [Act.put, sa_, s0_, s1_])
 go_cut [10] (fun v10 wc => ∃ (kq : Nat) (x10_6 : List ByteArray), Aside0 (word_name.j0 kq a1 a2 x10_6 = some (r1, r2)) ∧ Aside0 (kq ≤ k) ∧ Aside0 (Kd.R Kd.string 9 wc w.heap.size (fun _ => True) v10 x10_6) ∧ Aside0 (Below w.heap.size w wc))
 case first =>
  have H := HC7.out; clear HC7; replace H := bm H; obtain ⟨⟨t301, t304, t307, t310, t313, t314, t315⟩, A80, H⟩ := H; replace H : (if a3 = some 49 then ((word_monthsOf.f t301 t304 t307 t310 t313 t314 t315).bind fun t316 => (word_name.j0 k a1 a2 t316)) else (if a3 = some 52 then ((word_daysOf.f t301 t304 t307 t310 t313 t314 t315).bind fun t319 => (word_name.j0 k a1 a2 t319)) else (none))) = some (r1, r2) := H; have A8 := am A80; clear A80
  by_cases c9 : a3 = some 49
  ·subst c9
   replace H := ip H
   (try simp only [fnv_some]); replace H := bm H; obtain ⟨t316, A10, H⟩ := H; replace A10 := am A10
   have H' := am H; clear H
   go_wp2_with (first | ((with_reducible refine gate_callee (f := 36) rfl ?_); refine gL (some 16) rfl rfl Tryd.func36 #[.int .i64 a0] ?_; (refine (word_tongues.calls a0 t301 t304 t307 t310 t313 t314 t315 _ A8.out).mono ?_); rintro e w11 ⟨v302, v305, v308, v311, rfl, ho0, ho1, ho2, ho3, hb⟩; refine ⟨_, rfl, ?_⟩; have HO303 := am (Kd.R_lower ho0 (below_size (bes HB.out))); have HO306 := am (Kd.R_lower ho1 (below_size (bes HB.out))); have HO309 := am (Kd.R_lower ho2 (below_size (bes HB.out))); have HO312 := am (Kd.R_lower ho3 (below_size (bes HB.out))); replace HB := bsp HB hb; (try clear hb); (try clear ho0); (try clear ho1); (try clear ho2); (try clear ho3); obtain ⟨Ao12, co12, eo12⟩ := Kd.R_slice HO303.out; subst eo12; obtain ⟨Ao13, co13, eo13⟩ := Kd.R_slice HO306.out; subst eo13; obtain ⟨Ao14, co14, eo14⟩ := Kd.R_slice HO309.out; subst eo14; obtain ⟨Ao15, co15, eo15⟩ := Kd.R_slice HO312.out; subst eo15) | (go_at_call 49; (refine (word_monthsOf.calls _ _ t301 _ _ t304 (fun k_ => some k_ = (.slice Ao14 t307.length co14 : Value).ownBlock) (.slice Ao14 t307.length co14) t307 _ _ t310 t313 t314 t315 t316 w _ ?_ ?_ ?_ ?_ ?_ ?_ ?_ ?_ A10.out).mono ?_); exact bes HB.out; exact Kd.C_kept_own (HO303.out) (fun k_ hk_ hs_ => (hk_.2.1) hs_); exact (Kd.R_reads' HO303.out).2.1; exact Kd.C_kept_own (HO306.out) (fun k_ hk_ hs_ => (hk_.2.1) hs_); exact (Kd.R_reads' HO306.out).2.1; exact Kd.R_tight rfl HO309.out; exact Kd.C_kept_own (HO312.out) (fun k_ hk_ hs_ => (hk_.2.2) hs_); exact (Kd.R_reads' HO312.out).2.1; rintro e w16 ⟨v317, rfl, ho0, hb, hkp⟩; have n0_ := am (Kd.R_mono (ok' := fun k_ => some k_ ≠ (.slice Ao13 t304.length co13 : Value).ownBlock ∧ some k_ ≠ (.slice Ao15 t310.length co15 : Value).ownBlock ∧ some k_ ≠ (v317 : Value).ownBlock) (Kd.R_keptB (HO303.out) hkp (fun k_ hk_ hs_ => (hk_.2.1) hs_)) (fun k_ hk_ => ⟨hk_.1.1, hk_.1.2.2, fun e_ => Or.elim (ho0.1 k_ e_.symm) (fun hs_ => hk_.2.1 hs_) (fun hn_ => Nat.not_le.2 hk_.2.2 hn_)⟩)); have n1_ := am (Kd.R_mono (ok' := fun k_ => some k_ ≠ (.slice Ao12 t301.length co12 : Value).ownBlock ∧ some k_ ≠ (.slice Ao15 t310.length co15 : Value).ownBlock ∧ some k_ ≠ (v317 : Value).ownBlock) (Kd.R_keptB (HO306.out) hkp (fun k_ hk_ hs_ => (hk_.2.1) hs_)) (fun k_ hk_ => ⟨hk_.1.1, hk_.1.2.2, fun e_ => Or.elim (ho0.1 k_ e_.symm) (fun hs_ => hk_.2.1 hs_) (fun hn_ => Nat.not_le.2 hk_.2.2 hn_)⟩)); have n2_ := am (Kd.R_mono (ok' := fun k_ => some k_ ≠ (.slice Ao12 t301.length co12 : Value).ownBlock ∧ some k_ ≠ (.slice Ao13 t304.length co13 : Value).ownBlock ∧ some k_ ≠ (v317 : Value).ownBlock) (Kd.R_keptB (HO312.out) hkp (fun k_ hk_ hs_ => (hk_.2.2) hs_)) (fun k_ hk_ => ⟨hk_.1.1, hk_.1.2.1, fun e_ => Or.elim (ho0.1 k_ e_.symm) (fun hs_ => hk_.2.1 hs_) (fun hn_ => Nat.not_le.2 hk_.2.2 hn_)⟩)); have n3_ := am (Kd.R_mono (ok' := fun k_ => some k_ ≠ (.slice Ao12 t301.length co12 : Value).ownBlock ∧ some k_ ≠ (.slice Ao13 t304.length co13 : Value).ownBlock ∧ some k_ ≠ (.slice Ao15 t310.length co15 : Value).ownBlock) ho0 (fun k_ hk_ => ⟨Or.elim hk_ (fun hs_ => fun e_ => (((HO303.out).1 k_ e_.symm).2.1) hs_) (fun hn_ => (Kd.fresh' (Kd.R_lt (R_st HO303.out)) k_ hn_)), Or.elim hk_ (fun hs_ => fun e_ => (((HO306.out).1 k_ e_.symm).2.1) hs_) (fun hn_ => (Kd.fresh' (Kd.R_lt (R_st HO306.out)) k_ hn_)), Or.elim hk_ (fun hs_ => fun e_ => (((HO312.out).1 k_ e_.symm).2.2) hs_) (fun hn_ => (Kd.fresh' (Kd.R_lt (R_st HO312.out)) k_ hn_))⟩)); have n4_ := am (hb); clear HO303; clear HO306; clear HO312; clear HB; clear HO309; have HO303 := n0_; have HO306 := n1_; have HO312 := n2_; have HO318 := n3_; have HB := n4_; clear n0_ n1_ n2_ n3_ n4_; (try clear hb); (try clear hkp); (try clear ho0)))
   go_meet
   case rel => exact ⟨_, (t316), H', ⟨om⟩, ⟨by exact R_st (Kd.R_mono HO318.out (fun _ hk => trivial))⟩, ⟨by exact bes HB.out⟩⟩
  rw [if_neg c9] at H
  by_cases c17 : a3 = some 52; rotate_left
  ·rw [if_neg c17] at H
   exact absurd H (by simp)
  subst c17; replace H := ip H
  (try simp only [fnv_some]); replace H := bm H; obtain ⟨t319, A18, H⟩ := H; replace A18 := am A18
  have H' := am H; clear H
  go_wp2_with (first | ((with_reducible refine gate_callee (f := 36) rfl ?_); refine gL (some 16) rfl rfl Tryd.func36 #[.int .i64 a0] ?_; (refine (word_tongues.calls a0 t301 t304 t307 t310 t313 t314 t315 _ A8.out).mono ?_); rintro e w19 ⟨v302, v305, v308, v311, rfl, ho0, ho1, ho2, ho3, hb⟩; refine ⟨_, rfl, ?_⟩; have HO303 := am (Kd.R_lower ho0 (below_size (bes HB.out))); have HO306 := am (Kd.R_lower ho1 (below_size (bes HB.out))); have HO309 := am (Kd.R_lower ho2 (below_size (bes HB.out))); have HO312 := am (Kd.R_lower ho3 (below_size (bes HB.out))); replace HB := bsp HB hb; (try clear hb); (try clear ho0); (try clear ho1); (try clear ho2); (try clear ho3); obtain ⟨Ao20, co20, eo20⟩ := Kd.R_slice HO303.out; subst eo20; obtain ⟨Ao21, co21, eo21⟩ := Kd.R_slice HO306.out; subst eo21; obtain ⟨Ao22, co22, eo22⟩ := Kd.R_slice HO309.out; subst eo22; obtain ⟨Ao23, co23, eo23⟩ := Kd.R_slice HO312.out; subst eo23) | (go_at_call 52; (refine (word_daysOf.calls _ _ t301 _ _ t304 _ _ t307 (fun k_ => some k_ = (.slice Ao23 t310.length co23 : Value).ownBlock) (.slice Ao23 t310.length co23) t310 t313 t314 t315 t319 w _ ?_ ?_ ?_ ?_ ?_ ?_ ?_ ?_ A18.out).mono ?_); exact bes HB.out; exact Kd.C_kept_own (HO303.out) (fun k_ hk_ hs_ => (hk_.2.2) hs_); exact (Kd.R_reads' HO303.out).2.1; exact Kd.C_kept_own (HO306.out) (fun k_ hk_ hs_ => (hk_.2.2) hs_); exact (Kd.R_reads' HO306.out).2.1; exact Kd.C_kept_own (HO309.out) (fun k_ hk_ hs_ => (hk_.2.2) hs_); exact (Kd.R_reads' HO309.out).2.1; exact Kd.R_tight rfl HO312.out; rintro e w24 ⟨v320, rfl, ho0, hb, hkp⟩; have n0_ := am (Kd.R_mono (ok' := fun k_ => some k_ ≠ (.slice Ao21 t304.length co21 : Value).ownBlock ∧ some k_ ≠ (.slice Ao22 t307.length co22 : Value).ownBlock ∧ some k_ ≠ (v320 : Value).ownBlock) (Kd.R_keptB (HO303.out) hkp (fun k_ hk_ hs_ => (hk_.2.2) hs_)) (fun k_ hk_ => ⟨hk_.1.1, hk_.1.2.1, fun e_ => Or.elim (ho0.1 k_ e_.symm) (fun hs_ => hk_.2.1 hs_) (fun hn_ => Nat.not_le.2 hk_.2.2 hn_)⟩)); have n1_ := am (Kd.R_mono (ok' := fun k_ => some k_ ≠ (.slice Ao20 t301.length co20 : Value).ownBlock ∧ some k_ ≠ (.slice Ao22 t307.length co22 : Value).ownBlock ∧ some k_ ≠ (v320 : Value).ownBlock) (Kd.R_keptB (HO306.out) hkp (fun k_ hk_ hs_ => (hk_.2.2) hs_)) (fun k_ hk_ => ⟨hk_.1.1, hk_.1.2.1, fun e_ => Or.elim (ho0.1 k_ e_.symm) (fun hs_ => hk_.2.1 hs_) (fun hn_ => Nat.not_le.2 hk_.2.2 hn_)⟩)); have n2_ := am (Kd.R_mono (ok' := fun k_ => some k_ ≠ (.slice Ao20 t301.length co20 : Value).ownBlock ∧ some k_ ≠ (.slice Ao21 t304.length co21 : Value).ownBlock ∧ some k_ ≠ (v320 : Value).ownBlock) (Kd.R_keptB (HO309.out) hkp (fun k_ hk_ hs_ => (hk_.2.2) hs_)) (fun k_ hk_ => ⟨hk_.1.1, hk_.1.2.1, fun e_ => Or.elim (ho0.1 k_ e_.symm) (fun hs_ => hk_.2.1 hs_) (fun hn_ => Nat.not_le.2 hk_.2.2 hn_)⟩)); have n3_ := am (Kd.R_mono (ok' := fun k_ => some k_ ≠ (.slice Ao20 t301.length co20 : Value).ownBlock ∧ some k_ ≠ (.slice Ao21 t304.length co21 : Value).ownBlock ∧ some k_ ≠ (.slice Ao22 t307.length co22 : Value).ownBlock) ho0 (fun k_ hk_ => ⟨Or.elim hk_ (fun hs_ => fun e_ => (((HO303.out).1 k_ e_.symm).2.2) hs_) (fun hn_ => (Kd.fresh' (Kd.R_lt (R_st HO303.out)) k_ hn_)), Or.elim hk_ (fun hs_ => fun e_ => (((HO306.out).1 k_ e_.symm).2.2) hs_) (fun hn_ => (Kd.fresh' (Kd.R_lt (R_st HO306.out)) k_ hn_)), Or.elim hk_ (fun hs_ => fun e_ => (((HO309.out).1 k_ e_.symm).2.2) hs_) (fun hn_ => (Kd.fresh' (Kd.R_lt (R_st HO309.out)) k_ hn_))⟩)); have n4_ := am (hb); clear HO303; clear HO306; clear HO309; clear HB; clear HO312; have HO303 := n0_; have HO306 := n1_; have HO309 := n2_; have HO321 := n3_; have HB := n4_; clear n0_ n1_ n2_ n3_ n4_; (try clear hb); (try clear hkp); (try clear ho0)))
  go_meet
  case rel => exact ⟨_, (t319), H', ⟨om⟩, ⟨by exact R_st (Kd.R_mono HO321.out (fun _ hk => trivial))⟩, ⟨by exact bes HB.out⟩⟩
 clear HC7
 try clear c1
 try clear p2
 try clear c3
 try clear c4
 try clear c6
 try clear c9
 try clear c17
 obtain ⟨kq, x10_6, HA, HJ6, O0, HB⟩ := hcut
 cases kq with
 | zero => exact absurd HA.out (by simp [word_name.j0])
 | succ kj6 =>
  have H := HA.out; clear HA; simp only [word_name.j0] at H
  by_cases c25 : a1 < a2
  ·rw [if_pos c25] at H
   have c25b0 := dT c25; clear c25; simp only [Option.some.injEq, Prod.mk.injEq] at H; obtain ⟨rfl, rfl⟩ := H
   go_wp2
   go_ret2
   exact ⟨er, by exact bes HB.out⟩
  rw [if_neg c25] at H
  have c25b0 := dF c25; clear c25
  by_cases c26 : (wrap64 (a1 - a2)) ≥ (x10_6.length : Int)
  ·rw [if_pos c26] at H
   have c26b0 := dT c26; clear c26; simp only [Option.some.injEq, Prod.mk.injEq] at H; obtain ⟨rfl, rfl⟩ := H; obtain ⟨Ao27, co27, eo27⟩ := Kd.R_slice O0.out; subst eo27
   go_wp2
   go_ret2
   exact ⟨er, by exact bes HB.out⟩
  rw [if_neg c26] at H
  have c26b0 := dF c26; clear c26; obtain ⟨ji28, hji28⟩ : ∃ j_ : Int, (wrap64 (a1 - a2)) = j_ := ⟨_, rfl⟩; replace H : (if 0 ≤ (ji28) then (if (ji28) < (x10_6.length : Int) then (some (rdOf ByteArray.empty x10_6 (ji28), 0)) else (none)) else (none)) = some (r1, r2) := by first | (rw [hji28] at H; exact H) | (simp only [hji28] at H ⊢; exact H)
  (try rw [hji28] at c26b0)
  have hji28w : (IntKind.i64.wrap (a1 - a2)) = ji28 := (i64_w _).trans hji28
  by_cases c29 : 0 ≤ (ji28); rotate_left
  ·rw [if_neg c29] at H
   exact absurd H (by simp)
  rw [if_pos c29] at H
  have c29b0 := dT c29; clear c29
  by_cases c30 : (ji28) < (x10_6.length : Int); rotate_left
  ·rw [if_neg c30] at H
   exact absurd H (by simp)
  rw [if_pos c30] at H
  have c30b0 := dT c30; clear c30; simp only [Option.some.injEq, Prod.mk.injEq] at H; obtain ⟨rfl, rfl⟩ := H; obtain ⟨Ao31, co31, eo31⟩ := Kd.R_slice O0.out; subst eo31
  have p322 : 0 ≤ ((ji28) : Int) := of_decide_eq_true (by assumption)
  have q322 : (ji28) < (x10_6.length : Int) := of_decide_eq_true (by assumption); obtain ⟨ad322, e322, hx322_0⟩ := Kd.at_string (Kd.R_reads' O0.out).2.2 (ji28) p322 q322
  cases e322
  replace p322 := eq_true p322; replace q322 := eq_true q322
  go_wp2
  go_ret2
  exact ⟨by first | rfl | (simp [errW_none, errW_some] <;> rfl) | (simp only [← hji28]; first | rfl | (simp [errW_none, errW_some] <;> rfl)) | (simp [*, errW_none, errW_some] <;> rfl), by exact bes HB.out⟩

end Go.Proofs.YtjgobfbjmlacjaaDoor.XA
