-- Written by wip/xprint.py (a driver of mine over the kit's printer) for this claim.
import Derived.Test.YtjgobfbjmlacjaaDoorXA0
import Derived.Test.YtjgobfbjmlacjaaDoorXA1
import Derived.Test.YtjgobfbjmlacjaaDoorXA5
namespace Go.Proofs.YtjgobfbjmlacjaaDoor.XA
open Go.RowKit Go.Proofs.YtjgobfbjmlacjaaDoorW.PrintWords Go.Proofs.YtjgobfbjmlacjaaDoorW.PrintLast Go.Proofs.YtjgobfbjmlacjaaDoorW.PrintMore
open Bool renaming true → tt, false → ff
open _root_.ByteArray renaming mk → B_
attribute [local go_sem] max2_int min2_int max_two min_two max_three min_three max_four min_four   -- for this text's walks alone
set_option maxHeartbeats 8000000
set_option maxRecDepth 100000
set_option linter.unusedVariables false
set_option linter.unusedSimpArgs false

/-! ### word_Month: function 22 -/
def word_Month.f (k : Nat) (a0 : Int) (a1 : Int) : Option (ByteArray × Int) := (word_name.f k a0 a1 1 (some 49)).bind fun bt323 => (some (bt323.1, bt323.2))
theorem word_Month.mono : ∀ a0 a1 k, LeO (word_Month.f k a0 a1) (word_Month.f (k + 1) a0 a1) := by
 intro a0 a1 k
 unfold word_Month.f
 repeat' first
   | (with_reducible exact word_name.mono _ _ _ _ _)
   | (with_reducible exact LeO.refl _)
   | (with_reducible exact LeO.none _)
   | (with_reducible refine LeO.ite ?_ ?_)
   | (with_reducible refine LeO.bind ?_ (fun _ => ?_))
theorem word_Month.calls (k : Nat) (a0 : Int) (a1 : Int) (r1 : ByteArray) (r2 : Int) (w : World) (h : word_Month.f k a0 a1 = some (r1, r2)) :
  Calls Tryd.prog 22 #[.int .i64 a0, .int .i64 a1] w fun e w' => e = .returned (.tuple #[.string r1, .int .i64 r2]) ∧ Below w.heap.size w w' := by
 have HB := am (Below.refl w.heap.size w)
 have H := h; clear h; unfold word_Month.f at H; replace H := bm H; obtain ⟨⟨t323, t324⟩, A30, H⟩ := H; replace H : (some (t323, t324)) = some (r1, r2) := H; have A3 := am A30; clear A30; simp only [Option.some.injEq, Prod.mk.injEq] at H; obtain ⟨rfl, rfl⟩ := H
 go_enter Tryd.func22, Tryd.ntmps22
 go_wp2_with (first | ((with_reducible refine gate_callee (f := 48) rfl ?_); refine gL (some 8) rfl rfl Tryd.func48 #[.int .i64 a0, .int .i64 a1, .int .i64 1, .func (.func 49) #[] #[]] ?_; (refine (word_name.calls k a0 a1 1 (some 49) t323 t324 _ A3.out).mono ?_); rintro e w4 ⟨rfl, hb⟩; refine ⟨_, rfl, ?_⟩; replace HB := bsp HB hb; (try clear hb)))
 go_ret2
 exact ⟨er, by exact bes HB.out⟩

/-! ### word_place: function 53 -/
def word_place.j0 : Nat → Int → Int → Option (Int × Int)
 | 0, _, _ => none
 | k + 1, x2, x10 => if x10 < 0 then (some (0, 110)) else (some (wrap64 (x10 + x2), 0))
def word_place.f (k : Nat) (a0 : Int) (a1 : ByteArray) (a2 : Int) (a3 : Option Nat) : Option (Int × Int) := (word_known.f a0).bind fun t325 => (if t325 = true then ((word_tongues.f a0).bind fun bt326 => (if a3 = some 49 then ((word_monthsOf.f bt326.1 bt326.2.1 bt326.2.2.1 bt326.2.2.2.1 bt326.2.2.2.2.1 bt326.2.2.2.2.2.1 bt326.2.2.2.2.2.2).bind fun t341 => ((XL.slices_Index_string_string.f k t341 a1).bind fun t344 => (word_place.j0 k a2 t344))) else (if a3 = some 52 then ((word_daysOf.f bt326.1 bt326.2.1 bt326.2.2.1 bt326.2.2.2.1 bt326.2.2.2.2.1 bt326.2.2.2.2.2.1 bt326.2.2.2.2.2.2).bind fun t345 => ((XL.slices_Index_string_string.f k t345 a1).bind fun t348 => (word_place.j0 k a2 t348))) else (none)))) else (some (0, 110)))
theorem word_place.mono_l : ∀ k, (∀ y0 y1, LeO (word_place.j0 k y0 y1) (word_place.j0 (k + 1) y0 y1))
 | 0 => fun _ _ r h => by simp [word_place.j0] at h
 | k + 1 => by
  have ih0 := word_place.mono_l k
  intro y0 y1
  unfold word_place.j0
  repeat' first
  | (with_reducible exact ih0 _ _)
  | (with_reducible exact XL.slices_Index_string_string.mono _ _ _)
  | (with_reducible exact LeO.refl _)
  | (with_reducible exact LeO.none _)
  | (with_reducible refine LeO.ite ?_ ?_)
  | (with_reducible refine LeO.bind ?_ (fun _ => ?_))
theorem word_place.mono : ∀ a0 a1 a2 a3 k, LeO (word_place.f k a0 a1 a2 a3) (word_place.f (k + 1) a0 a1 a2 a3) := by
 intro a0 a1 a2 a3 k; have ih0 := word_place.mono_l k
 unfold word_place.f
 repeat' first
   | (with_reducible exact ih0 _ _)
   | (with_reducible exact XL.slices_Index_string_string.mono _ _ _)
   | (with_reducible exact LeO.refl _)
   | (with_reducible exact LeO.none _)
   | (with_reducible refine LeO.ite ?_ ?_)
   | (with_reducible refine LeO.bind ?_ (fun _ => ?_))
theorem word_place.calls (k : Nat) (a0 : Int) (a1 : ByteArray) (a2 : Int) (a3 : Option Nat) (r1 : Int) (r2 : Int) (w : World) (h : word_place.f k a0 a1 a2 a3 = some (r1, r2)) :
  Calls Tryd.prog 53 #[.int .i64 a0, .string a1, .int .i64 a2, fnv a3] w fun e w' => e = .returned (.tuple #[.int .i64 r1, .int .i64 r2]) ∧ Below w.heap.size w w' := by
 have HB := am (Below.refl w.heap.size w)
 have H := h; clear h; unfold word_place.f at H; replace H := bm H; obtain ⟨t325, A5, H⟩ := H; replace A5 := am A5
 by_cases c6 : t325 = true; rotate_left
 ·replace c6 := Bool.eq_false_iff.mpr c6
  subst c6; replace H := inn H
  simp only [Option.some.injEq, Prod.mk.injEq] at H; obtain ⟨rfl, rfl⟩ := H
  go_enter Tryd.func53, Tryd.ntmps53
  go_wp2_with (first | ((with_reducible refine gate_callee (f := 35) rfl ?_); refine gL (some 12) rfl rfl Tryd.func35 #[.int .i64 a0] ?_; (refine (word_known.calls a0 false _ A5.out).mono ?_); rintro e w' ⟨rfl, ⟨nd, rfl⟩⟩; refine ⟨_, rfl, ?_⟩))
  go_ret2
  exact ⟨er, by exact bes HB.out⟩
 subst c6; replace H := ip H
 have HC7 := am H; clear H
 go_enter Tryd.func53, Tryd.ntmps53
 go_upto_region 3 with (first | ((with_reducible refine gate_callee (f := 35) rfl ?_); refine gL (some 12) rfl rfl Tryd.func35 #[.int .i64 a0] ?_; (refine (word_known.calls a0 true _ A5.out).mono ?_); rintro e w' ⟨rfl, ⟨nd, rfl⟩⟩; refine ⟨_, rfl, ?_⟩))
 (try simp only [Act.put, sa_, s0_, s1_])
 go_cut [10] (fun v10 wc => ∃ (kq : Nat) (x10_6 : Int), v10 = .int .i64 x10_6 ∧ Aside0 (word_place.j0 kq a2 x10_6 = some (r1, r2)) ∧ Aside0 (kq ≤ k) ∧ Aside0 (Below w.heap.size w wc))
 case first =>
  have H := HC7.out; clear HC7; replace H := bm H; obtain ⟨⟨t326, t329, t332, t335, t338, t339, t340⟩, A80, H⟩ := H; replace H : (if a3 = some 49 then ((word_monthsOf.f t326 t329 t332 t335 t338 t339 t340).bind fun t341 => ((XL.slices_Index_string_string.f k t341 a1).bind fun t344 => (word_place.j0 k a2 t344))) else (if a3 = some 52 then ((word_daysOf.f t326 t329 t332 t335 t338 t339 t340).bind fun t345 => ((XL.slices_Index_string_string.f k t345 a1).bind fun t348 => (word_place.j0 k a2 t348))) else (none))) = some (r1, r2) := H; have A8 := am A80; clear A80
  by_cases c9 : a3 = some 49
  ·subst c9
   replace H := ip H
   (try simp only [fnv_some]); replace H := bm H; obtain ⟨t341, A10, H⟩ := H; replace A10 := am A10; replace H := bm H; obtain ⟨t344, A11, H⟩ := H; replace A11 := am A11
   have H' := am H; clear H
   go_wp2_with (first | ((with_reducible refine gate_callee (f := 36) rfl ?_); refine gL (some 16) rfl rfl Tryd.func36 #[.int .i64 a0] ?_; (refine (word_tongues.calls a0 t326 t329 t332 t335 t338 t339 t340 _ A8.out).mono ?_); rintro e w12 ⟨v327, v330, v333, v336, rfl, ho0, ho1, ho2, ho3, hb⟩; refine ⟨_, rfl, ?_⟩; have HO328 := am (Kd.R_lower ho0 (below_size (bes HB.out))); have HO331 := am (Kd.R_lower ho1 (below_size (bes HB.out))); have HO334 := am (Kd.R_lower ho2 (below_size (bes HB.out))); have HO337 := am (Kd.R_lower ho3 (below_size (bes HB.out))); replace HB := bsp HB hb; (try clear hb); (try clear ho0); (try clear ho1); (try clear ho2); (try clear ho3); obtain ⟨Ao13, co13, eo13⟩ := Kd.R_slice HO328.out; subst eo13; obtain ⟨Ao14, co14, eo14⟩ := Kd.R_slice HO331.out; subst eo14; obtain ⟨Ao15, co15, eo15⟩ := Kd.R_slice HO334.out; subst eo15; obtain ⟨Ao16, co16, eo16⟩ := Kd.R_slice HO337.out; subst eo16) | (go_at_call 49; (refine (word_monthsOf.calls _ _ t326 _ _ t329 (fun k_ => some k_ = (.slice Ao15 t332.length co15 : Value).ownBlock) (.slice Ao15 t332.length co15) t332 _ _ t335 t338 t339 t340 t341 w _ ?_ ?_ ?_ ?_ ?_ ?_ ?_ ?_ A10.out).mono ?_); exact bes HB.out; exact Kd.C_kept_own (HO328.out) (fun k_ hk_ hs_ => (hk_.2.1) hs_); exact (Kd.R_reads' HO328.out).2.1; exact Kd.C_kept_own (HO331.out) (fun k_ hk_ hs_ => (hk_.2.1) hs_); exact (Kd.R_reads' HO331.out).2.1; exact Kd.R_tight rfl HO334.out; exact Kd.C_kept_own (HO337.out) (fun k_ hk_ hs_ => (hk_.2.2) hs_); exact (Kd.R_reads' HO337.out).2.1; rintro e w17 ⟨v342, rfl, ho0, hb, hkp⟩; have n0_ := am (Kd.R_mono (ok' := fun k_ => some k_ ≠ (.slice Ao14 t329.length co14 : Value).ownBlock ∧ some k_ ≠ (.slice Ao16 t335.length co16 : Value).ownBlock ∧ some k_ ≠ (v342 : Value).ownBlock) (Kd.R_keptB (HO328.out) hkp (fun k_ hk_ hs_ => (hk_.2.1) hs_)) (fun k_ hk_ => ⟨hk_.1.1, hk_.1.2.2, fun e_ => Or.elim (ho0.1 k_ e_.symm) (fun hs_ => hk_.2.1 hs_) (fun hn_ => Nat.not_le.2 hk_.2.2 hn_)⟩)); have n1_ := am (Kd.R_mono (ok' := fun k_ => some k_ ≠ (.slice Ao13 t326.length co13 : Value).ownBlock ∧ some k_ ≠ (.slice Ao16 t335.length co16 : Value).ownBlock ∧ some k_ ≠ (v342 : Value).ownBlock) (Kd.R_keptB (HO331.out) hkp (fun k_ hk_ hs_ => (hk_.2.1) hs_)) (fun k_ hk_ => ⟨hk_.1.1, hk_.1.2.2, fun e_ => Or.elim (ho0.1 k_ e_.symm) (fun hs_ => hk_.2.1 hs_) (fun hn_ => Nat.not_le.2 hk_.2.2 hn_)⟩)); have n2_ := am (Kd.R_mono (ok' := fun k_ => some k_ ≠ (.slice Ao13 t326.length co13 : Value).ownBlock ∧ some k_ ≠ (.slice Ao14 t329.length co14 : Value).ownBlock ∧ some k_ ≠ (v342 : Value).ownBlock) (Kd.R_keptB (HO337.out) hkp (fun k_ hk_ hs_ => (hk_.2.2) hs_)) (fun k_ hk_ => ⟨hk_.1.1, hk_.1.2.1, fun e_ => Or.elim (ho0.1 k_ e_.symm) (fun hs_ => hk_.2.1 hs_) (fun hn_ => Nat.not_le.2 hk_.2.2 hn_)⟩)); have n3_ := am (Kd.R_mono (ok' := fun k_ => some k_ ≠ (.slice Ao13 t326.length co13 : Value).ownBlock ∧ some k_ ≠ (.slice Ao14 t329.length co14 : Value).ownBlock ∧ some k_ ≠ (.slice Ao16 t335.length co16 : Value).ownBlock) ho0 (fun k_ hk_ => ⟨Or.elim hk_ (fun hs_ => fun e_ => (((HO328.out).1 k_ e_.symm).2.1) hs_) (fun hn_ => (Kd.fresh' (Kd.R_lt (R_st HO328.out)) k_ hn_)), Or.elim hk_ (fun hs_ => fun e_ => (((HO331.out).1 k_ e_.symm).2.1) hs_) (fun hn_ => (Kd.fresh' (Kd.R_lt (R_st HO331.out)) k_ hn_)), Or.elim hk_ (fun hs_ => fun e_ => (((HO337.out).1 k_ e_.symm).2.2) hs_) (fun hn_ => (Kd.fresh' (Kd.R_lt (R_st HO337.out)) k_ hn_))⟩)); have n4_ := am (hb); clear HO328; clear HO331; clear HO337; clear HB; clear HO334; have HO328 := n0_; have HO331 := n1_; have HO337 := n2_; have HO343 := n3_; have HB := n4_; clear n0_ n1_ n2_ n3_ n4_; (try clear hb); (try clear hkp); (try clear ho0); obtain ⟨Ao18, co18, eo18⟩ := Kd.R_slice HO343.out; subst eo18) | ((with_reducible refine gate_callee (f := 77) rfl ?_); refine gL (some 19) rfl rfl Tryd.func77 #[.slice Ao18 t341.length co18, .string a1] ?_; (refine (XL.slices_Index_string_string.calls k _ _ t341 a1 t344 _ ?_ ?_ A11.out).mono ?_); exact C_st ((Kd.R_reads' HO343.out).2.2); exact (Kd.R_reads' HO343.out).2.1; rintro e w' ⟨rfl, ⟨nd, rfl⟩⟩; refine ⟨_, rfl, ?_⟩))
   go_meet
   case rel => exact ⟨_, (t344), cd, H', ⟨om⟩, ⟨by exact bes HB.out⟩⟩
  rw [if_neg c9] at H
  by_cases c19 : a3 = some 52; rotate_left
  ·rw [if_neg c19] at H
   exact absurd H (by simp)
  subst c19; replace H := ip H
  (try simp only [fnv_some]); replace H := bm H; obtain ⟨t345, A20, H⟩ := H; replace A20 := am A20; replace H := bm H; obtain ⟨t348, A21, H⟩ := H; replace A21 := am A21
  have H' := am H; clear H
  go_wp2_with (first | ((with_reducible refine gate_callee (f := 36) rfl ?_); refine gL (some 16) rfl rfl Tryd.func36 #[.int .i64 a0] ?_; (refine (word_tongues.calls a0 t326 t329 t332 t335 t338 t339 t340 _ A8.out).mono ?_); rintro e w22 ⟨v327, v330, v333, v336, rfl, ho0, ho1, ho2, ho3, hb⟩; refine ⟨_, rfl, ?_⟩; have HO328 := am (Kd.R_lower ho0 (below_size (bes HB.out))); have HO331 := am (Kd.R_lower ho1 (below_size (bes HB.out))); have HO334 := am (Kd.R_lower ho2 (below_size (bes HB.out))); have HO337 := am (Kd.R_lower ho3 (below_size (bes HB.out))); replace HB := bsp HB hb; (try clear hb); (try clear ho0); (try clear ho1); (try clear ho2); (try clear ho3); obtain ⟨Ao23, co23, eo23⟩ := Kd.R_slice HO328.out; subst eo23; obtain ⟨Ao24, co24, eo24⟩ := Kd.R_slice HO331.out; subst eo24; obtain ⟨Ao25, co25, eo25⟩ := Kd.R_slice HO334.out; subst eo25; obtain ⟨Ao26, co26, eo26⟩ := Kd.R_slice HO337.out; subst eo26) | (go_at_call 52; (refine (word_daysOf.calls _ _ t326 _ _ t329 _ _ t332 (fun k_ => some k_ = (.slice Ao26 t335.length co26 : Value).ownBlock) (.slice Ao26 t335.length co26) t335 t338 t339 t340 t345 w _ ?_ ?_ ?_ ?_ ?_ ?_ ?_ ?_ A20.out).mono ?_); exact bes HB.out; exact Kd.C_kept_own (HO328.out) (fun k_ hk_ hs_ => (hk_.2.2) hs_); exact (Kd.R_reads' HO328.out).2.1; exact Kd.C_kept_own (HO331.out) (fun k_ hk_ hs_ => (hk_.2.2) hs_); exact (Kd.R_reads' HO331.out).2.1; exact Kd.C_kept_own (HO334.out) (fun k_ hk_ hs_ => (hk_.2.2) hs_); exact (Kd.R_reads' HO334.out).2.1; exact Kd.R_tight rfl HO337.out; rintro e w27 ⟨v346, rfl, ho0, hb, hkp⟩; have n0_ := am (Kd.R_mono (ok' := fun k_ => some k_ ≠ (.slice Ao24 t329.length co24 : Value).ownBlock ∧ some k_ ≠ (.slice Ao25 t332.length co25 : Value).ownBlock ∧ some k_ ≠ (v346 : Value).ownBlock) (Kd.R_keptB (HO328.out) hkp (fun k_ hk_ hs_ => (hk_.2.2) hs_)) (fun k_ hk_ => ⟨hk_.1.1, hk_.1.2.1, fun e_ => Or.elim (ho0.1 k_ e_.symm) (fun hs_ => hk_.2.1 hs_) (fun hn_ => Nat.not_le.2 hk_.2.2 hn_)⟩)); have n1_ := am (Kd.R_mono (ok' := fun k_ => some k_ ≠ (.slice Ao23 t326.length co23 : Value).ownBlock ∧ some k_ ≠ (.slice Ao25 t332.length co25 : Value).ownBlock ∧ some k_ ≠ (v346 : Value).ownBlock) (Kd.R_keptB (HO331.out) hkp (fun k_ hk_ hs_ => (hk_.2.2) hs_)) (fun k_ hk_ => ⟨hk_.1.1, hk_.1.2.1, fun e_ => Or.elim (ho0.1 k_ e_.symm) (fun hs_ => hk_.2.1 hs_) (fun hn_ => Nat.not_le.2 hk_.2.2 hn_)⟩)); have n2_ := am (Kd.R_mono (ok' := fun k_ => some k_ ≠ (.slice Ao23 t326.length co23 : Value).ownBlock ∧ some k_ ≠ (.slice Ao24 t329.length co24 : Value).ownBlock ∧ some k_ ≠ (v346 : Value).ownBlock) (Kd.R_keptB (HO334.out) hkp (fun k_ hk_ hs_ => (hk_.2.2) hs_)) (fun k_ hk_ => ⟨hk_.1.1, hk_.1.2.1, fun e_ => Or.elim (ho0.1 k_ e_.symm) (fun hs_ => hk_.2.1 hs_) (fun hn_ => Nat.not_le.2 hk_.2.2 hn_)⟩)); have n3_ := am (Kd.R_mono (ok' := fun k_ => some k_ ≠ (.slice Ao23 t326.length co23 : Value).ownBlock ∧ some k_ ≠ (.slice Ao24 t329.length co24 : Value).ownBlock ∧ some k_ ≠ (.slice Ao25 t332.length co25 : Value).ownBlock) ho0 (fun k_ hk_ => ⟨Or.elim hk_ (fun hs_ => fun e_ => (((HO328.out).1 k_ e_.symm).2.2) hs_) (fun hn_ => (Kd.fresh' (Kd.R_lt (R_st HO328.out)) k_ hn_)), Or.elim hk_ (fun hs_ => fun e_ => (((HO331.out).1 k_ e_.symm).2.2) hs_) (fun hn_ => (Kd.fresh' (Kd.R_lt (R_st HO331.out)) k_ hn_)), Or.elim hk_ (fun hs_ => fun e_ => (((HO334.out).1 k_ e_.symm).2.2) hs_) (fun hn_ => (Kd.fresh' (Kd.R_lt (R_st HO334.out)) k_ hn_))⟩)); have n4_ := am (hb); clear HO328; clear HO331; clear HO334; clear HB; clear HO337; have HO328 := n0_; have HO331 := n1_; have HO334 := n2_; have HO347 := n3_; have HB := n4_; clear n0_ n1_ n2_ n3_ n4_; (try clear hb); (try clear hkp); (try clear ho0); obtain ⟨Ao28, co28, eo28⟩ := Kd.R_slice HO347.out; subst eo28) | ((with_reducible refine gate_callee (f := 77) rfl ?_); refine gL (some 19) rfl rfl Tryd.func77 #[.slice Ao28 t345.length co28, .string a1] ?_; (refine (XL.slices_Index_string_string.calls k _ _ t345 a1 t348 _ ?_ ?_ A21.out).mono ?_); exact C_st ((Kd.R_reads' HO347.out).2.2); exact (Kd.R_reads' HO347.out).2.1; rintro e w' ⟨rfl, ⟨nd, rfl⟩⟩; refine ⟨_, rfl, ?_⟩))
  go_meet
  case rel => exact ⟨_, (t348), cd, H', ⟨om⟩, ⟨by exact bes HB.out⟩⟩
 clear HC7
 try clear c1
 try clear p2
 try clear c3
 try clear c5
 try clear c6
 try clear c7
 try clear c9
 try clear c19
 obtain ⟨kq, x10_6, rfl, HA, HJ6, HB⟩ := hcut
 cases kq with
 | zero => exact absurd HA.out (by simp [word_place.j0])
 | succ kj6 =>
  have H := HA.out; clear HA; simp only [word_place.j0] at H
  by_cases c29 : x10_6 < 0
  ·rw [if_pos c29] at H
   have c29b0 := dT c29; clear c29; simp only [Option.some.injEq, Prod.mk.injEq] at H; obtain ⟨rfl, rfl⟩ := H
   go_wp2
   go_ret2
   exact ⟨er, by exact bes HB.out⟩
  rw [if_neg c29] at H
  have c29b0 := dF c29; clear c29; simp only [Option.some.injEq, Prod.mk.injEq] at H; obtain ⟨rfl, rfl⟩ := H
  go_wp2
  go_ret2
  exact ⟨er, by exact bes HB.out⟩

/-! ### word_MonthOf: function 26 -/
def word_MonthOf.f (k : Nat) (a0 : Int) (a1 : ByteArray) : Option (Int × Int) := (word_place.f k a0 a1 1 (some 49)).bind fun bt349 => (some (bt349.1, bt349.2))
theorem word_MonthOf.mono : ∀ a0 a1 k, LeO (word_MonthOf.f k a0 a1) (word_MonthOf.f (k + 1) a0 a1) := by
 intro a0 a1 k
 unfold word_MonthOf.f
 repeat' first
   | (with_reducible exact word_place.mono _ _ _ _ _)
   | (with_reducible exact LeO.refl _)
   | (with_reducible exact LeO.none _)
   | (with_reducible refine LeO.ite ?_ ?_)
   | (with_reducible refine LeO.bind ?_ (fun _ => ?_))
theorem word_MonthOf.calls (k : Nat) (a0 : Int) (a1 : ByteArray) (r1 : Int) (r2 : Int) (w : World) (h : word_MonthOf.f k a0 a1 = some (r1, r2)) :
  Calls Tryd.prog 26 #[.int .i64 a0, .string a1] w fun e w' => e = .returned (.tuple #[.int .i64 r1, .int .i64 r2]) ∧ Below w.heap.size w w' := by
 have HB := am (Below.refl w.heap.size w)
 have H := h; clear h; unfold word_MonthOf.f at H; replace H := bm H; obtain ⟨⟨t349, t350⟩, A30, H⟩ := H; replace H : (some (t349, t350)) = some (r1, r2) := H; have A3 := am A30; clear A30; simp only [Option.some.injEq, Prod.mk.injEq] at H; obtain ⟨rfl, rfl⟩ := H
 go_enter Tryd.func26, Tryd.ntmps26
 go_wp2_with (first | ((with_reducible refine gate_callee (f := 53) rfl ?_); refine gL (some 8) rfl rfl Tryd.func53 #[.int .i64 a0, .string a1, .int .i64 1, .func (.func 49) #[] #[]] ?_; (refine (word_place.calls k a0 a1 1 (some 49) t349 t350 _ A3.out).mono ?_); rintro e w4 ⟨rfl, hb⟩; refine ⟨_, rfl, ?_⟩; replace HB := bsp HB hb; (try clear hb)))
 go_ret2
 exact ⟨er, by exact bes HB.out⟩

/-! ### word_Weekday: function 24 -/
def word_Weekday.f (k : Nat) (a0 : Int) (a1 : Int) : Option (ByteArray × Int) := (word_name.f k a0 a1 0 (some 52)).bind fun bt351 => (some (bt351.1, bt351.2))
theorem word_Weekday.mono : ∀ a0 a1 k, LeO (word_Weekday.f k a0 a1) (word_Weekday.f (k + 1) a0 a1) := by
 intro a0 a1 k
 unfold word_Weekday.f
 repeat' first
   | (with_reducible exact word_name.mono _ _ _ _ _)
   | (with_reducible exact LeO.refl _)
   | (with_reducible exact LeO.none _)
   | (with_reducible refine LeO.ite ?_ ?_)
   | (with_reducible refine LeO.bind ?_ (fun _ => ?_))
theorem word_Weekday.calls (k : Nat) (a0 : Int) (a1 : Int) (r1 : ByteArray) (r2 : Int) (w : World) (h : word_Weekday.f k a0 a1 = some (r1, r2)) :
  Calls Tryd.prog 24 #[.int .i64 a0, .int .i64 a1] w fun e w' => e = .returned (.tuple #[.string r1, .int .i64 r2]) ∧ Below w.heap.size w w' := by
 have HB := am (Below.refl w.heap.size w)
 have H := h; clear h; unfold word_Weekday.f at H; replace H := bm H; obtain ⟨⟨t351, t352⟩, A30, H⟩ := H; replace H : (some (t351, t352)) = some (r1, r2) := H; have A3 := am A30; clear A30; simp only [Option.some.injEq, Prod.mk.injEq] at H; obtain ⟨rfl, rfl⟩ := H
 go_enter Tryd.func24, Tryd.ntmps24
 go_wp2_with (first | ((with_reducible refine gate_callee (f := 48) rfl ?_); refine gL (some 8) rfl rfl Tryd.func48 #[.int .i64 a0, .int .i64 a1, .int .i64 0, .func (.func 52) #[] #[]] ?_; (refine (word_name.calls k a0 a1 0 (some 52) t351 t352 _ A3.out).mono ?_); rintro e w4 ⟨rfl, hb⟩; refine ⟨_, rfl, ?_⟩; replace HB := bsp HB hb; (try clear hb)))
 go_ret2
 exact ⟨er, by exact bes HB.out⟩

/-! ### word_WeekdayOf: function 28 -/
def word_WeekdayOf.f (k : Nat) (a0 : Int) (a1 : ByteArray) : Option (Int × Int) := (word_place.f k a0 a1 0 (some 52)).bind fun bt353 => (some (bt353.1, bt353.2))
theorem word_WeekdayOf.mono : ∀ a0 a1 k, LeO (word_WeekdayOf.f k a0 a1) (word_WeekdayOf.f (k + 1) a0 a1) := by
 intro a0 a1 k
 unfold word_WeekdayOf.f
 repeat' first
   | (with_reducible exact word_place.mono _ _ _ _ _)
   | (with_reducible exact LeO.refl _)
   | (with_reducible exact LeO.none _)
   | (with_reducible refine LeO.ite ?_ ?_)
   | (with_reducible refine LeO.bind ?_ (fun _ => ?_))
theorem word_WeekdayOf.calls (k : Nat) (a0 : Int) (a1 : ByteArray) (r1 : Int) (r2 : Int) (w : World) (h : word_WeekdayOf.f k a0 a1 = some (r1, r2)) :
  Calls Tryd.prog 28 #[.int .i64 a0, .string a1] w fun e w' => e = .returned (.tuple #[.int .i64 r1, .int .i64 r2]) ∧ Below w.heap.size w w' := by
 have HB := am (Below.refl w.heap.size w)
 have H := h; clear h; unfold word_WeekdayOf.f at H; replace H := bm H; obtain ⟨⟨t353, t354⟩, A30, H⟩ := H; replace H : (some (t353, t354)) = some (r1, r2) := H; have A3 := am A30; clear A30; simp only [Option.some.injEq, Prod.mk.injEq] at H; obtain ⟨rfl, rfl⟩ := H
 go_enter Tryd.func28, Tryd.ntmps28
 go_wp2_with (first | ((with_reducible refine gate_callee (f := 53) rfl ?_); refine gL (some 8) rfl rfl Tryd.func53 #[.int .i64 a0, .string a1, .int .i64 0, .func (.func 52) #[] #[]] ?_; (refine (word_place.calls k a0 a1 0 (some 52) t353 t354 _ A3.out).mono ?_); rintro e w4 ⟨rfl, hb⟩; refine ⟨_, rfl, ?_⟩; replace HB := bsp HB hb; (try clear hb)))
 go_ret2
 exact ⟨er, by exact bes HB.out⟩

end Go.Proofs.YtjgobfbjmlacjaaDoor.XA
