-- Written by wip/xprint.py (a driver of mine over the kit's printer) for this claim.
import Derived.Test.YtjgobfbjmlacjaaDoorXM0
import Derived.Test.YtjgobfbjmlacjaaDoorXM2
import Derived.Test.YtjgobfbjmlacjaaDoorXM3
namespace Go.Proofs.YtjgobfbjmlacjaaDoor.XM
open Go.RowKit Go.Proofs.YtjgobfbjmlacjaaDoorW.PrintWords Go.Proofs.YtjgobfbjmlacjaaDoorW.PrintLast Go.Proofs.YtjgobfbjmlacjaaDoorW.PrintMore
open Bool renaming true → tt, false → ff
open _root_.ByteArray renaming mk → B_
attribute [local go_sem] max2_int min2_int max_two min_two max_three min_three max_four min_four   -- for this text's walks alone
set_option maxHeartbeats 8000000
set_option maxRecDepth 100000
set_option linter.unusedVariables false
set_option linter.unusedSimpArgs false

/-! ### newswirelaw11_WordMatchesReference: function 8 -/
mutual
def newswirelaw11_WordMatchesReference.l0 : Nat → Int → Bool → ByteArray → List Int → Int → Int → Option (Bool)
 | 0, _, _, _, _, _, _ => none
 | k + 1, x1, x7, x8, x45, x46, x47 => if x47 < x46 then (if 0 ≤ x47 then (if x47 < (x45.length : Int) then ((XS.newswirelaw11_pick.f x1 1000000).bind fun t299 => ((XS.newswirelaw11_pick.f x1 13).bind fun t300 => ((some (([x1, t299, t300] : List Int) : List Int)).bind fun y301 => (newswirelaw11_WordMatchesReference.l1 k x1 x7 x8 (rd x45 x47) x45 x46 x47 y301 (y301.length : Int) 0)))) else (none)) else (none)) else (some x7)
def newswirelaw11_WordMatchesReference.l1 : Nat → Int → Bool → ByteArray → Int → List Int → Int → Int → List Int → Int → Int → Option (Bool)
 | 0, _, _, _, _, _, _, _, _, _, _ => none
 | k + 1, x1, x7, x8, x10, x45, x46, x47, x56, x57, x58 => if x58 < x57 then (if 0 ≤ x58 then (if x58 < (x56.length : Int) then ((XA.word_Words.f k x10 (rd x56 x58)).bind fun bt305 => ((newswireref11_Words.f k x10 (rd x56 x58)).bind fun bt309 => ((XA.word_Month.f k x10 (rd x56 x58)).bind fun bt313 => ((newswireref11_Month.f k x10 (rd x56 x58)).bind fun bt315 => ((XA.word_Weekday.f k x10 (rd x56 x58)).bind fun bt317 => ((newswireref11_Weekday.f k x10 (rd x56 x58)).bind fun bt319 => (if bt305.2 = bt309.2 then ((XS.newswireref11_Same.f k bt305.1 bt309.1).bind fun t321 => (if t321 = true then (if bt313.2 = bt315.2 then (if bt313.1.toList = bt315.1.toList then (if bt317.2 = bt319.2 then (newswirelaw11_WordMatchesReference.j2 k x1 x7 x8 x10 x45 x46 x47 x56 x57 x58 (bt317.1.toList != bt319.1.toList)) else (newswirelaw11_WordMatchesReference.j2 k x1 x7 x8 x10 x45 x46 x47 x56 x57 x58 true)) else (newswirelaw11_WordMatchesReference.j2 k x1 x7 x8 x10 x45 x46 x47 x56 x57 x58 true)) else (newswirelaw11_WordMatchesReference.j2 k x1 x7 x8 x10 x45 x46 x47 x56 x57 x58 true)) else (newswirelaw11_WordMatchesReference.j2 k x1 x7 x8 x10 x45 x46 x47 x56 x57 x58 true))) else (newswirelaw11_WordMatchesReference.j2 k x1 x7 x8 x10 x45 x46 x47 x56 x57 x58 true)))))))) else (none)) else (none)) else ((XA.word_MonthOf.f k x10 x8).bind fun bt322 => ((newswireref11_MonthOf.f k x10 x8).bind fun bt324 => ((XA.word_WeekdayOf.f k x10 x8).bind fun bt326 => ((newswireref11_WeekdayOf.f k x10 x8).bind fun bt328 => (if bt322.1 = bt324.1 then (if bt322.2 = bt324.2 then (if bt326.1 = bt328.1 then (if bt326.2 = bt328.2 then ((XI.word_Is.f k x10 x8).bind fun t330 => ((newswireref11_Is.f k x10 x8).bind fun t331 => (newswirelaw11_WordMatchesReference.j3 k x1 x7 x8 x45 x46 x47 (t330 != t331)))) else (newswirelaw11_WordMatchesReference.j3 k x1 x7 x8 x45 x46 x47 true)) else (newswirelaw11_WordMatchesReference.j3 k x1 x7 x8 x45 x46 x47 true)) else (newswirelaw11_WordMatchesReference.j3 k x1 x7 x8 x45 x46 x47 true)) else (newswirelaw11_WordMatchesReference.j3 k x1 x7 x8 x45 x46 x47 true))))))
def newswirelaw11_WordMatchesReference.j2 : Nat → Int → Bool → ByteArray → Int → List Int → Int → Int → List Int → Int → Int → Bool → Option (Bool)
 | 0, _, _, _, _, _, _, _, _, _, _, _ => none
 | k + 1, x1, x7, x8, x10, x45, x46, x47, x56, x57, x58, x126 => if x126 = true then (some false) else (newswirelaw11_WordMatchesReference.l1 k x1 x7 x8 x10 x45 x46 x47 x56 x57 (wrap64 (x58 + 1)))
def newswirelaw11_WordMatchesReference.j3 : Nat → Int → Bool → ByteArray → List Int → Int → Int → Bool → Option (Bool)
 | 0, _, _, _, _, _, _, _ => none
 | k + 1, x1, x7, x8, x45, x46, x47, x178 => if x178 = true then (some false) else (newswirelaw11_WordMatchesReference.l0 k x1 x7 x8 x45 x46 (wrap64 (x47 + 1)))
end
def newswirelaw11_WordMatchesReference.f (k : Nat) (a0 : Int) (a1 : Int) (a2 : ByteArray) : Option (Bool) := (XS.newswirelaw11_sane.f k).bind fun t293 => (if t293 = true then (if 0 ≤ (mn (a2.size : Int) 60) then (if (mn (a2.size : Int) 60) ≤ (a2.size : Int) then ((XS.newswirelaw11_pick.f a0 3).bind fun t294 => ((some (([a0, wrap64 (1 + t294)] : List Int) : List Int)).bind fun y295 => (newswirelaw11_WordMatchesReference.l0 k a1 t293 (a2.extract 0 ((mn (a2.size : Int) 60) : Int).toNat) y295 (y295.length : Int) 0))) else (none)) else (none)) else (some false))
theorem newswirelaw11_WordMatchesReference.mono_l : ∀ k, (∀ y0 y1 y2 y3 y4 y5, LeO (newswirelaw11_WordMatchesReference.l0 k y0 y1 y2 y3 y4 y5) (newswirelaw11_WordMatchesReference.l0 (k + 1) y0 y1 y2 y3 y4 y5)) ∧ (∀ y0 y1 y2 y3 y4 y5 y6 y7 y8 y9, LeO (newswirelaw11_WordMatchesReference.l1 k y0 y1 y2 y3 y4 y5 y6 y7 y8 y9) (newswirelaw11_WordMatchesReference.l1 (k + 1) y0 y1 y2 y3 y4 y5 y6 y7 y8 y9)) ∧ (∀ y0 y1 y2 y3 y4 y5 y6 y7 y8 y9 y10, LeO (newswirelaw11_WordMatchesReference.j2 k y0 y1 y2 y3 y4 y5 y6 y7 y8 y9 y10) (newswirelaw11_WordMatchesReference.j2 (k + 1) y0 y1 y2 y3 y4 y5 y6 y7 y8 y9 y10)) ∧ (∀ y0 y1 y2 y3 y4 y5 y6, LeO (newswirelaw11_WordMatchesReference.j3 k y0 y1 y2 y3 y4 y5 y6) (newswirelaw11_WordMatchesReference.j3 (k + 1) y0 y1 y2 y3 y4 y5 y6))
 | 0 => ⟨fun _ _ _ _ _ _ r h => by simp [newswirelaw11_WordMatchesReference.l0] at h, fun _ _ _ _ _ _ _ _ _ _ r h => by simp [newswirelaw11_WordMatchesReference.l1] at h, fun _ _ _ _ _ _ _ _ _ _ _ r h => by simp [newswirelaw11_WordMatchesReference.j2] at h, fun _ _ _ _ _ _ _ r h => by simp [newswirelaw11_WordMatchesReference.j3] at h⟩
 | k + 1 => by
  obtain ⟨ih0, ih1, ih2, ih3⟩ := newswirelaw11_WordMatchesReference.mono_l k
  refine ⟨?_, ?_, ?_, ?_⟩
  all_goals
   intros; first | unfold newswirelaw11_WordMatchesReference.l0 | unfold newswirelaw11_WordMatchesReference.l1 | unfold newswirelaw11_WordMatchesReference.j2 | unfold newswirelaw11_WordMatchesReference.j3
   repeat' first
   | (with_reducible exact ih0 _ _ _ _ _ _)
   | (with_reducible exact ih1 _ _ _ _ _ _ _ _ _ _)
   | (with_reducible exact ih2 _ _ _ _ _ _ _ _ _ _ _)
   | (with_reducible exact ih3 _ _ _ _ _ _ _)
   | (with_reducible exact XA.word_Month.mono _ _ _)
   | (with_reducible exact XA.word_MonthOf.mono _ _ _)
   | (with_reducible exact XA.word_Weekday.mono _ _ _)
   | (with_reducible exact XA.word_WeekdayOf.mono _ _ _)
   | (with_reducible exact XA.word_Words.mono _ _ _)
   | (with_reducible exact XI.word_Is.mono _ _ _)
   | (with_reducible exact XS.newswirelaw11_sane.mono _)
   | (with_reducible exact XS.newswireref11_Same.mono _ _ _)
   | (with_reducible exact newswireref11_Is.mono _ _ _)
   | (with_reducible exact newswireref11_Month.mono _ _ _)
   | (with_reducible exact newswireref11_MonthOf.mono _ _ _)
   | (with_reducible exact newswireref11_Weekday.mono _ _ _)
   | (with_reducible exact newswireref11_WeekdayOf.mono _ _ _)
   | (with_reducible exact newswireref11_Words.mono _ _ _)
   | (with_reducible exact LeO.refl _)
   | (with_reducible exact LeO.none _)
   | (with_reducible refine LeO.ite ?_ ?_)
   | (with_reducible refine LeO.bind ?_ (fun _ => ?_))
theorem newswirelaw11_WordMatchesReference.mono : ∀ a0 a1 a2 k, LeO (newswirelaw11_WordMatchesReference.f k a0 a1 a2) (newswirelaw11_WordMatchesReference.f (k + 1) a0 a1 a2) := by
 intro a0 a1 a2 k; obtain ⟨ih0, ih1, ih2, ih3⟩ := newswirelaw11_WordMatchesReference.mono_l k
 unfold newswirelaw11_WordMatchesReference.f
 repeat' first
   | (with_reducible exact ih0 _ _ _ _ _ _)
   | (with_reducible exact ih1 _ _ _ _ _ _ _ _ _ _)
   | (with_reducible exact ih2 _ _ _ _ _ _ _ _ _ _ _)
   | (with_reducible exact ih3 _ _ _ _ _ _ _)
   | (with_reducible exact XA.word_Month.mono _ _ _)
   | (with_reducible exact XA.word_MonthOf.mono _ _ _)
   | (with_reducible exact XA.word_Weekday.mono _ _ _)
   | (with_reducible exact XA.word_WeekdayOf.mono _ _ _)
   | (with_reducible exact XA.word_Words.mono _ _ _)
   | (with_reducible exact XI.word_Is.mono _ _ _)
   | (with_reducible exact XS.newswirelaw11_sane.mono _)
   | (with_reducible exact XS.newswireref11_Same.mono _ _ _)
   | (with_reducible exact newswireref11_Is.mono _ _ _)
   | (with_reducible exact newswireref11_Month.mono _ _ _)
   | (with_reducible exact newswireref11_MonthOf.mono _ _ _)
   | (with_reducible exact newswireref11_Weekday.mono _ _ _)
   | (with_reducible exact newswireref11_WeekdayOf.mono _ _ _)
   | (with_reducible exact newswireref11_Words.mono _ _ _)
   | (with_reducible exact LeO.refl _)
   | (with_reducible exact LeO.none _)
   | (with_reducible refine LeO.ite ?_ ?_)
   | (with_reducible refine LeO.bind ?_ (fun _ => ?_))
theorem newswirelaw11_WordMatchesReference.calls (k : Nat) (a0 : Int) (a1 : Int) (a2 : ByteArray) (r : Bool) (w : World) (hL_ : LW w) (h : newswirelaw11_WordMatchesReference.f k a0 a1 a2 = some r) :
  Calls Tryd.prog 8 #[.int .i64 a0, .int .i64 a1, .string a2] w fun e w' => e = .returned (.bool r) ∧ Below w.heap.size w w' := by
 have HLW := am hL_; clear hL_; have HB := am (Below.refl w.heap.size w)
 have H := h; clear h; unfold newswirelaw11_WordMatchesReference.f at H; replace H := bm H; obtain ⟨t293, A4, H⟩ := H; replace A4 := am A4
 by_cases c5 : t293 = true; rotate_left
 ·replace c5 := Bool.eq_false_iff.mpr c5
  subst c5; replace H := inn H
  obtain rfl := Option.some.inj H
  go_enter Tryd.func8, Tryd.ntmps8
  go_wp2_with (first | ((with_reducible refine gate_callee (f := 10) rfl ?_); refine gL (some 33) rfl rfl Tryd.func10 #[] ?_; (refine (XS.newswirelaw11_sane.calls k  false _ ?_ A4.out).mono ?_); exact LW.below HLW.out (bes HB.out); rintro e w73 ⟨rfl, hb⟩; refine ⟨_, rfl, ?_⟩; replace HB := bsp HB hb; (try clear hb)))
  go_ret
  exact ⟨er, by exact bes HB.out⟩
 subst c5; replace H := ip H
 obtain ⟨ji6, hji6⟩ : ∃ j_ : Int, (mn (a2.size : Int) 60) = j_ := ⟨_, rfl⟩; replace H : (if 0 ≤ (ji6) then (if (ji6) ≤ (a2.size : Int) then ((XS.newswirelaw11_pick.f a0 3).bind fun t294 => ((some (([a0, wrap64 (1 + t294)] : List Int) : List Int)).bind fun y295 => (newswirelaw11_WordMatchesReference.l0 k a1 true (a2.extract 0 ((ji6) : Int).toNat) y295 (y295.length : Int) 0))) else (none)) else (none)) = some r := by first | (rw [hji6] at H; exact H) | (simp only [hji6] at H ⊢; exact H)
 (try rw [hji6] at A4)
 (try (have hji6h : ji6 ≤ 60 := by (rw [← hji6]; unfold mn; (repeat' split) <;> omega)))
 (try (have hji6g : ji6 ≤ 64 := by omega))
 (try (have hji6l : 0 ≤ ji6 := by (rw [← hji6]; unfold mn; (repeat' split) <;> omega)))
 (try (have hji6m : 0 ≤ ji6 := by omega))
 have hji6_ : (if 60 < (a2.size : Int) then 60 else (a2.size : Int)) = ji6 := hji6
 by_cases c7 : 0 ≤ (ji6); rotate_left
 ·rw [if_neg c7] at H
  exact absurd H (by simp)
 rw [if_pos c7] at H; have c7b0 := eq_true c7
 have c7b1 := dT c7; clear c7
 by_cases c8 : (ji6) ≤ (a2.size : Int); rotate_left
 ·rw [if_neg c8] at H
  exact absurd H (by simp)
 rw [if_pos c8] at H; have c8b0 := eq_true c8
 have c8b1 := dT c8; clear c8; replace H := bm H; obtain ⟨t294, A9, H⟩ := H; replace A9 := am A9; obtain ⟨y295, hy295⟩ : ∃ y_ : List Int, y_ = (([a0, wrap64 (1 + t294)] : List Int)) := ⟨_, rfl⟩; replace H : (newswirelaw11_WordMatchesReference.l0 k a1 true (a2.extract 0 ((ji6) : Int).toNat) y295 (y295.length : Int) 0) = some r := by first | (rw [hy295]; with_reducible exact H) | (have H2_ := (Option.bind_some _ _).symm.trans H; rw [hy295]; with_reducible exact H2_) | (have H2_ := (Option.bind_some _ _).symm.trans H; with_reducible exact H2_) | with_reducible exact H | (rw [hy295]; exact H) | exact H
 have Ny295 := am hy295; clear hy295
 have H' := am H; clear H
 go_enter Tryd.func8, Tryd.ntmps8
 go_wp2_with (first | ((with_reducible refine gate_callee (f := 10) rfl ?_); refine gL (some 33) rfl rfl Tryd.func10 #[] ?_; (refine (XS.newswirelaw11_sane.calls k  true _ ?_ A4.out).mono ?_); exact LW.below HLW.out (bes HB.out); rintro e w10 ⟨rfl, hb⟩; refine ⟨_, rfl, ?_⟩; replace HB := bsp HB hb; (try clear hb)) | ((with_reducible refine gate_callee (f := 11) rfl ?_); refine gL (some 43) rfl rfl Tryd.func11 #[.int .i64 a0, .int .i64 3] ?_; (refine (XS.newswirelaw11_pick.calls a0 3 t294 _ A9.out).mono ?_); rintro e w' ⟨rfl, ⟨nd, rfl⟩⟩; refine ⟨_, rfl, ?_⟩) | ((with_reducible refine gate_dst (N := 45) rfl ?_); refine Kd.R_lit (Kd.int .i64) _ 3 ?hg (N := 45) ?hd (xs := ([a0, wrap64 (1 + t294)] : List Int)) (inner := [.int .i64 a0, .int .i64 (wrap64 (1 + t294))]) (ok := fun _ => True) (okp := fun _ => True) ?hr ?hp (fun _ hk => hk) trivial (Below.refl _ _) (Nat.le_refl _) (by simp) ?_; (case hd => rfl); (case hg => rfl); (case hr => first | (go_simp; done) | (go_simp; rfl)); (case hp => exact (Reps.one (show Kd.M (Kd.int .i64) _ _ _ a0 [.int .i64 a0] from rfl) (Reps.one (show Kd.M (Kd.int .i64) _ _ _ (wrap64 (1 + t294)) [.int .i64 (wrap64 (1 + t294))] from rfl) (Reps.none _ _)))); intro v296 w11 ho12 hb hg_ hnew_; clear hg_ hnew_; (first | rw [← Ny295.out] at ho12 | (simp only [Int.reduceToNat] at ho12; rw [← Ny295.out] at ho12)); have HO297 := am (Kd.R_lower ho12 (below_size (bes HB.out))); replace HB := bsp HB hb; clear hb ho12; obtain ⟨Ao13, co13, eo13⟩ := Kd.R_slice HO297.out; subst eo13))
 go_loopg [47] k (fun kq v47 w' => ∃ (x47_1 : Int), v47 = .int .i64 x47_1 ∧ Aside0 (newswirelaw11_WordMatchesReference.l0 kq a1 true (a2.extract 0 ((ji6) : Int).toNat) y295 (y295.length : Int) x47_1 = some r) ∧ Aside0 (kq ≤ k) ∧ Aside0 (Kd.R (Kd.int .i64) 3 w' w.heap.size (fun _ => True) (.slice Ao13 y295.length co13) y295) ∧ Aside0 (Below w.heap.size w w'))
 case atStart => exact ⟨(0), cd, H', ⟨Nat.le_refl _⟩, ⟨by exact R_st HO297.out⟩, ⟨by exact bes HB.out⟩⟩
 clear H'
 try clear c1
 try clear p2
 try clear c5
 try clear p6
 try clear c7
 try clear c7b0
 try clear c7b1
 try clear c8
 try clear c8b0
 try clear c8b1
 try clear c10
 try clear c11
 obtain ⟨x47_1, rfl, HA, HK1, O0, HB⟩ := hrel
 cases gk with
 | zero => exact absurd HA.out (by simp [newswirelaw11_WordMatchesReference.l0])
 | succ k1 =>
  have H := HA.out; clear HA; simp only [newswirelaw11_WordMatchesReference.l0] at H
  by_cases c14 : x47_1 < (y295.length : Int); rotate_left
  ·rw [if_neg c14] at H
   have c14b0 := dF c14; clear c14; obtain rfl := Option.some.inj H
   go_wp2
   go_ret
   exact ⟨by first | rfl | (simp [errW_none, errW_some] <;> rfl) | (simp only [← hji6]; first | rfl | (simp [errW_none, errW_some] <;> rfl)) | (simp [*, errW_none, errW_some] <;> rfl), by exact bes HB.out⟩
  rw [if_pos c14] at H
  have c14b0 := dT c14; clear c14
  by_cases c15 : 0 ≤ x47_1; rotate_left
  ·rw [if_neg c15] at H
   exact absurd H (by simp)
  rw [if_pos c15] at H
  have c15b0 := dT c15; clear c15
  by_cases c16 : x47_1 < (y295.length : Int); rotate_left
  ·rw [if_neg c16] at H
   exact absurd H (by simp)
  rw [if_pos c16] at H
  have c16b0 := dT c16; clear c16; replace H := bm H; obtain ⟨t299, A17, H⟩ := H; replace A17 := am A17; replace H := bm H; obtain ⟨t300, A18, H⟩ := H; replace A18 := am A18; obtain ⟨y301, hy301⟩ : ∃ y_ : List Int, y_ = (([a1, t299, t300] : List Int)) := ⟨_, rfl⟩; replace H : (newswirelaw11_WordMatchesReference.l1 k1 a1 true (a2.extract 0 ((ji6) : Int).toNat) (rd y295 x47_1) y295 (y295.length : Int) x47_1 y301 (y301.length : Int) 0) = some r := by first | (rw [hy301]; with_reducible exact H) | (have H2_ := (Option.bind_some _ _).symm.trans H; rw [hy301]; with_reducible exact H2_) | (have H2_ := (Option.bind_some _ _).symm.trans H; with_reducible exact H2_) | with_reducible exact H | (rw [hy301]; exact H) | exact H
  have Ny301 := am hy301; clear hy301
  have H' := am H; clear H
  have p298 : 0 ≤ (x47_1 : Int) := of_decide_eq_true (by assumption)
  have q298 : x47_1 < (y295.length : Int) := of_decide_eq_true (by assumption); obtain ⟨ad298, e298, hx298_0⟩ := Kd.at_int (Kd.R_reads' O0.out).2.2 x47_1 p298 q298
  cases e298
  replace p298 := eq_true p298; replace q298 := eq_true q298
  go_wp2_with (first | ((with_reducible refine gate_callee (f := 11) rfl ?_); refine gL (some 53) rfl rfl Tryd.func11 #[.int .i64 a1, .int .i64 1000000] ?_; (with_reducible refine (XS.newswirelaw11_pick.calls a1 1000000 t299 _ A17.out).mono ?_); rintro e w' ⟨rfl, ⟨nd, rfl⟩⟩; refine ⟨_, rfl, ?_⟩) | ((with_reducible refine gate_callee (f := 11) rfl ?_); refine gL (some 55) rfl rfl Tryd.func11 #[.int .i64 a1, .int .i64 13] ?_; (with_reducible refine (XS.newswirelaw11_pick.calls a1 13 t300 _ A18.out).mono ?_); rintro e w' ⟨rfl, ⟨nd, rfl⟩⟩; refine ⟨_, rfl, ?_⟩) | ((with_reducible refine gate_dst (N := 56) rfl ?_); refine Kd.R_lit (Kd.int .i64) _ 3 ?hg (N := 56) ?hd (xs := ([a1, t299, t300] : List Int)) (inner := [.int .i64 a1, .int .i64 t299, .int .i64 t300]) (ok := fun _ => True) (okp := fun _ => True) ?hr ?hp (fun _ hk => hk) trivial (Below.refl _ _) (Nat.le_refl _) (by simp) ?_; (case hd => rfl); (case hg => rfl); (case hr => first | (go_simp; done) | (go_simp; rfl)); (case hp => exact (Reps.one (show Kd.M (Kd.int .i64) _ _ _ a1 [.int .i64 a1] from rfl) (Reps.one (show Kd.M (Kd.int .i64) _ _ _ t299 [.int .i64 t299] from rfl) (Reps.one (show Kd.M (Kd.int .i64) _ _ _ t300 [.int .i64 t300] from rfl) (Reps.none _ _))))); intro v302 w19 ho20 hb hg_ hnew_; clear hg_ hnew_; (first | rw [← Ny301.out] at ho20 | (simp only [Int.reduceToNat] at ho20; rw [← Ny301.out] at ho20)); have HO303 := am (Kd.R_lower (Kd.R_new' ho20 (Kd.R_lt (R_st O0.out))) (below_size (bes HB.out))); replace O0 := am (Kd.R_elder' (R_st O0.out) (Kd.R_base ho20) hb); replace HB := bsp HB hb; clear hb ho20; obtain ⟨Ao21, co21, eo21⟩ := Kd.R_slice HO303.out; subst eo21))
  go_loopg [58] k1 (fun kq v58 w' => ∃ (x58_2 : Int), v58 = .int .i64 x58_2 ∧ Aside0 (newswirelaw11_WordMatchesReference.l1 kq a1 true (a2.extract 0 ((ji6) : Int).toNat) (rd y295 x47_1) y295 (y295.length : Int) x47_1 y301 (y301.length : Int) x58_2 = some r) ∧ Aside0 (kq ≤ k1) ∧ Aside0 (Kd.R (Kd.int .i64) 3 w' w.heap.size (fun k_ => some k_ ≠ ((.slice Ao21 y301.length co21) : Value).ownBlock) (.slice (some ad298) y295.length co13) y295) ∧ Aside0 (Kd.R (Kd.int .i64) 3 w' w.heap.size (fun k_ => some k_ ≠ ((.slice (some ad298) y295.length co13) : Value).ownBlock) (.slice Ao21 y301.length co21) y301) ∧ Aside0 (Below w.heap.size w w'))
  case atStart => exact ⟨(0), cd, H', ⟨Nat.le_refl _⟩, ⟨by exact R_st (Kd.R_mono O0.out (fun _ hk => hk.2))⟩, ⟨by exact R_st (Kd.R_mono HO303.out (fun _ hk => hk.2))⟩, ⟨by exact bes HB.out⟩⟩
  clear H'
  try clear c1
  try clear p2
  try clear q2
  try clear hx2
  try clear c5
  try clear p6
  try clear c7
  try clear c7b0
  try clear c7b1
  try clear c8
  try clear c8b0
  try clear c8b1
  try clear c10
  try clear c11
  try clear c14
  try clear c14b0
  try clear c15
  try clear c15b0
  try clear c16
  try clear c16b0
  try clear hx298_0
  try clear p2
  try clear p298
  try clear p6
  try clear q298
  obtain ⟨x58_2, rfl, HA, HK2, O0, O1, HB⟩ := hrel
  cases gk with
  | zero => exact absurd HA.out (by simp [newswirelaw11_WordMatchesReference.l1])
  | succ k2 =>
   have H := HA.out; clear HA; simp only [newswirelaw11_WordMatchesReference.l1] at H
   by_cases c22 : x58_2 < (y301.length : Int); rotate_left
   ·rw [if_neg c22] at H
    have c22b0 := dF c22; clear c22; replace H := bm H; obtain ⟨⟨t322, t323⟩, A550, H⟩ := H; replace H : ((newswireref11_MonthOf.f k2 (rd y295 x47_1) (a2.extract 0 ((ji6) : Int).toNat)).bind fun bt324 => ((XA.word_WeekdayOf.f k2 (rd y295 x47_1) (a2.extract 0 ((ji6) : Int).toNat)).bind fun bt326 => ((newswireref11_WeekdayOf.f k2 (rd y295 x47_1) (a2.extract 0 ((ji6) : Int).toNat)).bind fun bt328 => (if t322 = bt324.1 then (if t323 = bt324.2 then (if bt326.1 = bt328.1 then (if bt326.2 = bt328.2 then ((XI.word_Is.f k2 (rd y295 x47_1) (a2.extract 0 ((ji6) : Int).toNat)).bind fun t330 => ((newswireref11_Is.f k2 (rd y295 x47_1) (a2.extract 0 ((ji6) : Int).toNat)).bind fun t331 => (newswirelaw11_WordMatchesReference.j3 k2 a1 true (a2.extract 0 ((ji6) : Int).toNat) y295 (y295.length : Int) x47_1 (t330 != t331)))) else (newswirelaw11_WordMatchesReference.j3 k2 a1 true (a2.extract 0 ((ji6) : Int).toNat) y295 (y295.length : Int) x47_1 true)) else (newswirelaw11_WordMatchesReference.j3 k2 a1 true (a2.extract 0 ((ji6) : Int).toNat) y295 (y295.length : Int) x47_1 true)) else (newswirelaw11_WordMatchesReference.j3 k2 a1 true (a2.extract 0 ((ji6) : Int).toNat) y295 (y295.length : Int) x47_1 true)) else (newswirelaw11_WordMatchesReference.j3 k2 a1 true (a2.extract 0 ((ji6) : Int).toNat) y295 (y295.length : Int) x47_1 true))))) = some r := H; have A55 := am A550; clear A550; replace H := bm H; obtain ⟨⟨t324, t325⟩, A560, H⟩ := H; replace H : ((XA.word_WeekdayOf.f k2 (rd y295 x47_1) (a2.extract 0 ((ji6) : Int).toNat)).bind fun bt326 => ((newswireref11_WeekdayOf.f k2 (rd y295 x47_1) (a2.extract 0 ((ji6) : Int).toNat)).bind fun bt328 => (if t322 = t324 then (if t323 = t325 then (if bt326.1 = bt328.1 then (if bt326.2 = bt328.2 then ((XI.word_Is.f k2 (rd y295 x47_1) (a2.extract 0 ((ji6) : Int).toNat)).bind fun t330 => ((newswireref11_Is.f k2 (rd y295 x47_1) (a2.extract 0 ((ji6) : Int).toNat)).bind fun t331 => (newswirelaw11_WordMatchesReference.j3 k2 a1 true (a2.extract 0 ((ji6) : Int).toNat) y295 (y295.length : Int) x47_1 (t330 != t331)))) else (newswirelaw11_WordMatchesReference.j3 k2 a1 true (a2.extract 0 ((ji6) : Int).toNat) y295 (y295.length : Int) x47_1 true)) else (newswirelaw11_WordMatchesReference.j3 k2 a1 true (a2.extract 0 ((ji6) : Int).toNat) y295 (y295.length : Int) x47_1 true)) else (newswirelaw11_WordMatchesReference.j3 k2 a1 true (a2.extract 0 ((ji6) : Int).toNat) y295 (y295.length : Int) x47_1 true)) else (newswirelaw11_WordMatchesReference.j3 k2 a1 true (a2.extract 0 ((ji6) : Int).toNat) y295 (y295.length : Int) x47_1 true)))) = some r := H; have A56 := am A560; clear A560; replace H := bm H; obtain ⟨⟨t326, t327⟩, A570, H⟩ := H; replace H : ((newswireref11_WeekdayOf.f k2 (rd y295 x47_1) (a2.extract 0 ((ji6) : Int).toNat)).bind fun bt328 => (if t322 = t324 then (if t323 = t325 then (if t326 = bt328.1 then (if t327 = bt328.2 then ((XI.word_Is.f k2 (rd y295 x47_1) (a2.extract 0 ((ji6) : Int).toNat)).bind fun t330 => ((newswireref11_Is.f k2 (rd y295 x47_1) (a2.extract 0 ((ji6) : Int).toNat)).bind fun t331 => (newswirelaw11_WordMatchesReference.j3 k2 a1 true (a2.extract 0 ((ji6) : Int).toNat) y295 (y295.length : Int) x47_1 (t330 != t331)))) else (newswirelaw11_WordMatchesReference.j3 k2 a1 true (a2.extract 0 ((ji6) : Int).toNat) y295 (y295.length : Int) x47_1 true)) else (newswirelaw11_WordMatchesReference.j3 k2 a1 true (a2.extract 0 ((ji6) : Int).toNat) y295 (y295.length : Int) x47_1 true)) else (newswirelaw11_WordMatchesReference.j3 k2 a1 true (a2.extract 0 ((ji6) : Int).toNat) y295 (y295.length : Int) x47_1 true)) else (newswirelaw11_WordMatchesReference.j3 k2 a1 true (a2.extract 0 ((ji6) : Int).toNat) y295 (y295.length : Int) x47_1 true))) = some r := H; have A57 := am A570; clear A570; replace H := bm H; obtain ⟨⟨t328, t329⟩, A580, H⟩ := H; replace H : (if t322 = t324 then (if t323 = t325 then (if t326 = t328 then (if t327 = t329 then ((XI.word_Is.f k2 (rd y295 x47_1) (a2.extract 0 ((ji6) : Int).toNat)).bind fun t330 => ((newswireref11_Is.f k2 (rd y295 x47_1) (a2.extract 0 ((ji6) : Int).toNat)).bind fun t331 => (newswirelaw11_WordMatchesReference.j3 k2 a1 true (a2.extract 0 ((ji6) : Int).toNat) y295 (y295.length : Int) x47_1 (t330 != t331)))) else (newswirelaw11_WordMatchesReference.j3 k2 a1 true (a2.extract 0 ((ji6) : Int).toNat) y295 (y295.length : Int) x47_1 true)) else (newswirelaw11_WordMatchesReference.j3 k2 a1 true (a2.extract 0 ((ji6) : Int).toNat) y295 (y295.length : Int) x47_1 true)) else (newswirelaw11_WordMatchesReference.j3 k2 a1 true (a2.extract 0 ((ji6) : Int).toNat) y295 (y295.length : Int) x47_1 true)) else (newswirelaw11_WordMatchesReference.j3 k2 a1 true (a2.extract 0 ((ji6) : Int).toNat) y295 (y295.length : Int) x47_1 true)) = some r := H; have A58 := am A580; clear A580; have HC59 := am H; clear H
    go_upto_region 24 with (first | ((with_reducible refine gate_callee (f := 26) rfl ?_); refine goesL_ (some 131) rfl rfl Tryd.func26 (by kernel_rfl) rfl #[.int .i64 (rd y295 x47_1), .string (a2.extract 0 ((ji6) : Int).toNat)] rfl (by (try simp only [List.map_toArray, List.map_cons, List.map_nil]); first | done | (simp only [hji6]; rfl) | rfl | (simp only [List.length_drop, List.length_take]; rfl)) ?_; (refine (XA.word_MonthOf.calls k2 (rd y295 x47_1) (a2.extract 0 ((ji6) : Int).toNat) t322 t323 _ A55.out).mono ?_); rintro e w60 ⟨rfl, hb⟩; refine ⟨_, rfl, ?_⟩; replace O0 := rb O0 hb; replace O1 := rb O1 hb; replace HB := bsp HB hb; (try clear hb)) | ((with_reducible refine gate_callee (f := 27) rfl ?_); refine goesL_ (some 137) rfl rfl Tryd.func27 (by kernel_rfl) rfl #[.int .i64 (rd y295 x47_1), .string (a2.extract 0 ((ji6) : Int).toNat)] rfl (by (try simp only [List.map_toArray, List.map_cons, List.map_nil]); first | done | (simp only [hji6]; rfl) | rfl | (simp only [List.length_drop, List.length_take]; rfl)) ?_; (refine (newswireref11_MonthOf.calls k2 (rd y295 x47_1) (a2.extract 0 ((ji6) : Int).toNat) t324 t325 _ A56.out).mono ?_); rintro e w61 ⟨rfl, hb⟩; refine ⟨_, rfl, ?_⟩; replace O0 := rb O0 hb; replace O1 := rb O1 hb; replace HB := bsp HB hb; (try clear hb)) | ((with_reducible refine gate_callee (f := 28) rfl ?_); refine goesL_ (some 143) rfl rfl Tryd.func28 (by kernel_rfl) rfl #[.int .i64 (rd y295 x47_1), .string (a2.extract 0 ((ji6) : Int).toNat)] rfl (by (try simp only [List.map_toArray, List.map_cons, List.map_nil]); first | done | (simp only [hji6]; rfl) | rfl | (simp only [List.length_drop, List.length_take]; rfl)) ?_; (refine (XA.word_WeekdayOf.calls k2 (rd y295 x47_1) (a2.extract 0 ((ji6) : Int).toNat) t326 t327 _ A57.out).mono ?_); rintro e w62 ⟨rfl, hb⟩; refine ⟨_, rfl, ?_⟩; replace O0 := rb O0 hb; replace O1 := rb O1 hb; replace HB := bsp HB hb; (try clear hb)) | ((with_reducible refine gate_callee (f := 29) rfl ?_); refine goesL_ (some 149) rfl rfl Tryd.func29 (by kernel_rfl) rfl #[.int .i64 (rd y295 x47_1), .string (a2.extract 0 ((ji6) : Int).toNat)] rfl (by (try simp only [List.map_toArray, List.map_cons, List.map_nil]); first | done | (simp only [hji6]; rfl) | rfl | (simp only [List.length_drop, List.length_take]; rfl)) ?_; (refine (newswireref11_WeekdayOf.calls k2 (rd y295 x47_1) (a2.extract 0 ((ji6) : Int).toNat) t328 t329 _ A58.out).mono ?_); rintro e w63 ⟨rfl, hb⟩; refine ⟨_, rfl, ?_⟩; replace O0 := rb O0 hb; replace O1 := rb O1 hb; replace HB := bsp HB hb; (try clear hb)))
    (try simp only [Act.put, sa_, s0_, s1_])
    go_cut [178] (fun v178 wc => ∃ (kq : Nat) (x178_58 : Bool), v178 = .bool x178_58 ∧ Aside0 (newswirelaw11_WordMatchesReference.j3 kq a1 true (a2.extract 0 ((ji6) : Int).toNat) y295 (y295.length : Int) x47_1 x178_58 = some r) ∧ Aside0 (kq ≤ k2) ∧ Aside0 (Kd.R (Kd.int .i64) 3 wc w.heap.size (fun _ => True) (.slice (some ad298) y295.length co13) y295) ∧ Aside0 (Below w.heap.size w wc))
    case first =>
     have H := HC59.out; clear HC59
     by_cases c64 : t322 = t324; rotate_left
     ·rw [if_neg c64] at H
      have c64b0 := bF c64
      have c64b1 := nT c64
      (first | rw [c64b0] | (simp only [i64_w, i32_w]; rw [c64b0]) | skip)
      have H' := am H; clear H
      go_wp2
      go_meet
      case rel => exact ⟨_, (true), cd, H', ⟨by have := HK1.out; have := HK2.out; first | omega | exact Nat.le_refl _⟩, ⟨by exact R_st (Kd.R_mono O0.out (fun _ hk => trivial))⟩, ⟨by exact bes HB.out⟩⟩
     rw [if_pos c64] at H
     have c64b0 := bT c64
     have c64b1 := nF c64; clear c64
     (first | rw [c64b0] | (simp only [i64_w, i32_w]; rw [c64b0]) | skip)
     by_cases c65 : t323 = t325; rotate_left
     ·rw [if_neg c65] at H
      have c65b0 := bF c65
      have c65b1 := nT c65
      have H' := am H; clear H
      go_wp2
      go_meet
      case rel => exact ⟨_, (true), cd, H', ⟨by have := HK1.out; have := HK2.out; first | omega | exact Nat.le_refl _⟩, ⟨by exact R_st (Kd.R_mono O0.out (fun _ hk => trivial))⟩, ⟨by exact bes HB.out⟩⟩
     rw [if_pos c65] at H
     have c65b0 := bT c65
     have c65b1 := nF c65; clear c65
     by_cases c66 : t326 = t328; rotate_left
     ·rw [if_neg c66] at H
      have c66b0 := bF c66
      have c66b1 := nT c66
      have H' := am H; clear H
      go_wp2
      go_meet
      case rel => exact ⟨_, (true), cd, H', ⟨by have := HK1.out; have := HK2.out; first | omega | exact Nat.le_refl _⟩, ⟨by exact R_st (Kd.R_mono O0.out (fun _ hk => trivial))⟩, ⟨by exact bes HB.out⟩⟩
     rw [if_pos c66] at H
     have c66b0 := bT c66
     have c66b1 := nF c66; clear c66
     by_cases c67 : t327 = t329
     ·rw [if_pos c67] at H
      have c67b0 := bT c67
      have c67b1 := nF c67; clear c67; replace H := bm H; obtain ⟨t330, A68, H⟩ := H; replace A68 := am A68; replace H := bm H; obtain ⟨t331, A69, H⟩ := H; replace A69 := am A69
      have H' := am H; clear H
      go_wp2_with (first | (go_at_call 20; (refine (XI.word_Is.calls k2 (rd y295 x47_1) (a2.extract 0 ((ji6) : Int).toNat) t330 _ ?_ A68.out).mono ?_); exact LW.below HLW.out (bes HB.out); rintro e w70 ⟨rfl, hb⟩; replace O0 := rb O0 hb; replace O1 := rb O1 hb; replace HB := bsp HB hb; (try clear hb)) | (go_at_call 30; (refine (newswireref11_Is.calls k2 (rd y295 x47_1) (a2.extract 0 ((ji6) : Int).toNat) t331 _ A69.out).mono ?_); rintro e w71 ⟨rfl, hb⟩; replace O0 := rb O0 hb; replace O1 := rb O1 hb; replace HB := bsp HB hb; (try clear hb)))
      go_meet
      case rel => exact ⟨_, ((t330 != t331)), cd, H', ⟨by have := HK1.out; have := HK2.out; first | omega | exact Nat.le_refl _⟩, ⟨by exact R_st (Kd.R_mono O0.out (fun _ hk => trivial))⟩, ⟨by exact bes HB.out⟩⟩
     rw [if_neg c67] at H
     have c67b0 := bF c67
     have c67b1 := nT c67
     have H' := am H; clear H
     go_wp2
     go_meet
     case rel => exact ⟨_, (true), cd, H', ⟨by have := HK1.out; have := HK2.out; first | omega | exact Nat.le_refl _⟩, ⟨by exact R_st (Kd.R_mono O0.out (fun _ hk => trivial))⟩, ⟨by exact bes HB.out⟩⟩
    clear HC59
    try clear c1
    try clear c2
    try clear p2
    try clear q2
    try clear hx2
    try clear c3
    try clear p3
    try clear q3
    try clear hx3
    try clear c4
    try clear c5
    try clear c6
    try clear p6
    try clear c7
    try clear c7b0
    try clear c7b1
    try clear c8
    try clear c8b0
    try clear c8b1
    try clear c10
    try clear c11
    try clear c12
    try clear c14
    try clear c14b0
    try clear c15
    try clear c15b0
    try clear c16
    try clear c16b0
    try clear c18
    try clear c22
    try clear c22b0
    try clear c23
    try clear c23b0
    try clear c24
    try clear c24b0
    try clear c25
    try clear c26
    try clear c27
    try clear c28
    try clear c29
    try clear p29
    try clear q29
    try clear hx29
    try clear p30
    try clear q30
    try clear hx30
    try clear c38
    try clear c38b0
    try clear c38b1
    try clear c40
    try clear c41
    try clear c41b0
    try clear c41b1
    try clear c42
    try clear c42b0
    try clear c42b1
    try clear c43
    try clear c43b0
    try clear c43b1
    try clear c54
    try clear c64
    try clear c64b0
    try clear c64b1
    try clear p64
    try clear c65
    try clear c65b0
    try clear c65b1
    try clear c66
    try clear c66b0
    try clear c66b1
    try clear c67
    try clear c67b0
    try clear c67b1
    try clear hx298_0
    try clear hx304_0
    try clear p2
    try clear p29
    try clear p298
    try clear p3
    try clear p30
    try clear p304
    try clear p6
    try clear q2
    try clear q29
    try clear q298
    try clear q3
    try clear q30
    try clear q304
    obtain ⟨kq, x178_58, rfl, HA, HJ58, O0, HB⟩ := hcut
    cases kq with
    | zero => exact absurd HA.out (by simp [newswirelaw11_WordMatchesReference.j3])
    | succ kj58 =>
     have H := HA.out; clear HA; simp only [newswirelaw11_WordMatchesReference.j3] at H
     by_cases c72 : x178_58 = true
     ·subst c72
      replace H := ip H
      obtain rfl := Option.some.inj H
      go_wp2
      go_ret
      exact ⟨by first | rfl | (simp [errW_none, errW_some] <;> rfl) | (simp only [← hji6]; first | rfl | (simp [errW_none, errW_some] <;> rfl)) | (simp [*, errW_none, errW_some] <;> rfl), by exact bes HB.out⟩
     replace c72 := Bool.eq_false_iff.mpr c72; subst c72; replace H := inn H
     have H' := am H; clear H
     go_wp2
     go_roundg kj58
     case measure => have := HK1.out; have := HK2.out; have := HJ58.out; omega
     case rel => exact ⟨(wrap64 (x47_1 + 1)), cd, H', ⟨by have := HK1.out; have := HK2.out; have := HJ58.out; omega⟩, ⟨by exact R_st O0.out⟩, ⟨by exact bes HB.out⟩⟩
   rw [if_pos c22] at H
   have c22b0 := dT c22; clear c22
   by_cases c23 : 0 ≤ x58_2; rotate_left
   ·rw [if_neg c23] at H
    exact absurd H (by simp)
   rw [if_pos c23] at H
   have c23b0 := dT c23; clear c23
   by_cases c24 : x58_2 < (y301.length : Int); rotate_left
   ·rw [if_neg c24] at H
    exact absurd H (by simp)
   rw [if_pos c24] at H
   have c24b0 := dT c24; clear c24; replace H := bm H; obtain ⟨⟨t305, t306⟩, A250, H⟩ := H; replace H : ((newswireref11_Words.f k2 (rd y295 x47_1) (rd y301 x58_2)).bind fun bt309 => ((XA.word_Month.f k2 (rd y295 x47_1) (rd y301 x58_2)).bind fun bt313 => ((newswireref11_Month.f k2 (rd y295 x47_1) (rd y301 x58_2)).bind fun bt315 => ((XA.word_Weekday.f k2 (rd y295 x47_1) (rd y301 x58_2)).bind fun bt317 => ((newswireref11_Weekday.f k2 (rd y295 x47_1) (rd y301 x58_2)).bind fun bt319 => (if t306 = bt309.2 then ((XS.newswireref11_Same.f k2 t305 bt309.1).bind fun t321 => (if t321 = true then (if bt313.2 = bt315.2 then (if bt313.1.toList = bt315.1.toList then (if bt317.2 = bt319.2 then (newswirelaw11_WordMatchesReference.j2 k2 a1 true (a2.extract 0 ((ji6) : Int).toNat) (rd y295 x47_1) y295 (y295.length : Int) x47_1 y301 (y301.length : Int) x58_2 (bt317.1.toList != bt319.1.toList)) else (newswirelaw11_WordMatchesReference.j2 k2 a1 true (a2.extract 0 ((ji6) : Int).toNat) (rd y295 x47_1) y295 (y295.length : Int) x47_1 y301 (y301.length : Int) x58_2 true)) else (newswirelaw11_WordMatchesReference.j2 k2 a1 true (a2.extract 0 ((ji6) : Int).toNat) (rd y295 x47_1) y295 (y295.length : Int) x47_1 y301 (y301.length : Int) x58_2 true)) else (newswirelaw11_WordMatchesReference.j2 k2 a1 true (a2.extract 0 ((ji6) : Int).toNat) (rd y295 x47_1) y295 (y295.length : Int) x47_1 y301 (y301.length : Int) x58_2 true)) else (newswirelaw11_WordMatchesReference.j2 k2 a1 true (a2.extract 0 ((ji6) : Int).toNat) (rd y295 x47_1) y295 (y295.length : Int) x47_1 y301 (y301.length : Int) x58_2 true))) else (newswirelaw11_WordMatchesReference.j2 k2 a1 true (a2.extract 0 ((ji6) : Int).toNat) (rd y295 x47_1) y295 (y295.length : Int) x47_1 y301 (y301.length : Int) x58_2 true))))))) = some r := H; have A25 := am A250; clear A250; replace H := bm H; obtain ⟨⟨t309, t310⟩, A260, H⟩ := H; replace H : ((XA.word_Month.f k2 (rd y295 x47_1) (rd y301 x58_2)).bind fun bt313 => ((newswireref11_Month.f k2 (rd y295 x47_1) (rd y301 x58_2)).bind fun bt315 => ((XA.word_Weekday.f k2 (rd y295 x47_1) (rd y301 x58_2)).bind fun bt317 => ((newswireref11_Weekday.f k2 (rd y295 x47_1) (rd y301 x58_2)).bind fun bt319 => (if t306 = t310 then ((XS.newswireref11_Same.f k2 t305 t309).bind fun t321 => (if t321 = true then (if bt313.2 = bt315.2 then (if bt313.1.toList = bt315.1.toList then (if bt317.2 = bt319.2 then (newswirelaw11_WordMatchesReference.j2 k2 a1 true (a2.extract 0 ((ji6) : Int).toNat) (rd y295 x47_1) y295 (y295.length : Int) x47_1 y301 (y301.length : Int) x58_2 (bt317.1.toList != bt319.1.toList)) else (newswirelaw11_WordMatchesReference.j2 k2 a1 true (a2.extract 0 ((ji6) : Int).toNat) (rd y295 x47_1) y295 (y295.length : Int) x47_1 y301 (y301.length : Int) x58_2 true)) else (newswirelaw11_WordMatchesReference.j2 k2 a1 true (a2.extract 0 ((ji6) : Int).toNat) (rd y295 x47_1) y295 (y295.length : Int) x47_1 y301 (y301.length : Int) x58_2 true)) else (newswirelaw11_WordMatchesReference.j2 k2 a1 true (a2.extract 0 ((ji6) : Int).toNat) (rd y295 x47_1) y295 (y295.length : Int) x47_1 y301 (y301.length : Int) x58_2 true)) else (newswirelaw11_WordMatchesReference.j2 k2 a1 true (a2.extract 0 ((ji6) : Int).toNat) (rd y295 x47_1) y295 (y295.length : Int) x47_1 y301 (y301.length : Int) x58_2 true))) else (newswirelaw11_WordMatchesReference.j2 k2 a1 true (a2.extract 0 ((ji6) : Int).toNat) (rd y295 x47_1) y295 (y295.length : Int) x47_1 y301 (y301.length : Int) x58_2 true)))))) = some r := H; have A26 := am A260; clear A260; replace H := bm H; obtain ⟨⟨t313, t314⟩, A270, H⟩ := H; replace H : ((newswireref11_Month.f k2 (rd y295 x47_1) (rd y301 x58_2)).bind fun bt315 => ((XA.word_Weekday.f k2 (rd y295 x47_1) (rd y301 x58_2)).bind fun bt317 => ((newswireref11_Weekday.f k2 (rd y295 x47_1) (rd y301 x58_2)).bind fun bt319 => (if t306 = t310 then ((XS.newswireref11_Same.f k2 t305 t309).bind fun t321 => (if t321 = true then (if t314 = bt315.2 then (if t313.toList = bt315.1.toList then (if bt317.2 = bt319.2 then (newswirelaw11_WordMatchesReference.j2 k2 a1 true (a2.extract 0 ((ji6) : Int).toNat) (rd y295 x47_1) y295 (y295.length : Int) x47_1 y301 (y301.length : Int) x58_2 (bt317.1.toList != bt319.1.toList)) else (newswirelaw11_WordMatchesReference.j2 k2 a1 true (a2.extract 0 ((ji6) : Int).toNat) (rd y295 x47_1) y295 (y295.length : Int) x47_1 y301 (y301.length : Int) x58_2 true)) else (newswirelaw11_WordMatchesReference.j2 k2 a1 true (a2.extract 0 ((ji6) : Int).toNat) (rd y295 x47_1) y295 (y295.length : Int) x47_1 y301 (y301.length : Int) x58_2 true)) else (newswirelaw11_WordMatchesReference.j2 k2 a1 true (a2.extract 0 ((ji6) : Int).toNat) (rd y295 x47_1) y295 (y295.length : Int) x47_1 y301 (y301.length : Int) x58_2 true)) else (newswirelaw11_WordMatchesReference.j2 k2 a1 true (a2.extract 0 ((ji6) : Int).toNat) (rd y295 x47_1) y295 (y295.length : Int) x47_1 y301 (y301.length : Int) x58_2 true))) else (newswirelaw11_WordMatchesReference.j2 k2 a1 true (a2.extract 0 ((ji6) : Int).toNat) (rd y295 x47_1) y295 (y295.length : Int) x47_1 y301 (y301.length : Int) x58_2 true))))) = some r := H; have A27 := am A270; clear A270; replace H := bm H; obtain ⟨⟨t315, t316⟩, A280, H⟩ := H; replace H : ((XA.word_Weekday.f k2 (rd y295 x47_1) (rd y301 x58_2)).bind fun bt317 => ((newswireref11_Weekday.f k2 (rd y295 x47_1) (rd y301 x58_2)).bind fun bt319 => (if t306 = t310 then ((XS.newswireref11_Same.f k2 t305 t309).bind fun t321 => (if t321 = true then (if t314 = t316 then (if t313.toList = t315.toList then (if bt317.2 = bt319.2 then (newswirelaw11_WordMatchesReference.j2 k2 a1 true (a2.extract 0 ((ji6) : Int).toNat) (rd y295 x47_1) y295 (y295.length : Int) x47_1 y301 (y301.length : Int) x58_2 (bt317.1.toList != bt319.1.toList)) else (newswirelaw11_WordMatchesReference.j2 k2 a1 true (a2.extract 0 ((ji6) : Int).toNat) (rd y295 x47_1) y295 (y295.length : Int) x47_1 y301 (y301.length : Int) x58_2 true)) else (newswirelaw11_WordMatchesReference.j2 k2 a1 true (a2.extract 0 ((ji6) : Int).toNat) (rd y295 x47_1) y295 (y295.length : Int) x47_1 y301 (y301.length : Int) x58_2 true)) else (newswirelaw11_WordMatchesReference.j2 k2 a1 true (a2.extract 0 ((ji6) : Int).toNat) (rd y295 x47_1) y295 (y295.length : Int) x47_1 y301 (y301.length : Int) x58_2 true)) else (newswirelaw11_WordMatchesReference.j2 k2 a1 true (a2.extract 0 ((ji6) : Int).toNat) (rd y295 x47_1) y295 (y295.length : Int) x47_1 y301 (y301.length : Int) x58_2 true))) else (newswirelaw11_WordMatchesReference.j2 k2 a1 true (a2.extract 0 ((ji6) : Int).toNat) (rd y295 x47_1) y295 (y295.length : Int) x47_1 y301 (y301.length : Int) x58_2 true)))) = some r := H; have A28 := am A280; clear A280; replace H := bm H; obtain ⟨⟨t317, t318⟩, A290, H⟩ := H; replace H : ((newswireref11_Weekday.f k2 (rd y295 x47_1) (rd y301 x58_2)).bind fun bt319 => (if t306 = t310 then ((XS.newswireref11_Same.f k2 t305 t309).bind fun t321 => (if t321 = true then (if t314 = t316 then (if t313.toList = t315.toList then (if t318 = bt319.2 then (newswirelaw11_WordMatchesReference.j2 k2 a1 true (a2.extract 0 ((ji6) : Int).toNat) (rd y295 x47_1) y295 (y295.length : Int) x47_1 y301 (y301.length : Int) x58_2 (t317.toList != bt319.1.toList)) else (newswirelaw11_WordMatchesReference.j2 k2 a1 true (a2.extract 0 ((ji6) : Int).toNat) (rd y295 x47_1) y295 (y295.length : Int) x47_1 y301 (y301.length : Int) x58_2 true)) else (newswirelaw11_WordMatchesReference.j2 k2 a1 true (a2.extract 0 ((ji6) : Int).toNat) (rd y295 x47_1) y295 (y295.length : Int) x47_1 y301 (y301.length : Int) x58_2 true)) else (newswirelaw11_WordMatchesReference.j2 k2 a1 true (a2.extract 0 ((ji6) : Int).toNat) (rd y295 x47_1) y295 (y295.length : Int) x47_1 y301 (y301.length : Int) x58_2 true)) else (newswirelaw11_WordMatchesReference.j2 k2 a1 true (a2.extract 0 ((ji6) : Int).toNat) (rd y295 x47_1) y295 (y295.length : Int) x47_1 y301 (y301.length : Int) x58_2 true))) else (newswirelaw11_WordMatchesReference.j2 k2 a1 true (a2.extract 0 ((ji6) : Int).toNat) (rd y295 x47_1) y295 (y295.length : Int) x47_1 y301 (y301.length : Int) x58_2 true))) = some r := H; have A29 := am A290; clear A290; replace H := bm H; obtain ⟨⟨t319, t320⟩, A300, H⟩ := H; replace H : (if t306 = t310 then ((XS.newswireref11_Same.f k2 t305 t309).bind fun t321 => (if t321 = true then (if t314 = t316 then (if t313.toList = t315.toList then (if t318 = t320 then (newswirelaw11_WordMatchesReference.j2 k2 a1 true (a2.extract 0 ((ji6) : Int).toNat) (rd y295 x47_1) y295 (y295.length : Int) x47_1 y301 (y301.length : Int) x58_2 (t317.toList != t319.toList)) else (newswirelaw11_WordMatchesReference.j2 k2 a1 true (a2.extract 0 ((ji6) : Int).toNat) (rd y295 x47_1) y295 (y295.length : Int) x47_1 y301 (y301.length : Int) x58_2 true)) else (newswirelaw11_WordMatchesReference.j2 k2 a1 true (a2.extract 0 ((ji6) : Int).toNat) (rd y295 x47_1) y295 (y295.length : Int) x47_1 y301 (y301.length : Int) x58_2 true)) else (newswirelaw11_WordMatchesReference.j2 k2 a1 true (a2.extract 0 ((ji6) : Int).toNat) (rd y295 x47_1) y295 (y295.length : Int) x47_1 y301 (y301.length : Int) x58_2 true)) else (newswirelaw11_WordMatchesReference.j2 k2 a1 true (a2.extract 0 ((ji6) : Int).toNat) (rd y295 x47_1) y295 (y295.length : Int) x47_1 y301 (y301.length : Int) x58_2 true))) else (newswirelaw11_WordMatchesReference.j2 k2 a1 true (a2.extract 0 ((ji6) : Int).toNat) (rd y295 x47_1) y295 (y295.length : Int) x47_1 y301 (y301.length : Int) x58_2 true)) = some r := H; have A30 := am A300; clear A300; have HC31 := am H; clear H
   have p304 : 0 ≤ (x58_2 : Int) := of_decide_eq_true (by assumption)
   have q304 : x58_2 < (y301.length : Int) := of_decide_eq_true (by assumption); obtain ⟨ad304, e304, hx304_0⟩ := Kd.at_int (Kd.R_reads' O1.out).2.2 x58_2 p304 q304
   cases e304
   replace p304 := eq_true p304; replace q304 := eq_true q304
   go_upto_region 17 with (first | ((with_reducible refine gate_callee (f := 18) rfl ?_); refine gL (some 65) rfl rfl Tryd.func18 #[.int .i64 (rd y295 x47_1), .int .i64 (rd y301 x58_2)] ?_; (refine (XA.word_Words.calls k2 (rd y295 x47_1) (rd y301 x58_2) t305 t306 _ ?_ A25.out).mono ?_); exact LW.below HLW.out (bes HB.out); rintro e w32 ⟨v307, rfl, ho0, hb⟩; refine ⟨_, rfl, ?_⟩; replace O0 := rb O0 hb; replace O1 := rb O1 hb; have HO308 := am (Kd.R_lower ho0 (below_size (bes HB.out))); replace HB := bsp HB hb; (try clear hb); (try clear ho0)) | ((with_reducible refine gate_callee (f := 12) rfl ?_); refine gL (some 71) rfl rfl Tryd.func12 #[.int .i64 (rd y295 x47_1), .int .i64 (rd y301 x58_2)] ?_; (refine (newswireref11_Words.calls k2 (rd y295 x47_1) (rd y301 x58_2) t309 t310 _ A26.out).mono ?_); rintro e w33 ⟨v311, rfl, ho0, hb⟩; refine ⟨_, rfl, ?_⟩; replace O0 := rb O0 hb; replace O1 := rb O1 hb; have HO312 := am (Kd.R_lower (Kd.R_new' ho0 (Kd.R_lt (R_st HO308.out))) (below_size (bes HB.out))); replace HO308 := am (Kd.R_elder' (R_st HO308.out) (Kd.R_base ho0) hb); replace HB := bsp HB hb; (try clear hb); (try clear ho0)) | ((with_reducible refine gate_callee (f := 22) rfl ?_); refine gL (some 77) rfl rfl Tryd.func22 #[.int .i64 (rd y295 x47_1), .int .i64 (rd y301 x58_2)] ?_; (refine (XA.word_Month.calls k2 (rd y295 x47_1) (rd y301 x58_2) t313 t314 _ A27.out).mono ?_); rintro e w34 ⟨rfl, hb⟩; refine ⟨_, rfl, ?_⟩; replace O0 := rb O0 hb; replace O1 := rb O1 hb; replace HO308 := rb HO308 hb; replace HO312 := rb HO312 hb; replace HB := bsp HB hb; (try clear hb)) | ((with_reducible refine gate_callee (f := 23) rfl ?_); refine gL (some 83) rfl rfl Tryd.func23 #[.int .i64 (rd y295 x47_1), .int .i64 (rd y301 x58_2)] ?_; (refine (newswireref11_Month.calls k2 (rd y295 x47_1) (rd y301 x58_2) t315 t316 _ A28.out).mono ?_); rintro e w35 ⟨rfl, hb⟩; refine ⟨_, rfl, ?_⟩; replace O0 := rb O0 hb; replace O1 := rb O1 hb; replace HO308 := rb HO308 hb; replace HO312 := rb HO312 hb; replace HB := bsp HB hb; (try clear hb)) | ((with_reducible refine gate_callee (f := 24) rfl ?_); refine gL (some 89) rfl rfl Tryd.func24 #[.int .i64 (rd y295 x47_1), .int .i64 (rd y301 x58_2)] ?_; (refine (XA.word_Weekday.calls k2 (rd y295 x47_1) (rd y301 x58_2) t317 t318 _ A29.out).mono ?_); rintro e w36 ⟨rfl, hb⟩; refine ⟨_, rfl, ?_⟩; replace O0 := rb O0 hb; replace O1 := rb O1 hb; replace HO308 := rb HO308 hb; replace HO312 := rb HO312 hb; replace HB := bsp HB hb; (try clear hb)) | ((with_reducible refine gate_callee (f := 25) rfl ?_); refine gL (some 95) rfl rfl Tryd.func25 #[.int .i64 (rd y295 x47_1), .int .i64 (rd y301 x58_2)] ?_; (refine (newswireref11_Weekday.calls k2 (rd y295 x47_1) (rd y301 x58_2) t319 t320 _ A30.out).mono ?_); rintro e w37 ⟨rfl, hb⟩; refine ⟨_, rfl, ?_⟩; replace O0 := rb O0 hb; replace O1 := rb O1 hb; replace HO308 := rb HO308 hb; replace HO312 := rb HO312 hb; replace HB := bsp HB hb; (try clear hb)))
   (try simp only [Act.put, sa_, s0_, s1_])
   go_cut [126] (fun v126 wc => ∃ (kq : Nat) (x126_30 : Bool), v126 = .bool x126_30 ∧ Aside0 (newswirelaw11_WordMatchesReference.j2 kq a1 true (a2.extract 0 ((ji6) : Int).toNat) (rd y295 x47_1) y295 (y295.length : Int) x47_1 y301 (y301.length : Int) x58_2 x126_30 = some r) ∧ Aside0 (kq ≤ k2) ∧ Aside0 (Kd.R (Kd.int .i64) 3 wc w.heap.size (fun k_ => some k_ ≠ ((.slice (some ad304) y301.length co21) : Value).ownBlock) (.slice (some ad298) y295.length co13) y295) ∧ Aside0 (Kd.R (Kd.int .i64) 3 wc w.heap.size (fun k_ => some k_ ≠ ((.slice (some ad298) y295.length co13) : Value).ownBlock) (.slice (some ad304) y301.length co21) y301) ∧ Aside0 (Below w.heap.size w wc))
   case first =>
    have H := HC31.out; clear HC31
    by_cases c38 : t306 = t310; rotate_left
    ·rw [if_neg c38] at H
     have c38b0 := bF c38
     have c38b1 := nT c38
     (first | rw [c38b0] | (simp only [i64_w, i32_w]; rw [c38b0]) | skip)
     have H' := am H; clear H
     go_wp2
     go_meet
     case rel => exact ⟨_, (true), cd, H', ⟨by have := HK1.out; have := HK2.out; first | omega | exact Nat.le_refl _⟩, ⟨by exact R_st O0.out⟩, ⟨by exact R_st O1.out⟩, ⟨by exact bes HB.out⟩⟩
    rw [if_pos c38] at H
    have c38b0 := bT c38
    have c38b1 := nF c38; clear c38
    (first | rw [c38b0] | (simp only [i64_w, i32_w]; rw [c38b0]) | skip); replace H := bm H; obtain ⟨t321, A39, H⟩ := H; replace A39 := am A39
    by_cases c40 : t321 = true; rotate_left
    ·replace c40 := Bool.eq_false_iff.mpr c40
     subst c40; replace H := inn H
     have H' := am H; clear H; obtain ⟨Ao52, co52, eo52⟩ := Kd.R_slice HO308.out; subst eo52; obtain ⟨Ao53, co53, eo53⟩ := Kd.R_slice HO312.out; subst eo53
     go_wp2_with (first | (go_at_call 19; (refine (XS.newswireref11_Same.calls k2 _ _ t305 _ _ t309 false _ ?_ ?_ ?_ ?_ A39.out).mono ?_); exact C_st ((Kd.R_reads' HO308.out).2.2); exact (Kd.R_reads' HO308.out).2.1; exact C_st ((Kd.R_reads' HO312.out).2.2); exact (Kd.R_reads' HO312.out).2.1; rintro e w' ⟨rfl, ⟨nd, rfl⟩⟩))
     go_meet
     case rel => exact ⟨_, (true), cd, H', ⟨by have := HK1.out; have := HK2.out; first | omega | exact Nat.le_refl _⟩, ⟨by exact R_st O0.out⟩, ⟨by exact R_st O1.out⟩, ⟨by exact bes HB.out⟩⟩
    subst c40; replace H := ip H
    by_cases c41 : t314 = t316; rotate_left
    ·rw [if_neg c41] at H
     have c41b0 := bF c41
     have c41b1 := nT c41
     have H' := am H; clear H; obtain ⟨Ao50, co50, eo50⟩ := Kd.R_slice HO308.out; subst eo50; obtain ⟨Ao51, co51, eo51⟩ := Kd.R_slice HO312.out; subst eo51
     go_wp2_with (first | (go_at_call 19; (refine (XS.newswireref11_Same.calls k2 _ _ t305 _ _ t309 true _ ?_ ?_ ?_ ?_ A39.out).mono ?_); exact C_st ((Kd.R_reads' HO308.out).2.2); exact (Kd.R_reads' HO308.out).2.1; exact C_st ((Kd.R_reads' HO312.out).2.2); exact (Kd.R_reads' HO312.out).2.1; rintro e w' ⟨rfl, ⟨nd, rfl⟩⟩))
     go_meet
     case rel => exact ⟨_, (true), cd, H', ⟨by have := HK1.out; have := HK2.out; first | omega | exact Nat.le_refl _⟩, ⟨by exact R_st O0.out⟩, ⟨by exact R_st O1.out⟩, ⟨by exact bes HB.out⟩⟩
    rw [if_pos c41] at H
    have c41b0 := bT c41
    have c41b1 := nF c41; clear c41
    by_cases c42 : t313.toList = t315.toList; rotate_left
    ·rw [if_neg c42] at H
     have c42b0 := bF c42
     have c42b1 := nT c42
     have H' := am H; clear H; obtain ⟨Ao48, co48, eo48⟩ := Kd.R_slice HO308.out; subst eo48; obtain ⟨Ao49, co49, eo49⟩ := Kd.R_slice HO312.out; subst eo49
     go_wp2_with (first | (go_at_call 19; (refine (XS.newswireref11_Same.calls k2 _ _ t305 _ _ t309 true _ ?_ ?_ ?_ ?_ A39.out).mono ?_); exact C_st ((Kd.R_reads' HO308.out).2.2); exact (Kd.R_reads' HO308.out).2.1; exact C_st ((Kd.R_reads' HO312.out).2.2); exact (Kd.R_reads' HO312.out).2.1; rintro e w' ⟨rfl, ⟨nd, rfl⟩⟩))
     go_meet
     case rel => exact ⟨_, (true), cd, H', ⟨by have := HK1.out; have := HK2.out; first | omega | exact Nat.le_refl _⟩, ⟨by exact R_st O0.out⟩, ⟨by exact R_st O1.out⟩, ⟨by exact bes HB.out⟩⟩
    rw [if_pos c42] at H
    have c42b0 := bT c42
    have c42b1 := nF c42; clear c42
    by_cases c43 : t318 = t320
    ·rw [if_pos c43] at H
     have c43b0 := bT c43
     have c43b1 := nF c43; clear c43
     have H' := am H; clear H; obtain ⟨Ao44, co44, eo44⟩ := Kd.R_slice HO308.out; subst eo44; obtain ⟨Ao45, co45, eo45⟩ := Kd.R_slice HO312.out; subst eo45
     go_wp2_with (first | (go_at_call 19; (refine (XS.newswireref11_Same.calls k2 _ _ t305 _ _ t309 true _ ?_ ?_ ?_ ?_ A39.out).mono ?_); exact C_st ((Kd.R_reads' HO308.out).2.2); exact (Kd.R_reads' HO308.out).2.1; exact C_st ((Kd.R_reads' HO312.out).2.2); exact (Kd.R_reads' HO312.out).2.1; rintro e w' ⟨rfl, ⟨nd, rfl⟩⟩))
     go_meet
     case rel => exact ⟨_, ((t317.toList != t319.toList)), cd, H', ⟨by have := HK1.out; have := HK2.out; first | omega | exact Nat.le_refl _⟩, ⟨by exact R_st O0.out⟩, ⟨by exact R_st O1.out⟩, ⟨by exact bes HB.out⟩⟩
    rw [if_neg c43] at H
    have c43b0 := bF c43
    have c43b1 := nT c43
    have H' := am H; clear H; obtain ⟨Ao46, co46, eo46⟩ := Kd.R_slice HO308.out; subst eo46; obtain ⟨Ao47, co47, eo47⟩ := Kd.R_slice HO312.out; subst eo47
    go_wp2_with (first | (go_at_call 19; (refine (XS.newswireref11_Same.calls k2 _ _ t305 _ _ t309 true _ ?_ ?_ ?_ ?_ A39.out).mono ?_); exact C_st ((Kd.R_reads' HO308.out).2.2); exact (Kd.R_reads' HO308.out).2.1; exact C_st ((Kd.R_reads' HO312.out).2.2); exact (Kd.R_reads' HO312.out).2.1; rintro e w' ⟨rfl, ⟨nd, rfl⟩⟩))
    go_meet
    case rel => exact ⟨_, (true), cd, H', ⟨by have := HK1.out; have := HK2.out; first | omega | exact Nat.le_refl _⟩, ⟨by exact R_st O0.out⟩, ⟨by exact R_st O1.out⟩, ⟨by exact bes HB.out⟩⟩
   clear HC31
   try clear c1
   try clear c2
   try clear p2
   try clear q2
   try clear hx2
   try clear c3
   try clear p3
   try clear q3
   try clear hx3
   try clear c4
   try clear c5
   try clear p6
   try clear c7
   try clear c7b0
   try clear c7b1
   try clear c8
   try clear c8b0
   try clear c8b1
   try clear c10
   try clear c11
   try clear c12
   try clear c14
   try clear c14b0
   try clear c15
   try clear c15b0
   try clear c16
   try clear c16b0
   try clear c18
   try clear c22
   try clear c22b0
   try clear c23
   try clear c23b0
   try clear c24
   try clear c24b0
   try clear c25
   try clear p29
   try clear q29
   try clear hx29
   try clear p30
   try clear q30
   try clear hx30
   try clear c38
   try clear c38b0
   try clear c38b1
   try clear c40
   try clear c41
   try clear c41b0
   try clear c41b1
   try clear c42
   try clear c42b0
   try clear c42b1
   try clear c43
   try clear c43b0
   try clear c43b1
   try clear hx298_0
   try clear hx304_0
   try clear p2
   try clear p298
   try clear p304
   try clear p6
   try clear q2
   try clear q298
   try clear q304
   obtain ⟨kq, x126_30, rfl, HA, HJ30, O0, O1, HB⟩ := hcut
   cases kq with
   | zero => exact absurd HA.out (by simp [newswirelaw11_WordMatchesReference.j2])
   | succ kj30 =>
    have H := HA.out; clear HA; simp only [newswirelaw11_WordMatchesReference.j2] at H
    by_cases c54 : x126_30 = true
    ·subst c54
     replace H := ip H
     obtain rfl := Option.some.inj H
     go_wp2
     go_ret
     exact ⟨by first | rfl | (simp [errW_none, errW_some] <;> rfl) | (simp only [← hji6]; first | rfl | (simp [errW_none, errW_some] <;> rfl)) | (simp [*, errW_none, errW_some] <;> rfl), by exact bes HB.out⟩
    replace c54 := Bool.eq_false_iff.mpr c54; subst c54; replace H := inn H
    have H' := am H; clear H
    go_wp2
    go_roundg kj30
    case measure => have := HK1.out; have := HK2.out; have := HJ30.out; omega
    case rel => exact ⟨(wrap64 (x58_2 + 1)), cd, H', ⟨by have := HK1.out; have := HK2.out; have := HJ30.out; omega⟩, ⟨by exact R_st O0.out⟩, ⟨by exact R_st O1.out⟩, ⟨by exact bes HB.out⟩⟩

end Go.Proofs.YtjgobfbjmlacjaaDoor.XM
