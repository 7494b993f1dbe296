-- Written by wip/xprint.py (a driver of mine over the kit's printer) for this claim.
import Derived.Test.YtjgobfbjmlacjaaDoorXM0
import Derived.Test.YtjgobfbjmlacjaaDoorXM1
namespace Go.Proofs.YtjgobfbjmlacjaaDoor.XM
open Go.RowKit Go.Proofs.YtjgobfbjmlacjaaDoorW.PrintWords Go.Proofs.YtjgobfbjmlacjaaDoorW.PrintLast Go.Proofs.YtjgobfbjmlacjaaDoorW.PrintMore
open Bool renaming true → tt, false → ff
open _root_.ByteArray renaming mk → B_
attribute [local go_sem] max2_int min2_int max_two min_two max_three min_three max_four min_four   -- for this text's walks alone
set_option maxHeartbeats 8000000
set_option maxRecDepth 100000
set_option linter.unusedVariables false
set_option linter.unusedSimpArgs false

/-! ### newswireref11_thousand: function 33 -/
def newswireref11_thousand.f (k : Nat) (a0 : Int) (a1 : Int) : Option (List ByteArray) := (newswireref11_small.f k a0 a1 false).bind fun t204 => (if a0 = 2 then (if 0 < (t204.length : Int) then (if (rdOf ByteArray.empty t204 0).size + 7 ≤ 9223372036854775807 then (some (([(rdOf ByteArray.empty t204 0) ++ (B_ #[116,97,117,115,101,110,100])] : List ByteArray))) else (none)) else (none)) else (if a0 = 3 then (if a1 = 1 then (some (([(B_ #[109,105,108])] : List ByteArray))) else (if t204.length < 8796093022208 then (some (t204 ++ [(B_ #[109,105,108])])) else (none))) else (if t204.length < 8796093022208 then (some (t204 ++ [(B_ #[116,104,111,117,115,97,110,100])])) else (none))))
theorem newswireref11_thousand.mono : ∀ a0 a1 k, LeO (newswireref11_thousand.f k a0 a1) (newswireref11_thousand.f (k + 1) a0 a1) := by
 intro a0 a1 k
 unfold newswireref11_thousand.f
 repeat' first
   | (with_reducible exact newswireref11_small.mono _ _ _ _)
   | (with_reducible exact LeO.refl _)
   | (with_reducible exact LeO.none _)
   | (with_reducible refine LeO.ite ?_ ?_)
   | (with_reducible refine LeO.bind ?_ (fun _ => ?_))
theorem newswireref11_thousand.calls (k : Nat) (a0 : Int) (a1 : Int) (r : List ByteArray) (w : World) (h : newswireref11_thousand.f k a0 a1 = some r) :
  Calls Tryd.prog 33 #[.int .i64 a0, .int .i64 a1] w fun e w' => ∃ v0_ : Value, e = .returned (v0_) ∧ Kd.R Kd.string 9 w' w.heap.size (fun _ => True) v0_ r ∧ Below w.heap.size w w' := by
 have HB := am (Below.refl w.heap.size w)
 have H := h; clear h; unfold newswireref11_thousand.f at H; replace H := bm H; obtain ⟨t204, A3, H⟩ := H; replace A3 := am A3
 by_cases c4 : a0 = 2
 ·rw [if_pos c4] at H
  have c4b0 := bT c4
  have c4b1 := nF c4; clear c4
  by_cases c5 : 0 < (t204.length : Int); rotate_left
  ·rw [if_neg c5] at H
   exact absurd H (by simp)
  rw [if_pos c5] at H
  have c5b0 := dT c5
  have c5b1 : decide (0 < t204.length) = true := decide_eq_true (by omega); clear c5
  by_cases c6 : (rdOf ByteArray.empty t204 0).size + 7 ≤ 9223372036854775807
  ·rw [if_pos c6] at H
   have c6b0 := eq_true c6
   have c6b1 := dT c6
   try have c6b2 := eF c6
   obtain ⟨y208, hy208⟩ : ∃ y_ : List ByteArray, y_ = (([(rdOf ByteArray.empty t204 0) ++ (B_ #[116,97,117,115,101,110,100])] : List ByteArray)) := ⟨_, rfl⟩; replace H : (some y208) = some r := by first | (rw [hy208]; with_reducible exact H) | (have H2_ := (Option.bind_some _ _).symm.trans H; rw [hy208]; with_reducible exact H2_) | (have H2_ := (Option.bind_some _ _).symm.trans H; with_reducible exact H2_) | with_reducible exact H | (rw [hy208]; exact H) | exact H
   have Ny208 := am hy208; clear hy208; obtain rfl := Option.some.inj H
   go_enter Tryd.func33, Tryd.ntmps33
   go_wp2_with (first | ((with_reducible refine gate_callee (f := 34) rfl ?_); refine gL (some 8) rfl rfl Tryd.func34 #[.int .i64 a0, .int .i64 a1, .bool false] ?_; (refine (newswireref11_small.calls k a0 a1 false t204 _ A3.out).mono ?_); rintro e w7 ⟨v205, rfl, ho0, hb⟩; refine ⟨_, rfl, ?_⟩; have HO206 := am (Kd.R_lower ho0 (below_size (bes HB.out))); replace HB := bsp HB hb; (try clear hb); (try clear ho0); obtain ⟨Ao8, co8, eo8⟩ := Kd.R_slice HO206.out; subst eo8; have p207 : 0 ≤ (0 : Int) := (by omega); have q207 : 0 < (t204.length : Int) := of_decide_eq_true (by assumption); obtain ⟨ad207, e207, hx207_0⟩ := Kd.at_string (Kd.R_reads' HO206.out).2.2 0 p207 q207; cases e207; have qi207 : (0 < t204.length) = True := eq_true (by omega); (try rw [show ((0 : Int)).toNat = 0 from rfl] at hx207_0); (try rw [Addr.add_zero'] at hx207_0); replace p207 := eq_true p207; replace q207 := eq_true q207) | ((with_reducible refine gate_dst (N := 16) rfl ?_); refine Kd.R_lit Kd.string _ 9 ?hg (N := 16) ?hd (xs := ([(rdOf ByteArray.empty t204 0) ++ (B_ #[116,97,117,115,101,110,100])] : List ByteArray)) (inner := [.string ((rdOf ByteArray.empty t204 0) ++ (B_ #[116,97,117,115,101,110,100]))]) (ok := fun _ => True) (okp := fun _ => True) ?hr ?hp (fun _ hk => hk) trivial (Below.refl _ _) (Nat.le_refl _) (by simp) ?_; (case hd => rfl); (case hg => rfl); (case hr => first | (go_simp; done) | (go_simp; rfl)); (case hp => exact (Reps.one (show Kd.M Kd.string _ _ _ ((rdOf ByteArray.empty t204 0) ++ (B_ #[116,97,117,115,101,110,100])) [.string ((rdOf ByteArray.empty t204 0) ++ (B_ #[116,97,117,115,101,110,100]))] from rfl) (Reps.none _ _))); intro v209 w9 ho10 hb hg_ hnew_; clear hg_ hnew_; (first | rw [← Ny208.out] at ho10 | (simp only [Int.reduceToNat] at ho10; rw [← Ny208.out] at ho10)); have HO210 := am (Kd.R_lower (Kd.R_new' ho10 (Kd.R_lt (R_st HO206.out))) (below_size (bes HB.out))); replace HO206 := am (Kd.R_elder' (R_st HO206.out) (Kd.R_base ho10) hb); replace HB := bsp HB hb; clear hb ho10))
   go_ret
   exact ⟨_, er, by exact R_st (Kd.R_mono HO210.out (fun _ hk => trivial)), by exact bes HB.out⟩
  rw [if_neg c6] at H
  exact absurd H (by simp)
 rw [if_neg c4] at H
 have c4b0 := bF c4
 have c4b1 := nT c4
 by_cases c11 : a0 = 3; rotate_left
 ·rw [if_neg c11] at H
  have c11b0 := bF c11
  have c11b1 := nT c11
  by_cases c19 : t204.length < 8796093022208
  ·rw [if_pos c19] at H
   have LMc19 := am c19; clear c19; obtain ⟨y217, hy217⟩ : ∃ y_ : List ByteArray, y_ = (t204 ++ [(B_ #[116,104,111,117,115,97,110,100])]) := ⟨_, rfl⟩; replace H : (some y217) = some r := by first | (rw [hy217]; with_reducible exact H) | (have H2_ := (Option.bind_some _ _).symm.trans H; rw [hy217]; with_reducible exact H2_) | (have H2_ := (Option.bind_some _ _).symm.trans H; with_reducible exact H2_) | with_reducible exact H | (rw [hy217]; exact H) | exact H
   have Ny217 := am hy217; clear hy217; obtain rfl := Option.some.inj H
   go_enter Tryd.func33, Tryd.ntmps33
   go_wp2_with (first | ((with_reducible refine gate_callee (f := 34) rfl ?_); refine gL (some 8) rfl rfl Tryd.func34 #[.int .i64 a0, .int .i64 a1, .bool false] ?_; (refine (newswireref11_small.calls k a0 a1 false t204 _ A3.out).mono ?_); rintro e w20 ⟨v205, rfl, ho0, hb⟩; refine ⟨_, rfl, ?_⟩; have HO206 := am (Kd.R_lower ho0 (below_size (bes HB.out))); replace HB := bsp HB hb; (try clear hb); (try clear ho0)) | ((with_reducible refine gate_builtin (b := .append) (xs := #[.tmp 25, .tmp 26]) rfl ?_); at_builtin; refine Kd.R_append Kd.string (w0 := w) w.heap.size rfl (.tmp 25) (.tmp 26) 22 9 (.string ⟨#[]⟩) 16 rfl Tryd.underlying22 info9 rfl (by decide) (by omega) v205 t204 (B_ #[116,104,111,117,115,97,110,100]) [.string (B_ #[116,104,111,117,115,97,110,100])] (fun _ => True) (fun _ => False) rfl rfl ?aP (fun _ hk => hk.elim) ?aF ?aO ?aB ?aS ?aL ?_; (case aP => exact rfl); (case aB => exact (bes HB.out)); (case aF => exact (fun _ _ => trivial)); (case aO => exact (R_st HO206.out)); (case aS => exact (below_size (bes HB.out))); (case aL => have := LMc19.out; omega); intro v218 w21 ho hb hg hat; rw [← Ny217.out] at ho; have n0_ := am (hb); have n1_ := am (ho); clear HB; clear HO206; have HB := n0_; have HO219 := n1_; clear n0_ n1_; clear ho hb hg hat))
   go_ret
   exact ⟨_, er, by exact R_st HO219.out, by exact bes HB.out⟩
  rw [if_neg c19] at H
  exact absurd H (by simp)
 rw [if_pos c11] at H
 have c11b0 := bT c11
 have c11b1 := nF c11; clear c11
 by_cases c12 : a1 = 1
 ·rw [if_pos c12] at H
  have c12b0 := bT c12
  have c12b1 := nF c12; clear c12; obtain ⟨y211, hy211⟩ : ∃ y_ : List ByteArray, y_ = (([(B_ #[109,105,108])] : List ByteArray)) := ⟨_, rfl⟩; replace H : (some y211) = some r := by first | (rw [hy211]; with_reducible exact H) | (have H2_ := (Option.bind_some _ _).symm.trans H; rw [hy211]; with_reducible exact H2_) | (have H2_ := (Option.bind_some _ _).symm.trans H; with_reducible exact H2_) | with_reducible exact H | (rw [hy211]; exact H) | exact H
  have Ny211 := am hy211; clear hy211; obtain rfl := Option.some.inj H
  go_enter Tryd.func33, Tryd.ntmps33
  go_wp2_with (first | ((with_reducible refine gate_callee (f := 34) rfl ?_); refine gL (some 8) rfl rfl Tryd.func34 #[.int .i64 a0, .int .i64 a1, .bool false] ?_; (refine (newswireref11_small.calls k a0 a1 false t204 _ A3.out).mono ?_); rintro e w13 ⟨v205, rfl, ho0, hb⟩; refine ⟨_, rfl, ?_⟩; have HO206 := am (Kd.R_lower ho0 (below_size (bes HB.out))); replace HB := bsp HB hb; (try clear hb); (try clear ho0)) | ((with_reducible refine gate_dst (N := 21) rfl ?_); refine Kd.R_lit Kd.string _ 9 ?hg (N := 21) ?hd (xs := ([(B_ #[109,105,108])] : List ByteArray)) (inner := [.string (B_ #[109,105,108])]) (ok := fun _ => True) (okp := fun _ => True) ?hr ?hp (fun _ hk => hk) trivial (Below.refl _ _) (Nat.le_refl _) (by simp) ?_; (case hd => rfl); (case hg => rfl); (case hr => first | (go_simp; done) | (go_simp; rfl)); (case hp => exact (Reps.one (show Kd.M Kd.string _ _ _ (B_ #[109,105,108]) [.string (B_ #[109,105,108])] from rfl) (Reps.none _ _))); intro v212 w14 ho15 hb hg_ hnew_; clear hg_ hnew_; (first | rw [← Ny211.out] at ho15 | (simp only [Int.reduceToNat] at ho15; rw [← Ny211.out] at ho15)); have HO213 := am (Kd.R_lower (Kd.R_new' ho15 (Kd.R_lt (R_st HO206.out))) (below_size (bes HB.out))); replace HO206 := am (Kd.R_elder' (R_st HO206.out) (Kd.R_base ho15) hb); replace HB := bsp HB hb; clear hb ho15))
  go_ret
  exact ⟨_, er, by exact R_st (Kd.R_mono HO213.out (fun _ hk => trivial)), by exact bes HB.out⟩
 rw [if_neg c12] at H
 have c12b0 := bF c12
 have c12b1 := nT c12
 by_cases c16 : t204.length < 8796093022208
 ·rw [if_pos c16] at H
  have LMc16 := am c16; clear c16; obtain ⟨y214, hy214⟩ : ∃ y_ : List ByteArray, y_ = (t204 ++ [(B_ #[109,105,108])]) := ⟨_, rfl⟩; replace H : (some y214) = some r := by first | (rw [hy214]; with_reducible exact H) | (have H2_ := (Option.bind_some _ _).symm.trans H; rw [hy214]; with_reducible exact H2_) | (have H2_ := (Option.bind_some _ _).symm.trans H; with_reducible exact H2_) | with_reducible exact H | (rw [hy214]; exact H) | exact H
  have Ny214 := am hy214; clear hy214; obtain rfl := Option.some.inj H
  go_enter Tryd.func33, Tryd.ntmps33
  go_wp2_with (first | ((with_reducible refine gate_callee (f := 34) rfl ?_); refine gL (some 8) rfl rfl Tryd.func34 #[.int .i64 a0, .int .i64 a1, .bool false] ?_; (refine (newswireref11_small.calls k a0 a1 false t204 _ A3.out).mono ?_); rintro e w17 ⟨v205, rfl, ho0, hb⟩; refine ⟨_, rfl, ?_⟩; have HO206 := am (Kd.R_lower ho0 (below_size (bes HB.out))); replace HB := bsp HB hb; (try clear hb); (try clear ho0)) | ((with_reducible refine gate_builtin (b := .append) (xs := #[.tmp 22, .tmp 23]) rfl ?_); at_builtin; refine Kd.R_append Kd.string (w0 := w) w.heap.size rfl (.tmp 22) (.tmp 23) 22 9 (.string ⟨#[]⟩) 16 rfl Tryd.underlying22 info9 rfl (by decide) (by omega) v205 t204 (B_ #[109,105,108]) [.string (B_ #[109,105,108])] (fun _ => True) (fun _ => False) rfl rfl ?aP (fun _ hk => hk.elim) ?aF ?aO ?aB ?aS ?aL ?_; (case aP => exact rfl); (case aB => exact (bes HB.out)); (case aF => exact (fun _ _ => trivial)); (case aO => exact (R_st HO206.out)); (case aS => exact (below_size (bes HB.out))); (case aL => have := LMc16.out; omega); intro v215 w18 ho hb hg hat; rw [← Ny214.out] at ho; have n0_ := am (hb); have n1_ := am (ho); clear HB; clear HO206; have HB := n0_; have HO216 := n1_; clear n0_ n1_; clear ho hb hg hat))
  go_ret
  exact ⟨_, er, by exact R_st HO216.out, by exact bes HB.out⟩
 rw [if_neg c16] at H
 exact absurd H (by simp)

/-! ### newswireref11_Words: function 12 -/
mutual
def newswireref11_Words.j0 : Nat → Int → Int → Bool → Option (List ByteArray × Int)
 | 0, _, _, _ => none
 | k + 1, x0, x1, x20 => if x20 = true then (some (([] : List ByteArray), 110)) else (if x1 = 0 then ((newswireref11_units.f x0).bind fun t220 => (if 1 ≤ (t220.length : Int) then (some ((t220.take (1 : Int).toNat), 0)) else (none))) else (if x1 ≥ 1000 then ((newswireref11_thousand.f k x0 (wrap64 (Int.tdiv x1 1000))).bind fun t226 => (if ([] : List ByteArray).length + t226.length < 8796093022208 then (newswireref11_Words.j1 k x0 x1 (([] : List ByteArray) ++ t226)) else (none))) else (newswireref11_Words.j1 k x0 x1 ([] : List ByteArray))))
def newswireref11_Words.j1 : Nat → Int → Int → List ByteArray → Option (List ByteArray × Int)
 | 0, _, _, _ => none
 | k + 1, x0, x1, x6 => if (Int.tmod x1 1000) > 0 then ((newswireref11_small.f k x0 (Int.tmod x1 1000) true).bind fun t232 => (if x6.length + t232.length < 8796093022208 then (some ((x6 ++ t232), 0)) else (none))) else (some (x6, 0))
end
def newswireref11_Words.f (k : Nat) (a0 : Int) (a1 : Int) : Option (List ByteArray × Int) := if a0 < 1 then (newswireref11_Words.j0 k a0 a1 true) else (if a0 > 3 then (newswireref11_Words.j0 k a0 a1 true) else (if a1 < 0 then (newswireref11_Words.j0 k a0 a1 true) else (newswireref11_Words.j0 k a0 a1 (decide (a1 > 999999)))))
theorem newswireref11_Words.mono_l : ∀ k, (∀ y0 y1 y2, LeO (newswireref11_Words.j0 k y0 y1 y2) (newswireref11_Words.j0 (k + 1) y0 y1 y2)) ∧ (∀ y0 y1 y2, LeO (newswireref11_Words.j1 k y0 y1 y2) (newswireref11_Words.j1 (k + 1) y0 y1 y2))
 | 0 => ⟨fun _ _ _ r h => by simp [newswireref11_Words.j0] at h, fun _ _ _ r h => by simp [newswireref11_Words.j1] at h⟩
 | k + 1 => by
  obtain ⟨ih0, ih1⟩ := newswireref11_Words.mono_l k
  refine ⟨?_, ?_⟩
  all_goals
   intros; first | unfold newswireref11_Words.j0 | unfold newswireref11_Words.j1
   repeat' first
   | (with_reducible exact ih0 _ _ _)
   | (with_reducible exact ih1 _ _ _)
   | (with_reducible exact newswireref11_small.mono _ _ _ _)
   | (with_reducible exact newswireref11_thousand.mono _ _ _)
   | (with_reducible exact LeO.refl _)
   | (with_reducible exact LeO.none _)
   | (with_reducible refine LeO.ite ?_ ?_)
   | (with_reducible refine LeO.bind ?_ (fun _ => ?_))
theorem newswireref11_Words.mono : ∀ a0 a1 k, LeO (newswireref11_Words.f k a0 a1) (newswireref11_Words.f (k + 1) a0 a1) := by
 intro a0 a1 k; obtain ⟨ih0, ih1⟩ := newswireref11_Words.mono_l k
 unfold newswireref11_Words.f
 repeat' first
   | (with_reducible exact ih0 _ _ _)
   | (with_reducible exact ih1 _ _ _)
   | (with_reducible exact newswireref11_small.mono _ _ _ _)
   | (with_reducible exact newswireref11_thousand.mono _ _ _)
   | (with_reducible exact LeO.refl _)
   | (with_reducible exact LeO.none _)
   | (with_reducible refine LeO.ite ?_ ?_)
   | (with_reducible refine LeO.bind ?_ (fun _ => ?_))
theorem newswireref11_Words.calls (k : Nat) (a0 : Int) (a1 : Int) (r1 : List ByteArray) (r2 : Int) (w : World) (h : newswireref11_Words.f k a0 a1 = some (r1, r2)) :
  Calls Tryd.prog 12 #[.int .i64 a0, .int .i64 a1] w fun e w' => ∃ v0_ : Value, e = .returned (.tuple #[v0_, .int .i64 r2]) ∧ Kd.R Kd.string 9 w' w.heap.size (fun _ => True) v0_ r1 ∧ Below w.heap.size w w' := by
 have HB := am (Below.refl w.heap.size w)
 have H := h; clear h; unfold newswireref11_Words.f at H; have HC3 := am H; clear H
 go_enter Tryd.func12, Tryd.ntmps12
 go_upto_region 1 with (fail)
 go_cut [20] (fun v20 wc => ∃ (kq : Nat) (x20_2 : Bool), v20 = .bool x20_2 ∧ Aside0 (newswireref11_Words.j0 kq a0 a1 x20_2 = some (r1, r2)) ∧ Aside0 (kq ≤ k) ∧ Aside0 (Below w.heap.size w wc))
 case first =>
  have H := HC3.out; clear HC3
  by_cases c4 : a0 < 1
  ·rw [if_pos c4] at H
   have c4b0 := dT c4; clear c4
   (first | rw [c4b0] | (simp only [i64_w, i32_w]; rw [c4b0]) | skip)
   have H' := am H; clear H
   go_wp2
   go_meet
   case rel => exact ⟨_, (true), cd, H', ⟨om⟩, ⟨by exact bes HB.out⟩⟩
  rw [if_neg c4] at H
  have c4b0 := dF c4; clear c4
  (first | rw [c4b0] | (simp only [i64_w, i32_w]; rw [c4b0]) | skip)
  by_cases c5 : a0 > 3
  ·rw [if_pos c5] at H
   have c5b0 := dT c5; clear c5
   have H' := am H; clear H
   go_wp2
   go_meet
   case rel => exact ⟨_, (true), cd, H', ⟨om⟩, ⟨by exact bes HB.out⟩⟩
  rw [if_neg c5] at H
  have c5b0 := dF c5; clear c5
  by_cases c6 : a1 < 0
  ·rw [if_pos c6] at H
   have c6b0 := dT c6; clear c6
   have H' := am H; clear H
   go_wp2
   go_meet
   case rel => exact ⟨_, (true), cd, H', ⟨om⟩, ⟨by exact bes HB.out⟩⟩
  rw [if_neg c6] at H
  have c6b0 := dF c6; clear c6
  have H' := am H; clear H
  go_wp2
  go_meet
  case rel => exact ⟨_, (decide (a1 > 999999)), cd, H', ⟨om⟩, ⟨by exact bes HB.out⟩⟩
 clear HC3
 try clear c1
 try clear p2
 try clear c4
 try clear c4b0
 try clear c5
 try clear c5b0
 try clear c6
 try clear c6b0
 obtain ⟨kq, x20_2, rfl, HA, HJ2, HB⟩ := hcut
 cases kq with
 | zero => exact absurd HA.out (by simp [newswireref11_Words.j0])
 | succ kj2 =>
  have H := HA.out; clear HA; simp only [newswireref11_Words.j0] at H
  by_cases c7 : x20_2 = true
  ·subst c7
   replace H := ip H
   simp only [Option.some.injEq, Prod.mk.injEq] at H; obtain ⟨rfl, rfl⟩ := H
   go_wp2
   go_ret2
   exact ⟨_, er, nil0, by exact bes HB.out⟩
  replace c7 := Bool.eq_false_iff.mpr c7; subst c7; replace H := inn H
  by_cases c8 : a1 = 0
  ·rw [if_pos c8] at H
   have c8b0 := bT c8
   have c8b1 := nF c8; clear c8; replace H := bm H; obtain ⟨t220, A9, H⟩ := H; replace A9 := am A9
   by_cases c10 : 1 ≤ (t220.length : Int)
   ·rw [if_pos c10] at H
    have c10b0 := eq_true c10
    have c10b1 := dT c10; clear c10; obtain ⟨y223, hy223⟩ : ∃ y_ : List ByteArray, y_ = (t220.take (1 : Int).toNat) := ⟨_, rfl⟩; replace H : (some (y223, 0)) = some (r1, r2) := by first | (rw [hy223]; with_reducible exact H) | (have H2_ := (Option.bind_some _ _).symm.trans H; rw [hy223]; with_reducible exact H2_) | (have H2_ := (Option.bind_some _ _).symm.trans H; with_reducible exact H2_) | with_reducible exact H | (rw [hy223]; exact H) | exact H
    have Ny223 := am hy223; clear hy223; simp only [Option.some.injEq, Prod.mk.injEq] at H; obtain ⟨rfl, rfl⟩ := H
    go_wp2_with (first | ((with_reducible refine gate_callee (f := 32) rfl ?_); refine gL (some 24) rfl rfl Tryd.func32 #[.int .i64 a0] ?_; (refine (newswireref11_units.calls a0 t220 _ A9.out).mono ?_); rintro e w11 ⟨v221, rfl, ho0, hb⟩; refine ⟨_, rfl, ?_⟩; have HO222 := am (Kd.R_lower ho0 (below_size (bes HB.out))); replace HB := bsp HB hb; (try clear hb); (try clear ho0); obtain ⟨Ao12, co12, eo12⟩ := Kd.R_slice HO222.out; subst eo12; have q13 : (1 : Int) ≤ ((t220.length : Int) : Int) := of_decide_eq_true (by assumption); obtain ⟨i013, hi013, _, hsz13, _⟩ := info_parts info9; have hcut13 := cut_to (P := Tryd.prog) 22 9 .i64 Tryd.underlying22 hi013 Ao12 t220.length co12 1 (by omega) q13 (Kd.R_reads' HO222.out).2.1; have hr13 := Kd.R_take (m := (1 : Int).toNat) HO222.out (by omega); have hy13 : y223.length = (1 : Int).toNat := (by rw [Ny223.out, List.length_take]; omega); rw [← Ny223.out] at hr13; rw [← hy13] at hr13 hcut13; clear hy13 hi013 hsz13 HO222; have HO225 := am hr13; clear hr13; replace q13 := eq_true q13))
    go_ret2
    exact ⟨_, er, by exact R_st HO225.out, by exact bes HB.out⟩
   rw [if_neg c10] at H
   exact absurd H (by simp)
  rw [if_neg c8] at H
  have c8b0 := bF c8
  have c8b1 := nT c8; have HC14 := am H; clear H
  go_upto_if 27 with (fail)
  go_cut [6] (fun v6 wc => ∃ (kq : Nat) (x6_13 : List ByteArray), Aside0 (newswireref11_Words.j1 kq a0 a1 x6_13 = some (r1, r2)) ∧ Aside0 (kq ≤ kj2) ∧ Aside0 (Kd.R Kd.string 9 wc w.heap.size (fun _ => True) v6 x6_13) ∧ Aside0 (Below w.heap.size w wc))
  case first =>
   have H := HC14.out; clear HC14
   by_cases c15 : a1 ≥ 1000; rotate_left
   ·rw [if_neg c15] at H
    have c15b0 := dF c15; clear c15
    (first | rw [c15b0] | (simp only [i64_w, i32_w]; rw [c15b0]) | skip)
    have H' := am H; clear H
    go_wp2
    go_meet
    case rel => exact ⟨_, (([] : List ByteArray)), H', ⟨by have := HJ2.out; first | omega | exact Nat.le_refl _⟩, ⟨nil0⟩, ⟨by exact bes HB.out⟩⟩
   rw [if_pos c15] at H
   have c15b0 := dT c15; clear c15
   (first | rw [c15b0] | (simp only [i64_w, i32_w]; rw [c15b0]) | skip); replace H := bm H; obtain ⟨t226, A16, H⟩ := H; replace A16 := am A16
   by_cases c17 : ([] : List ByteArray).length + t226.length < 8796093022208
   ·rw [if_pos c17] at H
    have LMc17 := am c17; clear c17; obtain ⟨y229, hy229⟩ : ∃ y_ : List ByteArray, y_ = (([] : List ByteArray) ++ t226) := ⟨_, rfl⟩; replace H : (newswireref11_Words.j1 kj2 a0 a1 y229) = some (r1, r2) := by first | (rw [hy229]; with_reducible exact H) | (have H2_ := (Option.bind_some _ _).symm.trans H; rw [hy229]; with_reducible exact H2_) | (have H2_ := (Option.bind_some _ _).symm.trans H; with_reducible exact H2_) | with_reducible exact H | (rw [hy229]; exact H) | exact H
    have Ny229 := am hy229; clear hy229
    have H' := am H; clear H
    go_wp2_with (first | ((with_reducible refine gate_callee (f := 33) rfl ?_); refine gL (some 32) rfl rfl Tryd.func33 #[.int .i64 a0, .int .i64 (wrap64 (Int.tdiv a1 1000))] ?_; (refine (newswireref11_thousand.calls kj2 a0 (wrap64 (Int.tdiv a1 1000)) t226 _ A16.out).mono ?_); rintro e w18 ⟨v227, rfl, ho0, hb⟩; refine ⟨_, rfl, ?_⟩; have HO228 := am (Kd.R_lower ho0 (below_size (bes HB.out))); replace HB := bsp HB hb; (try clear hb); (try clear ho0); obtain ⟨Ao20, co20, eo20⟩ := Kd.R_slice HO228.out; subst eo20) | ((with_reducible refine gate_builtin (b := .append) (xs := #[.tmp 28, .tmp 32]) rfl ?_); at_builtin; refine Kd.R_append_rows Kd.string (w0 := w) w.heap.size rfl (.tmp 28) (.tmp 32) 22 9 (.string ⟨#[]⟩) 16 rfl Tryd.underlying22 info9 rfl (by decide) (by omega) (.slice none 0 0) ([] : List ByteArray) t226 _ _ _ (fun k_ => some k_ ≠ (.slice Ao20 t226.length co20 : Value).ownBlock) (fun _ => False) rfl rfl ?aO ?aR (fun _ _ h => h) (fun _ h => h.elim) ?aF ?aB ?aS ?aL ?_; (case aR => exact C_st ((Kd.R_reads' HO228.out).2.2)); (case aB => exact (bes HB.out)); (case aF => exact (fun k_ hk => Kd.fresh' (Kd.R_lt (R_st HO228.out)) k_ hk)); (case aO => exact ((Kd.R_nil _ _ _ _ (fun k_ => some k_ ≠ (.slice Ao20 t226.length co20 : Value).ownBlock)))); (case aS => exact (below_size (bes HB.out))); (case aL => have := LMc17.out; omega); intro v230 w19 ho hb hg hat; rw [← Ny229.out] at ho; replace HO228 := am (Kd.R_after (Kd.R_apart_nil (R_st HO228.out)) hg hat); replace HB := am (hb); have HO231 := am (ho); clear ho hb hg hat))
    go_meet
    case rel => exact ⟨_, (y229), H', ⟨by have := HJ2.out; first | omega | exact Nat.le_refl _⟩, ⟨by exact R_st (Kd.R_mono HO231.out (fun _ hk => trivial))⟩, ⟨by exact bes HB.out⟩⟩
   rw [if_neg c17] at H
   exact absurd H (by simp)
  clear HC14
  try clear c1
  try clear q1
  try clear p2
  try clear c3
  try clear c4
  try clear c4b0
  try clear c5
  try clear c5b0
  try clear c6
  try clear c6b0
  try clear p6
  try clear c7
  try clear c8
  try clear c8b0
  try clear c8b1
  try clear c10
  try clear c10b0
  try clear c10b1
  try clear c12
  try clear q13
  try clear c15
  try clear c15b0
  try clear c17
  try clear p2
  try clear q13
  obtain ⟨kq, x6_13, HA, HJ13, O0, HB⟩ := hcut
  cases kq with
  | zero => exact absurd HA.out (by simp [newswireref11_Words.j1])
  | succ kj13 =>
   have H := HA.out; clear HA; simp only [newswireref11_Words.j1] at H
   by_cases c21 : (Int.tmod a1 1000) > 0; rotate_left
   ·rw [if_neg c21] at H
    have c21b0 := dF c21; clear c21; simp only [Option.some.injEq, Prod.mk.injEq] at H; obtain ⟨rfl, rfl⟩ := H
    go_wp2
    go_ret2
    exact ⟨_, er, by exact R_st O0.out, by exact bes HB.out⟩
   rw [if_pos c21] at H
   have c21b0 := dT c21; clear c21; replace H := bm H; obtain ⟨t232, A22, H⟩ := H; replace A22 := am A22
   by_cases c23 : x6_13.length + t232.length < 8796093022208
   ·rw [if_pos c23] at H
    have LMc23 := am c23; clear c23; obtain ⟨y235, hy235⟩ : ∃ y_ : List ByteArray, y_ = (x6_13 ++ t232) := ⟨_, rfl⟩; replace H : (some (y235, 0)) = some (r1, r2) := by first | (rw [hy235]; with_reducible exact H) | (have H2_ := (Option.bind_some _ _).symm.trans H; rw [hy235]; with_reducible exact H2_) | (have H2_ := (Option.bind_some _ _).symm.trans H; with_reducible exact H2_) | with_reducible exact H | (rw [hy235]; exact H) | exact H
    have Ny235 := am hy235; clear hy235; simp only [Option.some.injEq, Prod.mk.injEq] at H; obtain ⟨rfl, rfl⟩ := H
    go_wp2_with (first | ((with_reducible refine gate_callee (f := 34) rfl ?_); refine gL (some 41) rfl rfl Tryd.func34 #[.int .i64 a0, .int .i64 (Int.tmod a1 1000), .bool true] ?_; (refine (newswireref11_small.calls kj13 a0 (Int.tmod a1 1000) true t232 _ A22.out).mono ?_); rintro e w24 ⟨v233, rfl, ho0, hb⟩; refine ⟨_, rfl, ?_⟩; have HO234 := am (Kd.R_lower (Kd.R_new' ho0 (Kd.R_lt (R_st O0.out))) (below_size (bes HB.out))); replace O0 := am (Kd.R_elder' (R_st O0.out) (Kd.R_base ho0) hb); replace HB := bsp HB hb; (try clear hb); (try clear ho0); obtain ⟨Ao26, co26, eo26⟩ := Kd.R_slice HO234.out; subst eo26) | ((with_reducible refine gate_builtin (b := .append) (xs := #[.tmp 37, .tmp 41]) rfl ?_); at_builtin; refine Kd.R_append_rows Kd.string (w0 := w) w.heap.size rfl (.tmp 37) (.tmp 41) 22 9 (.string ⟨#[]⟩) 16 rfl Tryd.underlying22 info9 rfl (by decide) (by omega) u6 x6_13 t232 _ _ _ (fun k_ => some k_ ≠ (.slice Ao26 t232.length co26 : Value).ownBlock) (fun _ => False) rfl rfl ?aO ?aR (fun _ _ h => h) (fun _ h => h.elim) ?aF ?aB ?aS ?aL ?_; (case aR => exact C_st ((Kd.R_reads' HO234.out).2.2)); (case aB => exact (bes HB.out)); (case aF => exact (fun k_ hk => Kd.fresh' (Kd.R_lt (R_st HO234.out)) k_ hk)); (case aO => exact (by exact R_st (Kd.R_mono O0.out (fun _ hk => hk.2)))); (case aS => exact (below_size (bes HB.out))); (case aL => have := LMc23.out; omega); intro v236 w25 ho hb hg hat; rw [← Ny235.out] at ho; have n0_ := am (Kd.R_after (ok := (fun _ => True)) (R_st HO234.out) hg hat); have n1_ := am (hb); have n2_ := am (ho); clear HO234; clear HB; clear O0; have HO234 := n0_; have HB := n1_; have HO237 := n2_; clear n0_ n1_ n2_; clear ho hb hg hat))
    go_ret2
    exact ⟨_, er, by exact R_st (Kd.R_mono HO237.out (fun _ hk => trivial)), by exact bes HB.out⟩
   rw [if_neg c23] at H
   exact absurd H (by simp)

/-! ### newswireref11_names: function 50 -/
def newswireref11_names.f (a0 : Int) : Option (List ByteArray × List ByteArray) := if a0 = 2 then (some ((([(B_ #[106,97,110,117,97,114]), (B_ #[102,101,98,114,117,97,114]), (B_ #[109,97,101,114,122]), (B_ #[97,112,114,105,108]), (B_ #[109,97,105]), (B_ #[106,117,110,105]), (B_ #[106,117,108,105]), (B_ #[97,117,103,117,115,116]), (B_ #[115,101,112,116,101,109,98,101,114]), (B_ #[111,107,116,111,98,101,114]), (B_ #[110,111,118,101,109,98,101,114]), (B_ #[100,101,122,101,109,98,101,114])] : List ByteArray)), (([(B_ #[109,111,110,116,97,103]), (B_ #[100,105,101,110,115,116,97,103]), (B_ #[109,105,116,116,119,111,99,104]), (B_ #[100,111,110,110,101,114,115,116,97,103]), (B_ #[102,114,101,105,116,97,103]), (B_ #[115,97,109,115,116,97,103]), (B_ #[115,111,110,110,116,97,103])] : List ByteArray)))) else (if a0 = 3 then (some ((([(B_ #[101,110,101,114,111]), (B_ #[102,101,98,114,101,114,111]), (B_ #[109,97,114,122,111]), (B_ #[97,98,114,105,108]), (B_ #[109,97,121,111]), (B_ #[106,117,110,105,111]), (B_ #[106,117,108,105,111]), (B_ #[97,103,111,115,116,111]), (B_ #[115,101,112,116,105,101,109,98,114,101]), (B_ #[111,99,116,117,98,114,101]), (B_ #[110,111,118,105,101,109,98,114,101]), (B_ #[100,105,99,105,101,109,98,114,101])] : List ByteArray)), (([(B_ #[108,117,110,101,115]), (B_ #[109,97,114,116,101,115]), (B_ #[109,105,101,114,99,111,108,101,115]), (B_ #[106,117,101,118,101,115]), (B_ #[118,105,101,114,110,101,115]), (B_ #[115,97,98,97,100,111]), (B_ #[100,111,109,105,110,103,111])] : List ByteArray)))) else (some ((([(B_ #[106,97,110,117,97,114,121]), (B_ #[102,101,98,114,117,97,114,121]), (B_ #[109,97,114,99,104]), (B_ #[97,112,114,105,108]), (B_ #[109,97,121]), (B_ #[106,117,110,101]), (B_ #[106,117,108,121]), (B_ #[97,117,103,117,115,116]), (B_ #[115,101,112,116,101,109,98,101,114]), (B_ #[111,99,116,111,98,101,114]), (B_ #[110,111,118,101,109,98,101,114]), (B_ #[100,101,99,101,109,98,101,114])] : List ByteArray)), (([(B_ #[109,111,110,100,97,121]), (B_ #[116,117,101,115,100,97,121]), (B_ #[119,101,100,110,101,115,100,97,121]), (B_ #[116,104,117,114,115,100,97,121]), (B_ #[102,114,105,100,97,121]), (B_ #[115,97,116,117,114,100,97,121]), (B_ #[115,117,110,100,97,121])] : List ByteArray)))))
theorem newswireref11_names.calls (a0 : Int) (r1 : List ByteArray) (r2 : List ByteArray) (w : World) (h : newswireref11_names.f a0 = some (r1, r2)) :
  Calls Tryd.prog 50 #[.int .i64 a0] w fun e w' => ∃ v0_ v1_ : Value, e = .returned (.tuple #[v0_, v1_]) ∧ Kd.R Kd.string 9 w' w.heap.size (fun k_ => some k_ ≠ (v1_ : Value).ownBlock) v0_ r1 ∧ Kd.R Kd.string 9 w' w.heap.size (fun k_ => some k_ ≠ (v0_ : Value).ownBlock) v1_ r2 ∧ Below w.heap.size w w' := by
 have HB := am (Below.refl w.heap.size w)
 have H := h; clear h; unfold newswireref11_names.f at H
 by_cases c2 : a0 = 2
 ·rw [if_pos c2] at H
  have c2b0 := bT c2
  have c2b1 := nF c2; clear c2; obtain ⟨y238, hy238⟩ : ∃ y_ : List ByteArray, y_ = (([(B_ #[106,97,110,117,97,114]), (B_ #[102,101,98,114,117,97,114]), (B_ #[109,97,101,114,122]), (B_ #[97,112,114,105,108]), (B_ #[109,97,105]), (B_ #[106,117,110,105]), (B_ #[106,117,108,105]), (B_ #[97,117,103,117,115,116]), (B_ #[115,101,112,116,101,109,98,101,114]), (B_ #[111,107,116,111,98,101,114]), (B_ #[110,111,118,101,109,98,101,114]), (B_ #[100,101,122,101,109,98,101,114])] : List ByteArray)) := ⟨_, rfl⟩; replace H : (some (y238, (([(B_ #[109,111,110,116,97,103]), (B_ #[100,105,101,110,115,116,97,103]), (B_ #[109,105,116,116,119,111,99,104]), (B_ #[100,111,110,110,101,114,115,116,97,103]), (B_ #[102,114,101,105,116,97,103]), (B_ #[115,97,109,115,116,97,103]), (B_ #[115,111,110,110,116,97,103])] : List ByteArray)))) = some (r1, r2) := by first | (rw [hy238]; with_reducible exact H) | (have H2_ := (Option.bind_some _ _).symm.trans H; rw [hy238]; with_reducible exact H2_) | (have H2_ := (Option.bind_some _ _).symm.trans H; with_reducible exact H2_) | with_reducible exact H | (rw [hy238]; exact H) | exact H
  have Ny238 := am hy238; clear hy238; obtain ⟨y241, hy241⟩ : ∃ y_ : List ByteArray, y_ = (([(B_ #[109,111,110,116,97,103]), (B_ #[100,105,101,110,115,116,97,103]), (B_ #[109,105,116,116,119,111,99,104]), (B_ #[100,111,110,110,101,114,115,116,97,103]), (B_ #[102,114,101,105,116,97,103]), (B_ #[115,97,109,115,116,97,103]), (B_ #[115,111,110,110,116,97,103])] : List ByteArray)) := ⟨_, rfl⟩; replace H : (some (y238, y241)) = some (r1, r2) := by first | (rw [hy241]; with_reducible exact H) | (have H2_ := (Option.bind_some _ _).symm.trans H; rw [hy241]; with_reducible exact H2_) | (have H2_ := (Option.bind_some _ _).symm.trans H; with_reducible exact H2_) | with_reducible exact H | (rw [hy241]; exact H) | exact H
  have Ny241 := am hy241; clear hy241; simp only [Option.some.injEq, Prod.mk.injEq] at H; obtain ⟨rfl, rfl⟩ := H
  go_enter Tryd.func50, Tryd.ntmps50
  go_wp2_with (first | ((with_reducible refine gate_dst (N := 7) rfl ?_); refine Kd.R_lit Kd.string _ 9 ?hg (N := 7) ?hd (xs := ([(B_ #[106,97,110,117,97,114]), (B_ #[102,101,98,114,117,97,114]), (B_ #[109,97,101,114,122]), (B_ #[97,112,114,105,108]), (B_ #[109,97,105]), (B_ #[106,117,110,105]), (B_ #[106,117,108,105]), (B_ #[97,117,103,117,115,116]), (B_ #[115,101,112,116,101,109,98,101,114]), (B_ #[111,107,116,111,98,101,114]), (B_ #[110,111,118,101,109,98,101,114]), (B_ #[100,101,122,101,109,98,101,114])] : List ByteArray)) (inner := [.string (B_ #[106,97,110,117,97,114]), .string (B_ #[102,101,98,114,117,97,114]), .string (B_ #[109,97,101,114,122]), .string (B_ #[97,112,114,105,108]), .string (B_ #[109,97,105]), .string (B_ #[106,117,110,105]), .string (B_ #[106,117,108,105]), .string (B_ #[97,117,103,117,115,116]), .string (B_ #[115,101,112,116,101,109,98,101,114]), .string (B_ #[111,107,116,111,98,101,114]), .string (B_ #[110,111,118,101,109,98,101,114]), .string (B_ #[100,101,122,101,109,98,101,114])]) (ok := fun _ => True) (okp := fun _ => True) ?hr ?hp (fun _ hk => hk) trivial (Below.refl _ _) (Nat.le_refl _) (by simp) ?_; (case hd => rfl); (case hg => rfl); (case hr => first | (go_simp; done) | (go_simp; rfl)); (case hp => exact (Reps.one (show Kd.M Kd.string _ _ _ (B_ #[106,97,110,117,97,114]) [.string (B_ #[106,97,110,117,97,114])] from rfl) (Reps.one (show Kd.M Kd.string _ _ _ (B_ #[102,101,98,114,117,97,114]) [.string (B_ #[102,101,98,114,117,97,114])] from rfl) (Reps.one (show Kd.M Kd.string _ _ _ (B_ #[109,97,101,114,122]) [.string (B_ #[109,97,101,114,122])] from rfl) (Reps.one (show Kd.M Kd.string _ _ _ (B_ #[97,112,114,105,108]) [.string (B_ #[97,112,114,105,108])] from rfl) (Reps.one (show Kd.M Kd.string _ _ _ (B_ #[109,97,105]) [.string (B_ #[109,97,105])] from rfl) (Reps.one (show Kd.M Kd.string _ _ _ (B_ #[106,117,110,105]) [.string (B_ #[106,117,110,105])] from rfl) (Reps.one (show Kd.M Kd.string _ _ _ (B_ #[106,117,108,105]) [.string (B_ #[106,117,108,105])] from rfl) (Reps.one (show Kd.M Kd.string _ _ _ (B_ #[97,117,103,117,115,116]) [.string (B_ #[97,117,103,117,115,116])] from rfl) (Reps.one (show Kd.M Kd.string _ _ _ (B_ #[115,101,112,116,101,109,98,101,114]) [.string (B_ #[115,101,112,116,101,109,98,101,114])] from rfl) (Reps.one (show Kd.M Kd.string _ _ _ (B_ #[111,107,116,111,98,101,114]) [.string (B_ #[111,107,116,111,98,101,114])] from rfl) (Reps.one (show Kd.M Kd.string _ _ _ (B_ #[110,111,118,101,109,98,101,114]) [.string (B_ #[110,111,118,101,109,98,101,114])] from rfl) (Reps.one (show Kd.M Kd.string _ _ _ (B_ #[100,101,122,101,109,98,101,114]) [.string (B_ #[100,101,122,101,109,98,101,114])] from rfl) (Reps.none _ _)))))))))))))); intro v239 w3 ho4 hb hg_ hnew_; clear hg_ hnew_; (first | rw [← Ny238.out] at ho4 | (simp only [Int.reduceToNat] at ho4; rw [← Ny238.out] at ho4)); have HO240 := am (Kd.R_lower ho4 (below_size (bes HB.out))); replace HB := bsp HB hb; clear hb ho4) | ((with_reducible refine gate_dst (N := 8) rfl ?_); refine Kd.R_lit Kd.string _ 9 ?hg (N := 8) ?hd (xs := ([(B_ #[109,111,110,116,97,103]), (B_ #[100,105,101,110,115,116,97,103]), (B_ #[109,105,116,116,119,111,99,104]), (B_ #[100,111,110,110,101,114,115,116,97,103]), (B_ #[102,114,101,105,116,97,103]), (B_ #[115,97,109,115,116,97,103]), (B_ #[115,111,110,110,116,97,103])] : List ByteArray)) (inner := [.string (B_ #[109,111,110,116,97,103]), .string (B_ #[100,105,101,110,115,116,97,103]), .string (B_ #[109,105,116,116,119,111,99,104]), .string (B_ #[100,111,110,110,101,114,115,116,97,103]), .string (B_ #[102,114,101,105,116,97,103]), .string (B_ #[115,97,109,115,116,97,103]), .string (B_ #[115,111,110,110,116,97,103])]) (ok := fun _ => True) (okp := fun _ => True) ?hr ?hp (fun _ hk => hk) trivial (Below.refl _ _) (Nat.le_refl _) (by simp) ?_; (case hd => rfl); (case hg => rfl); (case hr => first | (go_simp; done) | (go_simp; rfl)); (case hp => exact (Reps.one (show Kd.M Kd.string _ _ _ (B_ #[109,111,110,116,97,103]) [.string (B_ #[109,111,110,116,97,103])] from rfl) (Reps.one (show Kd.M Kd.string _ _ _ (B_ #[100,105,101,110,115,116,97,103]) [.string (B_ #[100,105,101,110,115,116,97,103])] from rfl) (Reps.one (show Kd.M Kd.string _ _ _ (B_ #[109,105,116,116,119,111,99,104]) [.string (B_ #[109,105,116,116,119,111,99,104])] from rfl) (Reps.one (show Kd.M Kd.string _ _ _ (B_ #[100,111,110,110,101,114,115,116,97,103]) [.string (B_ #[100,111,110,110,101,114,115,116,97,103])] from rfl) (Reps.one (show Kd.M Kd.string _ _ _ (B_ #[102,114,101,105,116,97,103]) [.string (B_ #[102,114,101,105,116,97,103])] from rfl) (Reps.one (show Kd.M Kd.string _ _ _ (B_ #[115,97,109,115,116,97,103]) [.string (B_ #[115,97,109,115,116,97,103])] from rfl) (Reps.one (show Kd.M Kd.string _ _ _ (B_ #[115,111,110,110,116,97,103]) [.string (B_ #[115,111,110,110,116,97,103])] from rfl) (Reps.none _ _))))))))); intro v242 w5 ho6 hb hg_ hnew_; clear hg_ hnew_; (first | rw [← Ny241.out] at ho6 | (simp only [Int.reduceToNat] at ho6; rw [← Ny241.out] at ho6)); have HO243 := am (Kd.R_lower (Kd.R_new' ho6 (Kd.R_lt (R_st HO240.out))) (below_size (bes HB.out))); replace HO240 := am (Kd.R_elder' (R_st HO240.out) (Kd.R_base ho6) hb); replace HB := bsp HB hb; clear hb ho6))
  go_ret2
  exact ⟨_, _, er, by exact R_st (Kd.R_mono HO240.out (fun _ hk => hk.2)), by exact R_st (Kd.R_mono HO243.out (fun _ hk => hk.2)), by exact bes HB.out⟩
 rw [if_neg c2] at H
 have c2b0 := bF c2
 have c2b1 := nT c2
 by_cases c7 : a0 = 3
 ·rw [if_pos c7] at H
  have c7b0 := bT c7
  have c7b1 := nF c7; clear c7; obtain ⟨y244, hy244⟩ : ∃ y_ : List ByteArray, y_ = (([(B_ #[101,110,101,114,111]), (B_ #[102,101,98,114,101,114,111]), (B_ #[109,97,114,122,111]), (B_ #[97,98,114,105,108]), (B_ #[109,97,121,111]), (B_ #[106,117,110,105,111]), (B_ #[106,117,108,105,111]), (B_ #[97,103,111,115,116,111]), (B_ #[115,101,112,116,105,101,109,98,114,101]), (B_ #[111,99,116,117,98,114,101]), (B_ #[110,111,118,105,101,109,98,114,101]), (B_ #[100,105,99,105,101,109,98,114,101])] : List ByteArray)) := ⟨_, rfl⟩; replace H : (some (y244, (([(B_ #[108,117,110,101,115]), (B_ #[109,97,114,116,101,115]), (B_ #[109,105,101,114,99,111,108,101,115]), (B_ #[106,117,101,118,101,115]), (B_ #[118,105,101,114,110,101,115]), (B_ #[115,97,98,97,100,111]), (B_ #[100,111,109,105,110,103,111])] : List ByteArray)))) = some (r1, r2) := by first | (rw [hy244]; with_reducible exact H) | (have H2_ := (Option.bind_some _ _).symm.trans H; rw [hy244]; with_reducible exact H2_) | (have H2_ := (Option.bind_some _ _).symm.trans H; with_reducible exact H2_) | with_reducible exact H | (rw [hy244]; exact H) | exact H
  have Ny244 := am hy244; clear hy244; obtain ⟨y247, hy247⟩ : ∃ y_ : List ByteArray, y_ = (([(B_ #[108,117,110,101,115]), (B_ #[109,97,114,116,101,115]), (B_ #[109,105,101,114,99,111,108,101,115]), (B_ #[106,117,101,118,101,115]), (B_ #[118,105,101,114,110,101,115]), (B_ #[115,97,98,97,100,111]), (B_ #[100,111,109,105,110,103,111])] : List ByteArray)) := ⟨_, rfl⟩; replace H : (some (y244, y247)) = some (r1, r2) := by first | (rw [hy247]; with_reducible exact H) | (have H2_ := (Option.bind_some _ _).symm.trans H; rw [hy247]; with_reducible exact H2_) | (have H2_ := (Option.bind_some _ _).symm.trans H; with_reducible exact H2_) | with_reducible exact H | (rw [hy247]; exact H) | exact H
  have Ny247 := am hy247; clear hy247; simp only [Option.some.injEq, Prod.mk.injEq] at H; obtain ⟨rfl, rfl⟩ := H
  go_enter Tryd.func50, Tryd.ntmps50
  go_wp2_with (first | ((with_reducible refine gate_dst (N := 11) rfl ?_); refine Kd.R_lit Kd.string _ 9 ?hg (N := 11) ?hd (xs := ([(B_ #[101,110,101,114,111]), (B_ #[102,101,98,114,101,114,111]), (B_ #[109,97,114,122,111]), (B_ #[97,98,114,105,108]), (B_ #[109,97,121,111]), (B_ #[106,117,110,105,111]), (B_ #[106,117,108,105,111]), (B_ #[97,103,111,115,116,111]), (B_ #[115,101,112,116,105,101,109,98,114,101]), (B_ #[111,99,116,117,98,114,101]), (B_ #[110,111,118,105,101,109,98,114,101]), (B_ #[100,105,99,105,101,109,98,114,101])] : List ByteArray)) (inner := [.string (B_ #[101,110,101,114,111]), .string (B_ #[102,101,98,114,101,114,111]), .string (B_ #[109,97,114,122,111]), .string (B_ #[97,98,114,105,108]), .string (B_ #[109,97,121,111]), .string (B_ #[106,117,110,105,111]), .string (B_ #[106,117,108,105,111]), .string (B_ #[97,103,111,115,116,111]), .string (B_ #[115,101,112,116,105,101,109,98,114,101]), .string (B_ #[111,99,116,117,98,114,101]), .string (B_ #[110,111,118,105,101,109,98,114,101]), .string (B_ #[100,105,99,105,101,109,98,114,101])]) (ok := fun _ => True) (okp := fun _ => True) ?hr ?hp (fun _ hk => hk) trivial (Below.refl _ _) (Nat.le_refl _) (by simp) ?_; (case hd => rfl); (case hg => rfl); (case hr => first | (go_simp; done) | (go_simp; rfl)); (case hp => exact (Reps.one (show Kd.M Kd.string _ _ _ (B_ #[101,110,101,114,111]) [.string (B_ #[101,110,101,114,111])] from rfl) (Reps.one (show Kd.M Kd.string _ _ _ (B_ #[102,101,98,114,101,114,111]) [.string (B_ #[102,101,98,114,101,114,111])] from rfl) (Reps.one (show Kd.M Kd.string _ _ _ (B_ #[109,97,114,122,111]) [.string (B_ #[109,97,114,122,111])] from rfl) (Reps.one (show Kd.M Kd.string _ _ _ (B_ #[97,98,114,105,108]) [.string (B_ #[97,98,114,105,108])] from rfl) (Reps.one (show Kd.M Kd.string _ _ _ (B_ #[109,97,121,111]) [.string (B_ #[109,97,121,111])] from rfl) (Reps.one (show Kd.M Kd.string _ _ _ (B_ #[106,117,110,105,111]) [.string (B_ #[106,117,110,105,111])] from rfl) (Reps.one (show Kd.M Kd.string _ _ _ (B_ #[106,117,108,105,111]) [.string (B_ #[106,117,108,105,111])] from rfl) (Reps.one (show Kd.M Kd.string _ _ _ (B_ #[97,103,111,115,116,111]) [.string (B_ #[97,103,111,115,116,111])] from rfl) (Reps.one (show Kd.M Kd.string _ _ _ (B_ #[115,101,112,116,105,101,109,98,114,101]) [.string (B_ #[115,101,112,116,105,101,109,98,114,101])] from rfl) (Reps.one (show Kd.M Kd.string _ _ _ (B_ #[111,99,116,117,98,114,101]) [.string (B_ #[111,99,116,117,98,114,101])] from rfl) (Reps.one (show Kd.M Kd.string _ _ _ (B_ #[110,111,118,105,101,109,98,114,101]) [.string (B_ #[110,111,118,105,101,109,98,114,101])] from rfl) (Reps.one (show Kd.M Kd.string _ _ _ (B_ #[100,105,99,105,101,109,98,114,101]) [.string (B_ #[100,105,99,105,101,109,98,114,101])] from rfl) (Reps.none _ _)))))))))))))); intro v245 w8 ho9 hb hg_ hnew_; clear hg_ hnew_; (first | rw [← Ny244.out] at ho9 | (simp only [Int.reduceToNat] at ho9; rw [← Ny244.out] at ho9)); have HO246 := am (Kd.R_lower ho9 (below_size (bes HB.out))); replace HB := bsp HB hb; clear hb ho9) | ((with_reducible refine gate_dst (N := 12) rfl ?_); refine Kd.R_lit Kd.string _ 9 ?hg (N := 12) ?hd (xs := ([(B_ #[108,117,110,101,115]), (B_ #[109,97,114,116,101,115]), (B_ #[109,105,101,114,99,111,108,101,115]), (B_ #[106,117,101,118,101,115]), (B_ #[118,105,101,114,110,101,115]), (B_ #[115,97,98,97,100,111]), (B_ #[100,111,109,105,110,103,111])] : List ByteArray)) (inner := [.string (B_ #[108,117,110,101,115]), .string (B_ #[109,97,114,116,101,115]), .string (B_ #[109,105,101,114,99,111,108,101,115]), .string (B_ #[106,117,101,118,101,115]), .string (B_ #[118,105,101,114,110,101,115]), .string (B_ #[115,97,98,97,100,111]), .string (B_ #[100,111,109,105,110,103,111])]) (ok := fun _ => True) (okp := fun _ => True) ?hr ?hp (fun _ hk => hk) trivial (Below.refl _ _) (Nat.le_refl _) (by simp) ?_; (case hd => rfl); (case hg => rfl); (case hr => first | (go_simp; done) | (go_simp; rfl)); (case hp => exact (Reps.one (show Kd.M Kd.string _ _ _ (B_ #[108,117,110,101,115]) [.string (B_ #[108,117,110,101,115])] from rfl) (Reps.one (show Kd.M Kd.string _ _ _ (B_ #[109,97,114,116,101,115]) [.string (B_ #[109,97,114,116,101,115])] from rfl) (Reps.one (show Kd.M Kd.string _ _ _ (B_ #[109,105,101,114,99,111,108,101,115]) [.string (B_ #[109,105,101,114,99,111,108,101,115])] from rfl) (Reps.one (show Kd.M Kd.string _ _ _ (B_ #[106,117,101,118,101,115]) [.string (B_ #[106,117,101,118,101,115])] from rfl) (Reps.one (show Kd.M Kd.string _ _ _ (B_ #[118,105,101,114,110,101,115]) [.string (B_ #[118,105,101,114,110,101,115])] from rfl) (Reps.one (show Kd.M Kd.string _ _ _ (B_ #[115,97,98,97,100,111]) [.string (B_ #[115,97,98,97,100,111])] from rfl) (Reps.one (show Kd.M Kd.string _ _ _ (B_ #[100,111,109,105,110,103,111]) [.string (B_ #[100,111,109,105,110,103,111])] from rfl) (Reps.none _ _))))))))); intro v248 w10 ho11 hb hg_ hnew_; clear hg_ hnew_; (first | rw [← Ny247.out] at ho11 | (simp only [Int.reduceToNat] at ho11; rw [← Ny247.out] at ho11)); have HO249 := am (Kd.R_lower (Kd.R_new' ho11 (Kd.R_lt (R_st HO246.out))) (below_size (bes HB.out))); replace HO246 := am (Kd.R_elder' (R_st HO246.out) (Kd.R_base ho11) hb); replace HB := bsp HB hb; clear hb ho11))
  go_ret2
  exact ⟨_, _, er, by exact R_st (Kd.R_mono HO246.out (fun _ hk => hk.2)), by exact R_st (Kd.R_mono HO249.out (fun _ hk => hk.2)), by exact bes HB.out⟩
 rw [if_neg c7] at H
 have c7b0 := bF c7
 have c7b1 := nT c7; obtain ⟨y250, hy250⟩ : ∃ y_ : List ByteArray, y_ = (([(B_ #[106,97,110,117,97,114,121]), (B_ #[102,101,98,114,117,97,114,121]), (B_ #[109,97,114,99,104]), (B_ #[97,112,114,105,108]), (B_ #[109,97,121]), (B_ #[106,117,110,101]), (B_ #[106,117,108,121]), (B_ #[97,117,103,117,115,116]), (B_ #[115,101,112,116,101,109,98,101,114]), (B_ #[111,99,116,111,98,101,114]), (B_ #[110,111,118,101,109,98,101,114]), (B_ #[100,101,99,101,109,98,101,114])] : List ByteArray)) := ⟨_, rfl⟩; replace H : (some (y250, (([(B_ #[109,111,110,100,97,121]), (B_ #[116,117,101,115,100,97,121]), (B_ #[119,101,100,110,101,115,100,97,121]), (B_ #[116,104,117,114,115,100,97,121]), (B_ #[102,114,105,100,97,121]), (B_ #[115,97,116,117,114,100,97,121]), (B_ #[115,117,110,100,97,121])] : List ByteArray)))) = some (r1, r2) := by first | (rw [hy250]; with_reducible exact H) | (have H2_ := (Option.bind_some _ _).symm.trans H; rw [hy250]; with_reducible exact H2_) | (have H2_ := (Option.bind_some _ _).symm.trans H; with_reducible exact H2_) | with_reducible exact H | (rw [hy250]; exact H) | exact H
 have Ny250 := am hy250; clear hy250; obtain ⟨y253, hy253⟩ : ∃ y_ : List ByteArray, y_ = (([(B_ #[109,111,110,100,97,121]), (B_ #[116,117,101,115,100,97,121]), (B_ #[119,101,100,110,101,115,100,97,121]), (B_ #[116,104,117,114,115,100,97,121]), (B_ #[102,114,105,100,97,121]), (B_ #[115,97,116,117,114,100,97,121]), (B_ #[115,117,110,100,97,121])] : List ByteArray)) := ⟨_, rfl⟩; replace H : (some (y250, y253)) = some (r1, r2) := by first | (rw [hy253]; with_reducible exact H) | (have H2_ := (Option.bind_some _ _).symm.trans H; rw [hy253]; with_reducible exact H2_) | (have H2_ := (Option.bind_some _ _).symm.trans H; with_reducible exact H2_) | with_reducible exact H | (rw [hy253]; exact H) | exact H
 have Ny253 := am hy253; clear hy253; simp only [Option.some.injEq, Prod.mk.injEq] at H; obtain ⟨rfl, rfl⟩ := H
 go_enter Tryd.func50, Tryd.ntmps50
 go_wp2_with (first | ((with_reducible refine gate_dst (N := 13) rfl ?_); refine Kd.R_lit Kd.string _ 9 ?hg (N := 13) ?hd (xs := ([(B_ #[106,97,110,117,97,114,121]), (B_ #[102,101,98,114,117,97,114,121]), (B_ #[109,97,114,99,104]), (B_ #[97,112,114,105,108]), (B_ #[109,97,121]), (B_ #[106,117,110,101]), (B_ #[106,117,108,121]), (B_ #[97,117,103,117,115,116]), (B_ #[115,101,112,116,101,109,98,101,114]), (B_ #[111,99,116,111,98,101,114]), (B_ #[110,111,118,101,109,98,101,114]), (B_ #[100,101,99,101,109,98,101,114])] : List ByteArray)) (inner := [.string (B_ #[106,97,110,117,97,114,121]), .string (B_ #[102,101,98,114,117,97,114,121]), .string (B_ #[109,97,114,99,104]), .string (B_ #[97,112,114,105,108]), .string (B_ #[109,97,121]), .string (B_ #[106,117,110,101]), .string (B_ #[106,117,108,121]), .string (B_ #[97,117,103,117,115,116]), .string (B_ #[115,101,112,116,101,109,98,101,114]), .string (B_ #[111,99,116,111,98,101,114]), .string (B_ #[110,111,118,101,109,98,101,114]), .string (B_ #[100,101,99,101,109,98,101,114])]) (ok := fun _ => True) (okp := fun _ => True) ?hr ?hp (fun _ hk => hk) trivial (Below.refl _ _) (Nat.le_refl _) (by simp) ?_; (case hd => rfl); (case hg => rfl); (case hr => first | (go_simp; done) | (go_simp; rfl)); (case hp => exact (Reps.one (show Kd.M Kd.string _ _ _ (B_ #[106,97,110,117,97,114,121]) [.string (B_ #[106,97,110,117,97,114,121])] from rfl) (Reps.one (show Kd.M Kd.string _ _ _ (B_ #[102,101,98,114,117,97,114,121]) [.string (B_ #[102,101,98,114,117,97,114,121])] from rfl) (Reps.one (show Kd.M Kd.string _ _ _ (B_ #[109,97,114,99,104]) [.string (B_ #[109,97,114,99,104])] from rfl) (Reps.one (show Kd.M Kd.string _ _ _ (B_ #[97,112,114,105,108]) [.string (B_ #[97,112,114,105,108])] from rfl) (Reps.one (show Kd.M Kd.string _ _ _ (B_ #[109,97,121]) [.string (B_ #[109,97,121])] from rfl) (Reps.one (show Kd.M Kd.string _ _ _ (B_ #[106,117,110,101]) [.string (B_ #[106,117,110,101])] from rfl) (Reps.one (show Kd.M Kd.string _ _ _ (B_ #[106,117,108,121]) [.string (B_ #[106,117,108,121])] from rfl) (Reps.one (show Kd.M Kd.string _ _ _ (B_ #[97,117,103,117,115,116]) [.string (B_ #[97,117,103,117,115,116])] from rfl) (Reps.one (show Kd.M Kd.string _ _ _ (B_ #[115,101,112,116,101,109,98,101,114]) [.string (B_ #[115,101,112,116,101,109,98,101,114])] from rfl) (Reps.one (show Kd.M Kd.string _ _ _ (B_ #[111,99,116,111,98,101,114]) [.string (B_ #[111,99,116,111,98,101,114])] from rfl) (Reps.one (show Kd.M Kd.string _ _ _ (B_ #[110,111,118,101,109,98,101,114]) [.string (B_ #[110,111,118,101,109,98,101,114])] from rfl) (Reps.one (show Kd.M Kd.string _ _ _ (B_ #[100,101,99,101,109,98,101,114]) [.string (B_ #[100,101,99,101,109,98,101,114])] from rfl) (Reps.none _ _)))))))))))))); intro v251 w12 ho13 hb hg_ hnew_; clear hg_ hnew_; (first | rw [← Ny250.out] at ho13 | (simp only [Int.reduceToNat] at ho13; rw [← Ny250.out] at ho13)); have HO252 := am (Kd.R_lower ho13 (below_size (bes HB.out))); replace HB := bsp HB hb; clear hb ho13) | ((with_reducible refine gate_dst (N := 14) rfl ?_); refine Kd.R_lit Kd.string _ 9 ?hg (N := 14) ?hd (xs := ([(B_ #[109,111,110,100,97,121]), (B_ #[116,117,101,115,100,97,121]), (B_ #[119,101,100,110,101,115,100,97,121]), (B_ #[116,104,117,114,115,100,97,121]), (B_ #[102,114,105,100,97,121]), (B_ #[115,97,116,117,114,100,97,121]), (B_ #[115,117,110,100,97,121])] : List ByteArray)) (inner := [.string (B_ #[109,111,110,100,97,121]), .string (B_ #[116,117,101,115,100,97,121]), .string (B_ #[119,101,100,110,101,115,100,97,121]), .string (B_ #[116,104,117,114,115,100,97,121]), .string (B_ #[102,114,105,100,97,121]), .string (B_ #[115,97,116,117,114,100,97,121]), .string (B_ #[115,117,110,100,97,121])]) (ok := fun _ => True) (okp := fun _ => True) ?hr ?hp (fun _ hk => hk) trivial (Below.refl _ _) (Nat.le_refl _) (by simp) ?_; (case hd => rfl); (case hg => rfl); (case hr => first | (go_simp; done) | (go_simp; rfl)); (case hp => exact (Reps.one (show Kd.M Kd.string _ _ _ (B_ #[109,111,110,100,97,121]) [.string (B_ #[109,111,110,100,97,121])] from rfl) (Reps.one (show Kd.M Kd.string _ _ _ (B_ #[116,117,101,115,100,97,121]) [.string (B_ #[116,117,101,115,100,97,121])] from rfl) (Reps.one (show Kd.M Kd.string _ _ _ (B_ #[119,101,100,110,101,115,100,97,121]) [.string (B_ #[119,101,100,110,101,115,100,97,121])] from rfl) (Reps.one (show Kd.M Kd.string _ _ _ (B_ #[116,104,117,114,115,100,97,121]) [.string (B_ #[116,104,117,114,115,100,97,121])] from rfl) (Reps.one (show Kd.M Kd.string _ _ _ (B_ #[102,114,105,100,97,121]) [.string (B_ #[102,114,105,100,97,121])] from rfl) (Reps.one (show Kd.M Kd.string _ _ _ (B_ #[115,97,116,117,114,100,97,121]) [.string (B_ #[115,97,116,117,114,100,97,121])] from rfl) (Reps.one (show Kd.M Kd.string _ _ _ (B_ #[115,117,110,100,97,121]) [.string (B_ #[115,117,110,100,97,121])] from rfl) (Reps.none _ _))))))))); intro v254 w14 ho15 hb hg_ hnew_; clear hg_ hnew_; (first | rw [← Ny253.out] at ho15 | (simp only [Int.reduceToNat] at ho15; rw [← Ny253.out] at ho15)); have HO255 := am (Kd.R_lower (Kd.R_new' ho15 (Kd.R_lt (R_st HO252.out))) (below_size (bes HB.out))); replace HO252 := am (Kd.R_elder' (R_st HO252.out) (Kd.R_base ho15) hb); replace HB := bsp HB hb; clear hb ho15))
 go_ret2
 exact ⟨_, _, er, by exact R_st (Kd.R_mono HO252.out (fun _ hk => hk.2)), by exact R_st (Kd.R_mono HO255.out (fun _ hk => hk.2)), by exact bes HB.out⟩

/-! ### newswireref11_name: function 51 -/
def newswireref11_name.f (l0 : List ByteArray) (a1 : Int) : Option (ByteArray × Int) := if a1 < 0 then (some ((B_ #[]), 110)) else (if a1 ≥ (l0.length : Int) then (some ((B_ #[]), 110)) else (if 0 ≤ a1 then (if a1 < (l0.length : Int) then (some (rdOf ByteArray.empty l0 a1, 0)) else (none)) else (none)))
theorem newswireref11_name.calls (A0 : Option Addr) (c0 : Nat) (l0 : List ByteArray) (a1 : Int) (r1 : ByteArray) (r2 : Int) (w : World) (hr0 : Kd.C Kd.string w A0 l0.length l0) (hc0 : l0.length ≤ c0) (h : newswireref11_name.f l0 a1 = some (r1, r2)) :
  Calls Tryd.prog 51 #[.slice A0 l0.length c0, .int .i64 a1] w fun e w' => e = .returned (.tuple #[.string r1, .int .i64 r2]) ∧ Drawn0 w w' := by
 have HR0 := am hr0; have HC0 := am hc0; clear hr0 hc0
 have H := h; clear h; unfold newswireref11_name.f at H
 by_cases c3 : a1 < 0
 ·rw [if_pos c3] at H
  have c3b0 := dT c3; clear c3; simp only [Option.some.injEq, Prod.mk.injEq] at H; obtain ⟨rfl, rfl⟩ := H
  go_enter Tryd.func51, Tryd.ntmps51
  go_wp2
  go_ret2
  exact ⟨by first | rfl | (simp; done) | (simp [*]; done), by repeat (first | exact Drawn0.refl _ | apply Drawn0.step)⟩
 rw [if_neg c3] at H
 have c3b0 := dF c3; clear c3
 by_cases c4 : a1 ≥ (l0.length : Int)
 ·rw [if_pos c4] at H
  have c4b0 := dT c4; clear c4; simp only [Option.some.injEq, Prod.mk.injEq] at H; obtain ⟨rfl, rfl⟩ := H
  go_enter Tryd.func51, Tryd.ntmps51
  go_wp2
  go_ret2
  exact ⟨by first | rfl | (simp; done) | (simp [*]; done), by repeat (first | exact Drawn0.refl _ | apply Drawn0.step)⟩
 rw [if_neg c4] at H
 have c4b0 := dF c4; clear c4
 by_cases c5 : 0 ≤ a1; rotate_left
 ·rw [if_neg c5] at H
  exact absurd H (by simp)
 rw [if_pos c5] at H
 have c5b0 := dT c5; clear c5
 by_cases c6 : a1 < (l0.length : Int); rotate_left
 ·rw [if_neg c6] at H
  exact absurd H (by simp)
 rw [if_pos c6] at H
 have c6b0 := dT c6; clear c6; simp only [Option.some.injEq, Prod.mk.injEq] at H; obtain ⟨rfl, rfl⟩ := H
 have p256 : 0 ≤ (a1 : Int) := of_decide_eq_true (by assumption)
 have q256 : a1 < (l0.length : Int) := of_decide_eq_true (by assumption); obtain ⟨ad256, e256, hx256_0⟩ := Kd.at_string HR0.out a1 p256 q256
 cases e256
 replace p256 := eq_true p256; replace q256 := eq_true q256
 go_enter Tryd.func51, Tryd.ntmps51
 go_wp2
 go_ret2
 exact ⟨by first | rfl | (simp; done) | (simp [*]; done), by repeat (first | exact Drawn0.refl _ | apply Drawn0.step)⟩

/-! ### newswireref11_Month: function 23 -/
def newswireref11_Month.j0 : Nat → Int → Int → Bool → Option (ByteArray × Int)
 | 0, _, _, _ => none
 | k + 1, x0, x1, x17 => if x17 = true then (some ((B_ #[]), 110)) else ((newswireref11_names.f x0).bind fun bt257 => ((newswireref11_name.f bt257.1 (wrap64 (x1 - 1))).bind fun bt263 => (some (bt263.1, bt263.2))))
def newswireref11_Month.f (k : Nat) (a0 : Int) (a1 : Int) : Option (ByteArray × Int) := if a0 < 1 then (newswireref11_Month.j0 k a0 a1 true) else (if a0 > 3 then (newswireref11_Month.j0 k a0 a1 true) else (newswireref11_Month.j0 k a0 a1 (decide (a1 < 1))))
theorem newswireref11_Month.mono_l : ∀ k, (∀ y0 y1 y2, LeO (newswireref11_Month.j0 k y0 y1 y2) (newswireref11_Month.j0 (k + 1) y0 y1 y2))
 | 0 => fun _ _ _ r h => by simp [newswireref11_Month.j0] at h
 | k + 1 => by
  have ih0 := newswireref11_Month.mono_l k
  intro y0 y1 y2
  unfold newswireref11_Month.j0
  repeat' first
  | (with_reducible exact ih0 _ _ _)
  | (with_reducible exact LeO.refl _)
  | (with_reducible exact LeO.none _)
  | (with_reducible refine LeO.ite ?_ ?_)
  | (with_reducible refine LeO.bind ?_ (fun _ => ?_))
theorem newswireref11_Month.mono : ∀ a0 a1 k, LeO (newswireref11_Month.f k a0 a1) (newswireref11_Month.f (k + 1) a0 a1) := by
 intro a0 a1 k; have ih0 := newswireref11_Month.mono_l k
 unfold newswireref11_Month.f
 repeat' first
   | (with_reducible exact ih0 _ _ _)
   | (with_reducible exact LeO.refl _)
   | (with_reducible exact LeO.none _)
   | (with_reducible refine LeO.ite ?_ ?_)
   | (with_reducible refine LeO.bind ?_ (fun _ => ?_))
theorem newswireref11_Month.calls (k : Nat) (a0 : Int) (a1 : Int) (r1 : ByteArray) (r2 : Int) (w : World) (h : newswireref11_Month.f k a0 a1 = some (r1, r2)) :
  Calls Tryd.prog 23 #[.int .i64 a0, .int .i64 a1] w fun e w' => e = .returned (.tuple #[.string r1, .int .i64 r2]) ∧ Below w.heap.size w w' := by
 have HB := am (Below.refl w.heap.size w)
 have H := h; clear h; unfold newswireref11_Month.f at H; have HC3 := am H; clear H
 go_enter Tryd.func23, Tryd.ntmps23
 go_upto_region 1 with (fail)
 go_cut [17] (fun v17 wc => ∃ (kq : Nat) (x17_2 : Bool), v17 = .bool x17_2 ∧ Aside0 (newswireref11_Month.j0 kq a0 a1 x17_2 = some (r1, r2)) ∧ Aside0 (kq ≤ k) ∧ Aside0 (Below w.heap.size w wc))
 case first =>
  have H := HC3.out; clear HC3
  by_cases c4 : a0 < 1
  ·rw [if_pos c4] at H
   have c4b0 := dT c4; clear c4
   (first | rw [c4b0] | (simp only [i64_w, i32_w]; rw [c4b0]) | skip)
   have H' := am H; clear H
   go_wp2
   go_meet
   case rel => exact ⟨_, (true), cd, H', ⟨om⟩, ⟨by exact bes HB.out⟩⟩
  rw [if_neg c4] at H
  have c4b0 := dF c4; clear c4
  (first | rw [c4b0] | (simp only [i64_w, i32_w]; rw [c4b0]) | skip)
  by_cases c5 : a0 > 3
  ·rw [if_pos c5] at H
   have c5b0 := dT c5; clear c5
   have H' := am H; clear H
   go_wp2
   go_meet
   case rel => exact ⟨_, (true), cd, H', ⟨om⟩, ⟨by exact bes HB.out⟩⟩
  rw [if_neg c5] at H
  have c5b0 := dF c5; clear c5
  have H' := am H; clear H
  go_wp2
  go_meet
  case rel => exact ⟨_, (decide (a1 < 1)), cd, H', ⟨om⟩, ⟨by exact bes HB.out⟩⟩
 clear HC3
 try clear c2
 try clear p2
 try clear c4
 try clear c4b0
 try clear c5
 try clear c5b0
 obtain ⟨kq, x17_2, rfl, HA, HJ2, HB⟩ := hcut
 cases kq with
 | zero => exact absurd HA.out (by simp [newswireref11_Month.j0])
 | succ kj2 =>
  have H := HA.out; clear HA; simp only [newswireref11_Month.j0] at H
  by_cases c6 : x17_2 = true
  ·subst c6
   replace H := ip H
   simp only [Option.some.injEq, Prod.mk.injEq] at H; obtain ⟨rfl, rfl⟩ := H
   go_wp2
   go_ret2
   exact ⟨er, by exact bes HB.out⟩
  replace c6 := Bool.eq_false_iff.mpr c6; subst c6; replace H := inn H
  replace H := bm H; obtain ⟨⟨t257, t258⟩, A70, H⟩ := H; replace H : ((newswireref11_name.f t257 (wrap64 (a1 - 1))).bind fun bt263 => (some (bt263.1, bt263.2))) = some (r1, r2) := H; have A7 := am A70; clear A70; replace H := bm H; obtain ⟨⟨t263, t264⟩, A80, H⟩ := H; replace H : (some (t263, t264)) = some (r1, r2) := H; have A8 := am A80; clear A80; simp only [Option.some.injEq, Prod.mk.injEq] at H; obtain ⟨rfl, rfl⟩ := H
  go_wp2_with (first | ((with_reducible refine gate_callee (f := 50) rfl ?_); refine gL (some 20) rfl rfl Tryd.func50 #[.int .i64 a0] ?_; (refine (newswireref11_names.calls a0 t257 t258 _ A7.out).mono ?_); rintro e w9 ⟨v259, v261, rfl, ho0, ho1, hb⟩; refine ⟨_, rfl, ?_⟩; have HO260 := am (Kd.R_lower ho0 (below_size (bes HB.out))); have HO262 := am (Kd.R_lower ho1 (below_size (bes HB.out))); replace HB := bsp HB hb; (try clear hb); (try clear ho0); (try clear ho1); obtain ⟨Ao10, co10, eo10⟩ := Kd.R_slice HO260.out; subst eo10) | ((with_reducible refine gate_callee (f := 51) rfl ?_); refine gL (some 26) rfl rfl Tryd.func51 #[.slice Ao10 t257.length co10, .int .i64 (wrap64 (a1 - 1))] ?_; (refine (newswireref11_name.calls _ _ t257 (wrap64 (a1 - 1)) t263 t264 _ ?_ ?_ A8.out).mono ?_); exact C_st ((Kd.R_reads' HO260.out).2.2); exact (Kd.R_reads' HO260.out).2.1; rintro e w' ⟨rfl, ⟨nd, rfl⟩⟩; refine ⟨_, rfl, ?_⟩))
  go_ret2
  exact ⟨er, by exact bes HB.out⟩

/-! ### newswireref11_Weekday: function 25 -/
def newswireref11_Weekday.j0 : Nat → Int → Int → Bool → Option (ByteArray × Int)
 | 0, _, _, _ => none
 | k + 1, x0, x1, x13 => if x13 = true then (some ((B_ #[]), 110)) else ((newswireref11_names.f x0).bind fun bt265 => ((newswireref11_name.f bt265.2 x1).bind fun bt271 => (some (bt271.1, bt271.2))))
def newswireref11_Weekday.f (k : Nat) (a0 : Int) (a1 : Int) : Option (ByteArray × Int) := if a0 < 1 then (newswireref11_Weekday.j0 k a0 a1 true) else (newswireref11_Weekday.j0 k a0 a1 (decide (a0 > 3)))
theorem newswireref11_Weekday.mono_l : ∀ k, (∀ y0 y1 y2, LeO (newswireref11_Weekday.j0 k y0 y1 y2) (newswireref11_Weekday.j0 (k + 1) y0 y1 y2))
 | 0 => fun _ _ _ r h => by simp [newswireref11_Weekday.j0] at h
 | k + 1 => by
  have ih0 := newswireref11_Weekday.mono_l k
  intro y0 y1 y2
  unfold newswireref11_Weekday.j0
  repeat' first
  | (with_reducible exact ih0 _ _ _)
  | (with_reducible exact LeO.refl _)
  | (with_reducible exact LeO.none _)
  | (with_reducible refine LeO.ite ?_ ?_)
  | (with_reducible refine LeO.bind ?_ (fun _ => ?_))
theorem newswireref11_Weekday.mono : ∀ a0 a1 k, LeO (newswireref11_Weekday.f k a0 a1) (newswireref11_Weekday.f (k + 1) a0 a1) := by
 intro a0 a1 k; have ih0 := newswireref11_Weekday.mono_l k
 unfold newswireref11_Weekday.f
 repeat' first
   | (with_reducible exact ih0 _ _ _)
   | (with_reducible exact LeO.refl _)
   | (with_reducible exact LeO.none _)
   | (with_reducible refine LeO.ite ?_ ?_)
   | (with_reducible refine LeO.bind ?_ (fun _ => ?_))
theorem newswireref11_Weekday.calls (k : Nat) (a0 : Int) (a1 : Int) (r1 : ByteArray) (r2 : Int) (w : World) (h : newswireref11_Weekday.f k a0 a1 = some (r1, r2)) :
  Calls Tryd.prog 25 #[.int .i64 a0, .int .i64 a1] w fun e w' => e = .returned (.tuple #[.string r1, .int .i64 r2]) ∧ Below w.heap.size w w' := by
 have HB := am (Below.refl w.heap.size w)
 have H := h; clear h; unfold newswireref11_Weekday.f at H; have HC3 := am H; clear H
 go_enter Tryd.func25, Tryd.ntmps25
 go_upto_region 1 with (fail)
 go_cut [13] (fun v13 wc => ∃ (kq : Nat) (x13_2 : Bool), v13 = .bool x13_2 ∧ Aside0 (newswireref11_Weekday.j0 kq a0 a1 x13_2 = some (r1, r2)) ∧ Aside0 (kq ≤ k) ∧ Aside0 (Below w.heap.size w wc))
 case first =>
  have H := HC3.out; clear HC3
  by_cases c4 : a0 < 1
  ·rw [if_pos c4] at H
   have c4b0 := dT c4; clear c4
   (first | rw [c4b0] | (simp only [i64_w, i32_w]; rw [c4b0]) | skip)
   have H' := am H; clear H
   go_wp2
   go_meet
   case rel => exact ⟨_, (true), cd, H', ⟨om⟩, ⟨by exact bes HB.out⟩⟩
  rw [if_neg c4] at H
  have c4b0 := dF c4; clear c4
  (first | rw [c4b0] | (simp only [i64_w, i32_w]; rw [c4b0]) | skip)
  have H' := am H; clear H
  go_wp2
  go_meet
  case rel => exact ⟨_, (decide (a0 > 3)), cd, H', ⟨om⟩, ⟨by exact bes HB.out⟩⟩
 clear HC3
 try clear c2
 try clear p2
 try clear c4
 try clear c4b0
 obtain ⟨kq, x13_2, rfl, HA, HJ2, HB⟩ := hcut
 cases kq with
 | zero => exact absurd HA.out (by simp [newswireref11_Weekday.j0])
 | succ kj2 =>
  have H := HA.out; clear HA; simp only [newswireref11_Weekday.j0] at H
  by_cases c5 : x13_2 = true
  ·subst c5
   replace H := ip H
   simp only [Option.some.injEq, Prod.mk.injEq] at H; obtain ⟨rfl, rfl⟩ := H
   go_wp2
   go_ret2
   exact ⟨er, by exact bes HB.out⟩
  replace c5 := Bool.eq_false_iff.mpr c5; subst c5; replace H := inn H
  replace H := bm H; obtain ⟨⟨t265, t266⟩, A60, H⟩ := H; replace H : ((newswireref11_name.f t266 a1).bind fun bt271 => (some (bt271.1, bt271.2))) = some (r1, r2) := H; have A6 := am A60; clear A60; replace H := bm H; obtain ⟨⟨t271, t272⟩, A70, H⟩ := H; replace H : (some (t271, t272)) = some (r1, r2) := H; have A7 := am A70; clear A70; simp only [Option.some.injEq, Prod.mk.injEq] at H; obtain ⟨rfl, rfl⟩ := H
  go_wp2_with (first | ((with_reducible refine gate_callee (f := 50) rfl ?_); refine gL (some 16) rfl rfl Tryd.func50 #[.int .i64 a0] ?_; (refine (newswireref11_names.calls a0 t265 t266 _ A6.out).mono ?_); rintro e w8 ⟨v267, v269, rfl, ho0, ho1, hb⟩; refine ⟨_, rfl, ?_⟩; have HO268 := am (Kd.R_lower ho0 (below_size (bes HB.out))); have HO270 := am (Kd.R_lower ho1 (below_size (bes HB.out))); replace HB := bsp HB hb; (try clear hb); (try clear ho0); (try clear ho1); obtain ⟨Ao9, co9, eo9⟩ := Kd.R_slice HO270.out; subst eo9) | ((with_reducible refine gate_callee (f := 51) rfl ?_); refine gL (some 21) rfl rfl Tryd.func51 #[.slice Ao9 t266.length co9, .int .i64 a1] ?_; (refine (newswireref11_name.calls _ _ t266 a1 t271 t272 _ ?_ ?_ A7.out).mono ?_); exact C_st ((Kd.R_reads' HO270.out).2.2); exact (Kd.R_reads' HO270.out).2.1; rintro e w' ⟨rfl, ⟨nd, rfl⟩⟩; refine ⟨_, rfl, ?_⟩))
  go_ret2
  exact ⟨er, by exact bes HB.out⟩

/-! ### newswireref11_MonthOf: function 27 -/
def newswireref11_MonthOf.l0 : Nat → Int → ByteArray → Int → Option (Int × Int)
 | 0, _, _, _ => none
 | k + 1, x0, x1, x6 => if x6 ≤ 12 then ((newswireref11_Month.f k x0 x6).bind fun bt273 => (if bt273.2 = 0 then (if bt273.1.toList = x1.toList then (some (x6, 0)) else (newswireref11_MonthOf.l0 k x0 x1 (wrap64 (x6 + 1)))) else (newswireref11_MonthOf.l0 k x0 x1 (wrap64 (x6 + 1))))) else (some (0, 110))
def newswireref11_MonthOf.f (k : Nat) (a0 : Int) (a1 : ByteArray) : Option (Int × Int) := newswireref11_MonthOf.l0 k a0 a1 1
theorem newswireref11_MonthOf.mono_l : ∀ k, (∀ y0 y1 y2, LeO (newswireref11_MonthOf.l0 k y0 y1 y2) (newswireref11_MonthOf.l0 (k + 1) y0 y1 y2))
 | 0 => fun _ _ _ r h => by simp [newswireref11_MonthOf.l0] at h
 | k + 1 => by
  have ih0 := newswireref11_MonthOf.mono_l k
  intro y0 y1 y2
  unfold newswireref11_MonthOf.l0
  repeat' first
  | (with_reducible exact ih0 _ _ _)
  | (with_reducible exact newswireref11_Month.mono _ _ _)
  | (with_reducible exact LeO.refl _)
  | (with_reducible exact LeO.none _)
  | (with_reducible refine LeO.ite ?_ ?_)
  | (with_reducible refine LeO.bind ?_ (fun _ => ?_))
theorem newswireref11_MonthOf.mono : ∀ a0 a1 k, LeO (newswireref11_MonthOf.f k a0 a1) (newswireref11_MonthOf.f (k + 1) a0 a1) := by
 intro a0 a1 k; have ih0 := newswireref11_MonthOf.mono_l k
 unfold newswireref11_MonthOf.f
 repeat' first
   | (with_reducible exact ih0 _ _ _)
   | (with_reducible exact newswireref11_Month.mono _ _ _)
   | (with_reducible exact LeO.refl _)
   | (with_reducible exact LeO.none _)
   | (with_reducible refine LeO.ite ?_ ?_)
   | (with_reducible refine LeO.bind ?_ (fun _ => ?_))
theorem newswireref11_MonthOf.calls (k : Nat) (a0 : Int) (a1 : ByteArray) (r1 : Int) (r2 : Int) (w : World) (h : newswireref11_MonthOf.f k a0 a1 = some (r1, r2)) :
  Calls Tryd.prog 27 #[.int .i64 a0, .string a1] w fun e w' => e = .returned (.tuple #[.int .i64 r1, .int .i64 r2]) ∧ Below w.heap.size w w' := by
 have HB := am (Below.refl w.heap.size w)
 have H : (newswireref11_MonthOf.l0 k a0 a1 1) = some (r1, r2) := h; clear h
 have H' := am H; clear H
 go_enter Tryd.func27, Tryd.ntmps27
 go_wp2
 go_loopg [6] k (fun kq v6 w' => ∃ (x6_1 : Int), v6 = .int .i64 x6_1 ∧ Aside0 (newswireref11_MonthOf.l0 kq a0 a1 x6_1 = some (r1, r2)) ∧ Aside0 (kq ≤ k) ∧ Aside0 (Below w.heap.size w w'))
 case atStart => exact ⟨(1), cd, H', ⟨Nat.le_refl _⟩, ⟨by exact bes HB.out⟩⟩
 clear H'
 try clear c2
 try clear p2
 obtain ⟨x6_1, rfl, HA, HK1, HB⟩ := hrel
 cases gk with
 | zero => exact absurd HA.out (by simp [newswireref11_MonthOf.l0])
 | succ k1 =>
  have H := HA.out; clear HA; simp only [newswireref11_MonthOf.l0] at H
  by_cases c3 : x6_1 ≤ 12; rotate_left
  ·rw [if_neg c3] at H
   have c3b0 := dF c3; clear c3; simp only [Option.some.injEq, Prod.mk.injEq] at H; obtain ⟨rfl, rfl⟩ := H
   go_wp2
   go_ret2
   exact ⟨er, by exact bes HB.out⟩
  rw [if_pos c3] at H
  have c3b0 := dT c3; clear c3; replace H := bm H; obtain ⟨⟨t273, t274⟩, A40, H⟩ := H; replace H : (if t274 = 0 then (if t273.toList = a1.toList then (some (x6_1, 0)) else (newswireref11_MonthOf.l0 k1 a0 a1 (wrap64 (x6_1 + 1)))) else (newswireref11_MonthOf.l0 k1 a0 a1 (wrap64 (x6_1 + 1)))) = some (r1, r2) := H; have A4 := am A40; clear A40
  by_cases c5 : t274 = 0; rotate_left
  ·rw [if_neg c5] at H
   have c5b0 := bF c5
   have c5b1 := nT c5
   have H' := am H; clear H
   go_wp2_with (first | ((with_reducible refine gate_callee (f := 23) rfl ?_); refine gL (some 16) rfl rfl Tryd.func23 #[.int .i64 a0, .int .i64 x6_1] ?_; (refine (newswireref11_Month.calls k1 a0 x6_1 t273 t274 _ A4.out).mono ?_); rintro e w9 ⟨rfl, hb⟩; refine ⟨_, rfl, ?_⟩; replace HB := bsp HB hb; (try clear hb)))
   go_roundg k1
   case measure => have := HK1.out; omega
   case rel => exact ⟨(wrap64 (x6_1 + 1)), cd, H', ⟨by have := HK1.out; omega⟩, ⟨by exact bes HB.out⟩⟩
  rw [if_pos c5] at H
  have c5b0 := bT c5
  have c5b1 := nF c5; clear c5
  by_cases c6 : t273.toList = a1.toList
  ·rw [if_pos c6] at H
   have c6b0 := bT c6
   have c6b1 := nF c6; clear c6; simp only [Option.some.injEq, Prod.mk.injEq] at H; obtain ⟨rfl, rfl⟩ := H
   go_wp2_with (first | ((with_reducible refine gate_callee (f := 23) rfl ?_); refine gL (some 16) rfl rfl Tryd.func23 #[.int .i64 a0, .int .i64 x6_1] ?_; (refine (newswireref11_Month.calls k1 a0 x6_1 t273 t274 _ A4.out).mono ?_); rintro e w7 ⟨rfl, hb⟩; refine ⟨_, rfl, ?_⟩; replace HB := bsp HB hb; (try clear hb)))
   go_ret2
   exact ⟨er, by exact bes HB.out⟩
  rw [if_neg c6] at H
  have c6b0 := bF c6
  have c6b1 := nT c6
  have H' := am H; clear H
  go_wp2_with (first | ((with_reducible refine gate_callee (f := 23) rfl ?_); refine gL (some 16) rfl rfl Tryd.func23 #[.int .i64 a0, .int .i64 x6_1] ?_; (refine (newswireref11_Month.calls k1 a0 x6_1 t273 t274 _ A4.out).mono ?_); rintro e w8 ⟨rfl, hb⟩; refine ⟨_, rfl, ?_⟩; replace HB := bsp HB hb; (try clear hb)))
  go_roundg k1
  case measure => have := HK1.out; omega
  case rel => exact ⟨(wrap64 (x6_1 + 1)), cd, H', ⟨by have := HK1.out; omega⟩, ⟨by exact bes HB.out⟩⟩

/-! ### newswireref11_WeekdayOf: function 29 -/
def newswireref11_WeekdayOf.l0 : Nat → Int → ByteArray → Int → Option (Int × Int)
 | 0, _, _, _ => none
 | k + 1, x0, x1, x6 => if x6 < 7 then ((newswireref11_Weekday.f k x0 x6).bind fun bt275 => (if bt275.2 = 0 then (if bt275.1.toList = x1.toList then (some (x6, 0)) else (newswireref11_WeekdayOf.l0 k x0 x1 (wrap64 (x6 + 1)))) else (newswireref11_WeekdayOf.l0 k x0 x1 (wrap64 (x6 + 1))))) else (some (0, 110))
def newswireref11_WeekdayOf.f (k : Nat) (a0 : Int) (a1 : ByteArray) : Option (Int × Int) := newswireref11_WeekdayOf.l0 k a0 a1 0
theorem newswireref11_WeekdayOf.mono_l : ∀ k, (∀ y0 y1 y2, LeO (newswireref11_WeekdayOf.l0 k y0 y1 y2) (newswireref11_WeekdayOf.l0 (k + 1) y0 y1 y2))
 | 0 => fun _ _ _ r h => by simp [newswireref11_WeekdayOf.l0] at h
 | k + 1 => by
  have ih0 := newswireref11_WeekdayOf.mono_l k
  intro y0 y1 y2
  unfold newswireref11_WeekdayOf.l0
  repeat' first
  | (with_reducible exact ih0 _ _ _)
  | (with_reducible exact newswireref11_Weekday.mono _ _ _)
  | (with_reducible exact LeO.refl _)
  | (with_reducible exact LeO.none _)
  | (with_reducible refine LeO.ite ?_ ?_)
  | (with_reducible refine LeO.bind ?_ (fun _ => ?_))
theorem newswireref11_WeekdayOf.mono : ∀ a0 a1 k, LeO (newswireref11_WeekdayOf.f k a0 a1) (newswireref11_WeekdayOf.f (k + 1) a0 a1) := by
 intro a0 a1 k; have ih0 := newswireref11_WeekdayOf.mono_l k
 unfold newswireref11_WeekdayOf.f
 repeat' first
   | (with_reducible exact ih0 _ _ _)
   | (with_reducible exact newswireref11_Weekday.mono _ _ _)
   | (with_reducible exact LeO.refl _)
   | (with_reducible exact LeO.none _)
   | (with_reducible refine LeO.ite ?_ ?_)
   | (with_reducible refine LeO.bind ?_ (fun _ => ?_))
theorem newswireref11_WeekdayOf.calls (k : Nat) (a0 : Int) (a1 : ByteArray) (r1 : Int) (r2 : Int) (w : World) (h : newswireref11_WeekdayOf.f k a0 a1 = some (r1, r2)) :
  Calls Tryd.prog 29 #[.int .i64 a0, .string a1] w fun e w' => e = .returned (.tuple #[.int .i64 r1, .int .i64 r2]) ∧ Below w.heap.size w w' := by
 have HB := am (Below.refl w.heap.size w)
 have H : (newswireref11_WeekdayOf.l0 k a0 a1 0) = some (r1, r2) := h; clear h
 have H' := am H; clear H
 go_enter Tryd.func29, Tryd.ntmps29
 go_wp2
 go_loopg [6] k (fun kq v6 w' => ∃ (x6_1 : Int), v6 = .int .i64 x6_1 ∧ Aside0 (newswireref11_WeekdayOf.l0 kq a0 a1 x6_1 = some (r1, r2)) ∧ Aside0 (kq ≤ k) ∧ Aside0 (Below w.heap.size w w'))
 case atStart => exact ⟨(0), cd, H', ⟨Nat.le_refl _⟩, ⟨by exact bes HB.out⟩⟩
 clear H'
 try clear c2
 try clear p2
 obtain ⟨x6_1, rfl, HA, HK1, HB⟩ := hrel
 cases gk with
 | zero => exact absurd HA.out (by simp [newswireref11_WeekdayOf.l0])
 | succ k1 =>
  have H := HA.out; clear HA; simp only [newswireref11_WeekdayOf.l0] at H
  by_cases c3 : x6_1 < 7; rotate_left
  ·rw [if_neg c3] at H
   have c3b0 := dF c3; clear c3; simp only [Option.some.injEq, Prod.mk.injEq] at H; obtain ⟨rfl, rfl⟩ := H
   go_wp2
   go_ret2
   exact ⟨er, by exact bes HB.out⟩
  rw [if_pos c3] at H
  have c3b0 := dT c3; clear c3; replace H := bm H; obtain ⟨⟨t275, t276⟩, A40, H⟩ := H; replace H : (if t276 = 0 then (if t275.toList = a1.toList then (some (x6_1, 0)) else (newswireref11_WeekdayOf.l0 k1 a0 a1 (wrap64 (x6_1 + 1)))) else (newswireref11_WeekdayOf.l0 k1 a0 a1 (wrap64 (x6_1 + 1)))) = some (r1, r2) := H; have A4 := am A40; clear A40
  by_cases c5 : t276 = 0; rotate_left
  ·rw [if_neg c5] at H
   have c5b0 := bF c5
   have c5b1 := nT c5
   have H' := am H; clear H
   go_wp2_with (first | ((with_reducible refine gate_callee (f := 25) rfl ?_); refine gL (some 16) rfl rfl Tryd.func25 #[.int .i64 a0, .int .i64 x6_1] ?_; (refine (newswireref11_Weekday.calls k1 a0 x6_1 t275 t276 _ A4.out).mono ?_); rintro e w9 ⟨rfl, hb⟩; refine ⟨_, rfl, ?_⟩; replace HB := bsp HB hb; (try clear hb)))
   go_roundg k1
   case measure => have := HK1.out; omega
   case rel => exact ⟨(wrap64 (x6_1 + 1)), cd, H', ⟨by have := HK1.out; omega⟩, ⟨by exact bes HB.out⟩⟩
  rw [if_pos c5] at H
  have c5b0 := bT c5
  have c5b1 := nF c5; clear c5
  by_cases c6 : t275.toList = a1.toList
  ·rw [if_pos c6] at H
   have c6b0 := bT c6
   have c6b1 := nF c6; clear c6; simp only [Option.some.injEq, Prod.mk.injEq] at H; obtain ⟨rfl, rfl⟩ := H
   go_wp2_with (first | ((with_reducible refine gate_callee (f := 25) rfl ?_); refine gL (some 16) rfl rfl Tryd.func25 #[.int .i64 a0, .int .i64 x6_1] ?_; (refine (newswireref11_Weekday.calls k1 a0 x6_1 t275 t276 _ A4.out).mono ?_); rintro e w7 ⟨rfl, hb⟩; refine ⟨_, rfl, ?_⟩; replace HB := bsp HB hb; (try clear hb)))
   go_ret2
   exact ⟨er, by exact bes HB.out⟩
  rw [if_neg c6] at H
  have c6b0 := bF c6
  have c6b1 := nT c6
  have H' := am H; clear H
  go_wp2_with (first | ((with_reducible refine gate_callee (f := 25) rfl ?_); refine gL (some 16) rfl rfl Tryd.func25 #[.int .i64 a0, .int .i64 x6_1] ?_; (refine (newswireref11_Weekday.calls k1 a0 x6_1 t275 t276 _ A4.out).mono ?_); rintro e w8 ⟨rfl, hb⟩; refine ⟨_, rfl, ?_⟩; replace HB := bsp HB hb; (try clear hb)))
  go_roundg k1
  case measure => have := HK1.out; omega
  case rel => exact ⟨(wrap64 (x6_1 + 1)), cd, H', ⟨by have := HK1.out; omega⟩, ⟨by exact bes HB.out⟩⟩

end Go.Proofs.YtjgobfbjmlacjaaDoor.XM
