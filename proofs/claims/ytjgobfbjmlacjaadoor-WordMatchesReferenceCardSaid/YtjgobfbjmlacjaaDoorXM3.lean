-- Written by wip/xprint.py (a driver of mine over the kit's printer) for this claim.
import Derived.Test.YtjgobfbjmlacjaaDoorXM0
import Derived.Test.YtjgobfbjmlacjaaDoorXM1
import Derived.Test.YtjgobfbjmlacjaaDoorXM2
namespace Go.Proofs.YtjgobfbjmlacjaaDoor.XM
open Go.RowKit Go.Proofs.YtjgobfbjmlacjaaDoorW.PrintWords Go.Proofs.YtjgobfbjmlacjaaDoorW.PrintLast Go.Proofs.YtjgobfbjmlacjaaDoorW.PrintMore
open Bool renaming true → tt, false → ff
open _root_.ByteArray renaming mk → B_
attribute [local go_sem] max2_int min2_int max_two min_two max_three min_three max_four min_four   -- for this text's walks alone
set_option maxHeartbeats 8000000
set_option maxRecDepth 100000
set_option linter.unusedVariables false
set_option linter.unusedSimpArgs false

/-! ### newswireref11_Is: function 30 -/
mutual
def newswireref11_Is.j0 : Nat → Int → ByteArray → Bool → Option (Bool)
 | 0, _, _, _ => none
 | k + 1, x0, x1, x20 => if x20 = true then (some false) else ((some (([(B_ #[]), (B_ #[101,102,104,110,111,115,116,122]), (B_ #[97,100,101,102,104,110,115,116,118,122]), (B_ #[99,100,109,110,111,113,115,116,117,118,121])] : List ByteArray) : List ByteArray)).bind fun y277 => (if 0 ≤ x0 then (if x0 < (y277.length : Int) then (newswireref11_Is.l0 k x0 x1 (rdOf ByteArray.empty y277 x0) false 0) else (none)) else (none)))
def newswireref11_Is.j2 : Nat → Int → ByteArray → Bool → Option (Bool)
 | 0, _, _, _ => none
 | k + 1, x0, x1, x6 => if x6 = true then ((newswireref11_units.f x0).bind fun t281 => (if 0 < (t281.length : Int) then (if x1.toList = (rdOf ByteArray.empty t281 0).toList then (some true) else (newswireref11_Is.l1 k x0 x1 false 0)) else (none))) else (some false)
def newswireref11_Is.l1 : Nat → Int → ByteArray → Bool → Int → Option (Bool)
 | 0, _, _, _, _ => none
 | k + 1, x0, x1, x8, x9 => if (wrap64 (x9 + 7)) ≤ (x1.size : Int) then (if x8 = true then (newswireref11_Is.l1 k x0 x1 true (wrap64 (x9 + 1))) else (if 0 ≤ x9 then (if x9 ≤ (wrap64 (x9 + 7)) then (newswireref11_Is.l1 k x0 x1 ((x1.extract (x9 : Int).toNat ((wrap64 (x9 + 7)) : Int).toNat).toList == ([104, 117, 110, 100, 101, 114, 116] : List UInt8)) (wrap64 (x9 + 1))) else (none)) else (none))) else (newswireref11_Is.l2 k x0 x1 x8 1)
def newswireref11_Is.l2 : Nat → Int → ByteArray → Bool → Int → Option (Bool)
 | 0, _, _, _, _ => none
 | k + 1, x0, x1, x8, x10 => if x10 < 1000 then (if x10 > 99 then (if (Int.tmod x10 100) > 1 then (newswireref11_Is.j5 k x0 x1 x8 x10 (!x8)) else (newswireref11_Is.j5 k x0 x1 x8 x10 false)) else (newswireref11_Is.j5 k x0 x1 x8 x10 false)) else (some false)
def newswireref11_Is.j5 : Nat → Int → ByteArray → Bool → Int → Bool → Option (Bool)
 | 0, _, _, _, _, _ => none
 | k + 1, x0, x1, x8, x10, x82 => if x82 = true then (newswireref11_Is.l2 k x0 x1 x8 (wrap64 (x10 + 1))) else ((newswireref11_small.f k x0 x10 true).bind fun t285 => ((newswireref11_thousand.f k x0 x10).bind fun t288 => (newswireref11_Is.l3 k x0 x1 x8 x10 t285 t288 0)))
def newswireref11_Is.l3 : Nat → Int → ByteArray → Bool → Int → List ByteArray → List ByteArray → Int → Option (Bool)
 | 0, _, _, _, _, _, _, _ => none
 | k + 1, x0, x1, x8, x10, x11, x12, x13 => if x13 < (x11.length : Int) then (if 0 ≤ x13 then (if (rdOf ByteArray.empty x11 x13).toList = x1.toList then (some true) else (newswireref11_Is.l3 k x0 x1 x8 x10 x11 x12 (wrap64 (x13 + 1)))) else (none)) else (newswireref11_Is.l4 k x0 x1 x8 x10 x12 0)
def newswireref11_Is.l4 : Nat → Int → ByteArray → Bool → Int → List ByteArray → Int → Option (Bool)
 | 0, _, _, _, _, _, _ => none
 | k + 1, x0, x1, x8, x10, x12, x14 => if x14 < (x12.length : Int) then (if 0 ≤ x14 then (if (rdOf ByteArray.empty x12 x14).toList = x1.toList then (some true) else (newswireref11_Is.l4 k x0 x1 x8 x10 x12 (wrap64 (x14 + 1)))) else (none)) else (newswireref11_Is.l2 k x0 x1 x8 (wrap64 (x10 + 1)))
def newswireref11_Is.l0 : Nat → Int → ByteArray → ByteArray → Bool → Int → Option (Bool)
 | 0, _, _, _, _, _ => none
 | k + 1, x0, x1, x5, x6, x7 => if x7 < (x5.size : Int) then (if x1.toList = ([] : List UInt8) then (newswireref11_Is.j2 k x0 x1 x6) else (if x6 = true then (newswireref11_Is.l0 k x0 x1 x5 true (wrap64 (x7 + 1))) else (if 0 ≤ x7 then (if 0 < (x1.size : Int) then (newswireref11_Is.l0 k x0 x1 x5 ((bt x5 x7) == (bt x1 0)) (wrap64 (x7 + 1))) else (none)) else (none)))) else (newswireref11_Is.j2 k x0 x1 x6)
end
def newswireref11_Is.f (k : Nat) (a0 : Int) (a1 : ByteArray) : Option (Bool) := if a0 < 1 then (newswireref11_Is.j0 k a0 a1 true) else (newswireref11_Is.j0 k a0 a1 (decide (a0 > 3)))
theorem newswireref11_Is.mono_l : ∀ k, (∀ y0 y1 y2, LeO (newswireref11_Is.j0 k y0 y1 y2) (newswireref11_Is.j0 (k + 1) y0 y1 y2)) ∧ (∀ y0 y1 y2, LeO (newswireref11_Is.j2 k y0 y1 y2) (newswireref11_Is.j2 (k + 1) y0 y1 y2)) ∧ (∀ y0 y1 y2 y3, LeO (newswireref11_Is.l1 k y0 y1 y2 y3) (newswireref11_Is.l1 (k + 1) y0 y1 y2 y3)) ∧ (∀ y0 y1 y2 y3, LeO (newswireref11_Is.l2 k y0 y1 y2 y3) (newswireref11_Is.l2 (k + 1) y0 y1 y2 y3)) ∧ (∀ y0 y1 y2 y3 y4, LeO (newswireref11_Is.j5 k y0 y1 y2 y3 y4) (newswireref11_Is.j5 (k + 1) y0 y1 y2 y3 y4)) ∧ (∀ y0 y1 y2 y3 y4 y5 y6, LeO (newswireref11_Is.l3 k y0 y1 y2 y3 y4 y5 y6) (newswireref11_Is.l3 (k + 1) y0 y1 y2 y3 y4 y5 y6)) ∧ (∀ y0 y1 y2 y3 y4 y5, LeO (newswireref11_Is.l4 k y0 y1 y2 y3 y4 y5) (newswireref11_Is.l4 (k + 1) y0 y1 y2 y3 y4 y5)) ∧ (∀ y0 y1 y2 y3 y4, LeO (newswireref11_Is.l0 k y0 y1 y2 y3 y4) (newswireref11_Is.l0 (k + 1) y0 y1 y2 y3 y4))
 | 0 => ⟨fun _ _ _ r h => by simp [newswireref11_Is.j0] at h, fun _ _ _ r h => by simp [newswireref11_Is.j2] at h, fun _ _ _ _ r h => by simp [newswireref11_Is.l1] at h, fun _ _ _ _ r h => by simp [newswireref11_Is.l2] at h, fun _ _ _ _ _ r h => by simp [newswireref11_Is.j5] at h, fun _ _ _ _ _ _ _ r h => by simp [newswireref11_Is.l3] at h, fun _ _ _ _ _ _ r h => by simp [newswireref11_Is.l4] at h, fun _ _ _ _ _ r h => by simp [newswireref11_Is.l0] at h⟩
 | k + 1 => by
  obtain ⟨ih0, ih1, ih2, ih3, ih4, ih5, ih6, ih7⟩ := newswireref11_Is.mono_l k
  refine ⟨?_, ?_, ?_, ?_, ?_, ?_, ?_, ?_⟩
  all_goals
   intros; first | unfold newswireref11_Is.j0 | unfold newswireref11_Is.j2 | unfold newswireref11_Is.l1 | unfold newswireref11_Is.l2 | unfold newswireref11_Is.j5 | unfold newswireref11_Is.l3 | unfold newswireref11_Is.l4 | unfold newswireref11_Is.l0
   repeat' first
   | (with_reducible exact ih0 _ _ _)
   | (with_reducible exact ih1 _ _ _)
   | (with_reducible exact ih2 _ _ _ _)
   | (with_reducible exact ih3 _ _ _ _)
   | (with_reducible exact ih4 _ _ _ _ _)
   | (with_reducible exact ih5 _ _ _ _ _ _ _)
   | (with_reducible exact ih6 _ _ _ _ _ _)
   | (with_reducible exact ih7 _ _ _ _ _)
   | (with_reducible exact newswireref11_small.mono _ _ _ _)
   | (with_reducible exact newswireref11_thousand.mono _ _ _)
   | (with_reducible exact LeO.refl _)
   | (with_reducible exact LeO.none _)
   | (with_reducible refine LeO.ite ?_ ?_)
   | (with_reducible refine LeO.bind ?_ (fun _ => ?_))
theorem newswireref11_Is.mono : ∀ a0 a1 k, LeO (newswireref11_Is.f k a0 a1) (newswireref11_Is.f (k + 1) a0 a1) := by
 intro a0 a1 k; obtain ⟨ih0, ih1, ih2, ih3, ih4, ih5, ih6, ih7⟩ := newswireref11_Is.mono_l k
 unfold newswireref11_Is.f
 repeat' first
   | (with_reducible exact ih0 _ _ _)
   | (with_reducible exact ih1 _ _ _)
   | (with_reducible exact ih2 _ _ _ _)
   | (with_reducible exact ih3 _ _ _ _)
   | (with_reducible exact ih4 _ _ _ _ _)
   | (with_reducible exact ih5 _ _ _ _ _ _ _)
   | (with_reducible exact ih6 _ _ _ _ _ _)
   | (with_reducible exact ih7 _ _ _ _ _)
   | (with_reducible exact newswireref11_small.mono _ _ _ _)
   | (with_reducible exact newswireref11_thousand.mono _ _ _)
   | (with_reducible exact LeO.refl _)
   | (with_reducible exact LeO.none _)
   | (with_reducible refine LeO.ite ?_ ?_)
   | (with_reducible refine LeO.bind ?_ (fun _ => ?_))
theorem newswireref11_Is.calls (k : Nat) (a0 : Int) (a1 : ByteArray) (r : Bool) (w : World) (h : newswireref11_Is.f k a0 a1 = some r) :
  Calls Tryd.prog 30 #[.int .i64 a0, .string a1] w fun e w' => e = .returned (.bool r) ∧ Below w.heap.size w w' := by
 have HB := am (Below.refl w.heap.size w)
 have H := h; clear h; unfold newswireref11_Is.f at H; have HC3 := am H; clear H
 go_enter Tryd.func30, Tryd.ntmps30
 go_upto_region 1 with (fail)
 repeat (go_quiet (fail); go_upto_region 1 with (fail))
 go_cut [20] (fun v20 wc => ∃ (kq : Nat) (x20_2 : Bool), v20 = .bool x20_2 ∧ Aside0 (newswireref11_Is.j0 kq a0 a1 x20_2 = some r) ∧ Aside0 (kq ≤ k) ∧ Aside0 (Below w.heap.size w wc))
 case first =>
  have H := HC3.out; clear HC3
  by_cases c4 : a0 < 1
  ·rw [if_pos c4] at H
   have c4b0 := dT c4; clear c4
   (first | rw [c4b0] | (simp only [i64_w, i32_w]; rw [c4b0]) | skip)
   have H' := am H; clear H
   go_wp2
   repeat (go_quiet (fail); try go_wp2)
   go_meet
   case rel => exact ⟨_, (true), cd, H', ⟨om⟩, ⟨by exact bes HB.out⟩⟩
  rw [if_neg c4] at H
  have c4b0 := dF c4; clear c4
  (first | rw [c4b0] | (simp only [i64_w, i32_w]; rw [c4b0]) | skip)
  have H' := am H; clear H
  go_wp2
  repeat (go_quiet (fail); try go_wp2)
  go_meet
  case rel => exact ⟨_, (decide (a0 > 3)), cd, H', ⟨om⟩, ⟨by exact bes HB.out⟩⟩
 clear HC3
 try clear p2
 try clear c3
 try clear c4
 try clear c4b0
 obtain ⟨kq, x20_2, rfl, HA, HJ2, HB⟩ := hcut
 cases kq with
 | zero => exact absurd HA.out (by simp [newswireref11_Is.j0])
 | succ kj2 =>
  have H := HA.out; clear HA; simp only [newswireref11_Is.j0] at H
  by_cases c5 : x20_2 = true
  ·subst c5
   replace H := ip H
   obtain rfl := Option.some.inj H
   go_wp2
   repeat (go_quiet (fail); try go_wp2)
   go_ret
   exact ⟨er, by exact bes HB.out⟩
  replace c5 := Bool.eq_false_iff.mpr c5; subst c5; replace H := inn H
  obtain ⟨y277, hy277⟩ : ∃ y_ : List ByteArray, y_ = (([(B_ #[]), (B_ #[101,102,104,110,111,115,116,122]), (B_ #[97,100,101,102,104,110,115,116,118,122]), (B_ #[99,100,109,110,111,113,115,116,117,118,121])] : List ByteArray)) := ⟨_, rfl⟩; replace H : (if 0 ≤ a0 then (if a0 < (y277.length : Int) then (newswireref11_Is.l0 kj2 a0 a1 (rdOf ByteArray.empty y277 a0) false 0) else (none)) else (none)) = some r := by first | (rw [hy277]; with_reducible exact H) | (have H2_ := (Option.bind_some _ _).symm.trans H; rw [hy277]; with_reducible exact H2_) | (have H2_ := (Option.bind_some _ _).symm.trans H; with_reducible exact H2_) | with_reducible exact H | (rw [hy277]; exact H) | exact H
  have Ny277 := am hy277; clear hy277
  by_cases c6 : 0 ≤ a0; rotate_left
  ·rw [if_neg c6] at H
   exact absurd H (by simp)
  rw [if_pos c6] at H
  have c6b0 := dT c6; clear c6
  by_cases c7 : a0 < (y277.length : Int); rotate_left
  ·rw [if_neg c7] at H
   exact absurd H (by simp)
  rw [if_pos c7] at H
  have c7b0 := dT c7; clear c7; have HC8 := am H; clear H
  go_upto_block 0 with (first | ((with_reducible refine gate_dst (N := 21) rfl ?_); refine Kd.R_lit Kd.string _ 9 ?hg (N := 21) ?hd (xs := ([(B_ #[]), (B_ #[101,102,104,110,111,115,116,122]), (B_ #[97,100,101,102,104,110,115,116,118,122]), (B_ #[99,100,109,110,111,113,115,116,117,118,121])] : List ByteArray)) (inner := [.string (B_ #[]), .string (B_ #[101,102,104,110,111,115,116,122]), .string (B_ #[97,100,101,102,104,110,115,116,118,122]), .string (B_ #[99,100,109,110,111,113,115,116,117,118,121])]) (ok := fun _ => True) (okp := fun _ => True) ?hr ?hp (fun _ hk => hk) trivial (Below.refl _ _) (Nat.le_refl _) (by simp) ?_; (case hd => rfl); (case hg => rfl); (case hr => first | (go_simp; done) | (go_simp; rfl)); (case hp => exact (Reps.one (show Kd.M Kd.string _ _ _ (B_ #[]) [.string (B_ #[])] from rfl) (Reps.one (show Kd.M Kd.string _ _ _ (B_ #[101,102,104,110,111,115,116,122]) [.string (B_ #[101,102,104,110,111,115,116,122])] from rfl) (Reps.one (show Kd.M Kd.string _ _ _ (B_ #[97,100,101,102,104,110,115,116,118,122]) [.string (B_ #[97,100,101,102,104,110,115,116,118,122])] from rfl) (Reps.one (show Kd.M Kd.string _ _ _ (B_ #[99,100,109,110,111,113,115,116,117,118,121]) [.string (B_ #[99,100,109,110,111,113,115,116,117,118,121])] from rfl) (Reps.none _ _)))))); intro v278 w9 ho10 hb hg_ hnew_; clear hg_ hnew_; (first | rw [← Ny277.out] at ho10 | (simp only [Int.reduceToNat] at ho10; rw [← Ny277.out] at ho10)); have HO279 := am (Kd.R_lower ho10 (below_size (bes HB.out))); replace HB := bsp HB hb; clear hb ho10; obtain ⟨Ao11, co11, eo11⟩ := Kd.R_slice HO279.out; subst eo11; have p280 : 0 ≤ (a0 : Int) := of_decide_eq_true (by assumption); have q280 : a0 < (y277.length : Int) := of_decide_eq_true (by assumption); obtain ⟨ad280, e280, hx280_0⟩ := Kd.at_string (Kd.R_reads' HO279.out).2.2 a0 p280 q280; cases e280; replace p280 := eq_true p280; replace q280 := eq_true q280))
  repeat (go_quiet (first | ((with_reducible refine gate_dst (N := 21) rfl ?_); refine Kd.R_lit Kd.string _ 9 ?hg (N := 21) ?hd (xs := ([(B_ #[]), (B_ #[101,102,104,110,111,115,116,122]), (B_ #[97,100,101,102,104,110,115,116,118,122]), (B_ #[99,100,109,110,111,113,115,116,117,118,121])] : List ByteArray)) (inner := [.string (B_ #[]), .string (B_ #[101,102,104,110,111,115,116,122]), .string (B_ #[97,100,101,102,104,110,115,116,118,122]), .string (B_ #[99,100,109,110,111,113,115,116,117,118,121])]) (ok := fun _ => True) (okp := fun _ => True) ?hr ?hp (fun _ hk => hk) trivial (Below.refl _ _) (Nat.le_refl _) (by simp) ?_; (case hd => rfl); (case hg => rfl); (case hr => first | (go_simp; done) | (go_simp; rfl)); (case hp => exact (Reps.one (show Kd.M Kd.string _ _ _ (B_ #[]) [.string (B_ #[])] from rfl) (Reps.one (show Kd.M Kd.string _ _ _ (B_ #[101,102,104,110,111,115,116,122]) [.string (B_ #[101,102,104,110,111,115,116,122])] from rfl) (Reps.one (show Kd.M Kd.string _ _ _ (B_ #[97,100,101,102,104,110,115,116,118,122]) [.string (B_ #[97,100,101,102,104,110,115,116,118,122])] from rfl) (Reps.one (show Kd.M Kd.string _ _ _ (B_ #[99,100,109,110,111,113,115,116,117,118,121]) [.string (B_ #[99,100,109,110,111,113,115,116,117,118,121])] from rfl) (Reps.none _ _)))))); intro v278 w9 ho10 hb hg_ hnew_; clear hg_ hnew_; (first | rw [← Ny277.out] at ho10 | (simp only [Int.reduceToNat] at ho10; rw [← Ny277.out] at ho10)); have HO279 := am (Kd.R_lower ho10 (below_size (bes HB.out))); replace HB := bsp HB hb; clear hb ho10; obtain ⟨Ao11, co11, eo11⟩ := Kd.R_slice HO279.out; subst eo11; have p280 : 0 ≤ (a0 : Int) := of_decide_eq_true (by assumption); have q280 : a0 < (y277.length : Int) := of_decide_eq_true (by assumption); obtain ⟨ad280, e280, hx280_0⟩ := Kd.at_string (Kd.R_reads' HO279.out).2.2 a0 p280 q280; cases e280; replace p280 := eq_true p280; replace q280 := eq_true q280)); go_upto_block 0 with (first | ((with_reducible refine gate_dst (N := 21) rfl ?_); refine Kd.R_lit Kd.string _ 9 ?hg (N := 21) ?hd (xs := ([(B_ #[]), (B_ #[101,102,104,110,111,115,116,122]), (B_ #[97,100,101,102,104,110,115,116,118,122]), (B_ #[99,100,109,110,111,113,115,116,117,118,121])] : List ByteArray)) (inner := [.string (B_ #[]), .string (B_ #[101,102,104,110,111,115,116,122]), .string (B_ #[97,100,101,102,104,110,115,116,118,122]), .string (B_ #[99,100,109,110,111,113,115,116,117,118,121])]) (ok := fun _ => True) (okp := fun _ => True) ?hr ?hp (fun _ hk => hk) trivial (Below.refl _ _) (Nat.le_refl _) (by simp) ?_; (case hd => rfl); (case hg => rfl); (case hr => first | (go_simp; done) | (go_simp; rfl)); (case hp => exact (Reps.one (show Kd.M Kd.string _ _ _ (B_ #[]) [.string (B_ #[])] from rfl) (Reps.one (show Kd.M Kd.string _ _ _ (B_ #[101,102,104,110,111,115,116,122]) [.string (B_ #[101,102,104,110,111,115,116,122])] from rfl) (Reps.one (show Kd.M Kd.string _ _ _ (B_ #[97,100,101,102,104,110,115,116,118,122]) [.string (B_ #[97,100,101,102,104,110,115,116,118,122])] from rfl) (Reps.one (show Kd.M Kd.string _ _ _ (B_ #[99,100,109,110,111,113,115,116,117,118,121]) [.string (B_ #[99,100,109,110,111,113,115,116,117,118,121])] from rfl) (Reps.none _ _)))))); intro v278 w9 ho10 hb hg_ hnew_; clear hg_ hnew_; (first | rw [← Ny277.out] at ho10 | (simp only [Int.reduceToNat] at ho10; rw [← Ny277.out] at ho10)); have HO279 := am (Kd.R_lower ho10 (below_size (bes HB.out))); replace HB := bsp HB hb; clear hb ho10; obtain ⟨Ao11, co11, eo11⟩ := Kd.R_slice HO279.out; subst eo11; have p280 : 0 ≤ (a0 : Int) := of_decide_eq_true (by assumption); have q280 : a0 < (y277.length : Int) := of_decide_eq_true (by assumption); obtain ⟨ad280, e280, hx280_0⟩ := Kd.at_string (Kd.R_reads' HO279.out).2.2 a0 p280 q280; cases e280; replace p280 := eq_true p280; replace q280 := eq_true q280)))
  (try simp only [Act.put, sa_, s0_, s1_])
  go_cut [6] (fun v6 wc => ∃ (kq : Nat) (x6_7 : Bool), v6 = .bool x6_7 ∧ Aside0 (newswireref11_Is.j2 kq a0 a1 x6_7 = some r) ∧ Aside0 (kq ≤ kj2) ∧ Aside0 (Below w.heap.size w wc))
  case first =>
   have H := HC8.out; clear HC8
   have H' := am H; clear H
   go_wp2
   repeat (go_quiet (fail); try go_wp2)
   go_loopg [6, 7] kj2 (fun kq v6 v7 w' => ∃ (x6_2 : Bool) (x7_2 : Int), v6 = .bool x6_2 ∧ v7 = .int .i64 x7_2 ∧ Aside0 (newswireref11_Is.l0 kq a0 a1 (rdOf ByteArray.empty y277 a0) x6_2 x7_2 = some r) ∧ Aside0 (kq ≤ kj2) ∧ Aside0 (Below w.heap.size w w'))
   case atStart => exact ⟨(false), (0), cd, cd, H', ⟨Nat.le_refl _⟩, ⟨by exact bes HB.out⟩⟩
   clear H'
   try clear p2
   try clear q2
   try clear hx2
   try clear c3
   try clear c4
   try clear c4b0
   try clear c5
   try clear c6
   try clear c6b0
   try clear c7
   try clear c7b0
   try clear hx280_0
   try clear p2
   try clear p280
   try clear q280
   obtain ⟨x6_2, x7_2, rfl, rfl, HA, HK2, HB⟩ := hrel
   cases gk with
   | zero => exact absurd HA.out (by simp [newswireref11_Is.l0])
   | succ k2 =>
    have H := HA.out; clear HA; simp only [newswireref11_Is.l0] at H
    by_cases c12 : x7_2 < ((rdOf ByteArray.empty y277 a0).size : Int); rotate_left
    ·rw [if_neg c12] at H
     have c12b0 := dF c12; clear c12
     (first | rw [c12b0] | (simp only [i64_w, i32_w]; rw [c12b0]) | skip)
     have H' := am H; clear H
     go_wp2
     repeat (go_quiet (fail); try go_wp2)
     go_meet
     case rel => exact ⟨_, (x6_2), cd, H', ⟨by have := HJ2.out; have := HK2.out; first | omega | exact Nat.le_refl _⟩, ⟨by exact bes HB.out⟩⟩
    rw [if_pos c12] at H
    have c12b0 := dT c12; clear c12
    (first | rw [c12b0] | (simp only [i64_w, i32_w]; rw [c12b0]) | skip)
    by_cases c13 : a1.toList = ([] : List UInt8)
    ·rw [if_pos c13] at H
     have c13b0 := bT c13
     have c13b1 := nF c13; clear c13
     have H' := am H; clear H
     go_wp2
     repeat (go_quiet (fail); try go_wp2)
     go_meet
     case rel => exact ⟨_, (x6_2), cd, H', ⟨by have := HJ2.out; have := HK2.out; first | omega | exact Nat.le_refl _⟩, ⟨by exact bes HB.out⟩⟩
    rw [if_neg c13] at H
    have c13b0 := bF c13
    have c13b1 := nT c13
    by_cases c14 : x6_2 = true
    ·subst c14
     replace H := ip H
     have H' := am H; clear H
     go_wp2
     repeat (go_quiet (fail); try go_wp2)
     go_roundg k2
     case measure => have := HJ2.out; have := HK2.out; omega
     case rel => exact ⟨(true), (wrap64 (x7_2 + 1)), cd, cd, H', ⟨by have := HJ2.out; have := HK2.out; omega⟩, ⟨by exact bes HB.out⟩⟩
    replace c14 := Bool.eq_false_iff.mpr c14; subst c14; replace H := inn H
    by_cases c15 : 0 ≤ x7_2; rotate_left
    ·rw [if_neg c15] at H
     exact absurd H (by simp)
    rw [if_pos c15] at H
    have c15b0 := dT c15; clear c15
    by_cases c17 : 0 < (a1.size : Int); rotate_left
    ·rw [if_neg c17] at H
     exact absurd H (by simp)
    rw [if_pos c17] at H
    have c17b0 := dT c17
    have c17b1 : decide (0 < a1.size) = true := decide_eq_true (by omega); clear c17
    have H' := am H; clear H
    have p16 : 0 ≤ (x7_2 : Int) := of_decide_eq_true (by assumption)
    have q16 : x7_2 < ((rdOf ByteArray.empty y277 a0).size : Int) := of_decide_eq_true (by assumption); have hx16 := bt_at (rdOf ByteArray.empty y277 a0) x7_2; replace p16 := eq_true p16; replace q16 := eq_true q16
    have p18 : 0 ≤ (0 : Int) := (by omega)
    have q18 : 0 < a1.size := (by have : (0 : Int) < (a1.size : Int) := of_decide_eq_true (by assumption); omega)
    have hx18 : ∀ h : 0 < a1.size, ((a1[0]'h).toNat : Int) = bt a1 0 := bt_at a1 0; clear p18
    have qi18 : (0 < (a1.size : Int)) = True := eq_true (of_decide_eq_true (by assumption)); replace q18 := eq_true q18
    go_wp2
    repeat (go_quiet (fail); try go_wp2)
    go_roundg k2
    case measure => have := HJ2.out; have := HK2.out; omega
    case rel => exact ⟨(((bt (rdOf ByteArray.empty y277 a0) x7_2) == (bt a1 0))), (wrap64 (x7_2 + 1)), cd, cd, H', ⟨by have := HJ2.out; have := HK2.out; omega⟩, ⟨by exact bes HB.out⟩⟩
  clear HC8
  try clear c1
  try clear p1
  try clear q1
  try clear hx1
  try clear qi1
  try clear p2
  try clear q2
  try clear hx2
  try clear c3
  try clear c4
  try clear c4b0
  try clear c5
  try clear c6
  try clear c6b0
  try clear p6
  try clear c7
  try clear c7b0
  try clear c12
  try clear c12b0
  try clear c13
  try clear c13b0
  try clear c13b1
  try clear c14
  try clear c15
  try clear c15b0
  try clear p16
  try clear q16
  try clear hx16
  try clear c17
  try clear c17b0
  try clear c17b1
  try clear p18
  try clear q18
  try clear hx18
  try clear qi18
  try clear hx280_0
  try clear p16
  try clear p18
  try clear p2
  try clear p280
  try clear q16
  try clear q18
  try clear q2
  try clear q280
  obtain ⟨kq, x6_7, rfl, HA, HJ7, HB⟩ := hcut
  cases kq with
  | zero => exact absurd HA.out (by simp [newswireref11_Is.j2])
  | succ kj7 =>
   have H := HA.out; clear HA; simp only [newswireref11_Is.j2] at H
   by_cases c19 : x6_7 = true; rotate_left
   ·replace c19 := Bool.eq_false_iff.mpr c19
    subst c19; replace H := inn H
    obtain rfl := Option.some.inj H
    go_wp2
    repeat (go_quiet (fail); try go_wp2)
    go_ret
    exact ⟨er, by exact bes HB.out⟩
   subst c19; replace H := ip H
   replace H := bm H; obtain ⟨t281, A20, H⟩ := H; replace A20 := am A20
   by_cases c21 : 0 < (t281.length : Int); rotate_left
   ·rw [if_neg c21] at H
    exact absurd H (by simp)
   rw [if_pos c21] at H
   have c21b0 := dT c21
   have c21b1 : decide (0 < t281.length) = true := decide_eq_true (by omega); clear c21
   by_cases c22 : a1.toList = (rdOf ByteArray.empty t281 0).toList
   ·rw [if_pos c22] at H
    have c22b0 := bT c22
    have c22b1 := nF c22; clear c22; obtain rfl := Option.some.inj H
    go_wp2_with (first | (go_at_call 32; (refine (newswireref11_units.calls a0 t281 _ A20.out).mono ?_); rintro e w23 ⟨v282, rfl, ho0, hb⟩; have HO283 := am (Kd.R_lower ho0 (below_size (bes HB.out))); replace HB := bsp HB hb; (try clear hb); (try clear ho0); obtain ⟨Ao24, co24, eo24⟩ := Kd.R_slice HO283.out; subst eo24; have p284 : 0 ≤ (0 : Int) := (by omega); have q284 : 0 < (t281.length : Int) := of_decide_eq_true (by assumption); obtain ⟨ad284, e284, hx284_0⟩ := Kd.at_string (Kd.R_reads' HO283.out).2.2 0 p284 q284; cases e284; have qi284 : (0 < t281.length) = True := eq_true (by omega); (try rw [show ((0 : Int)).toNat = 0 from rfl] at hx284_0); (try rw [Addr.add_zero'] at hx284_0); replace p284 := eq_true p284; replace q284 := eq_true q284))
    repeat (go_quiet (first | (go_at_call 32; (with_reducible refine (newswireref11_units.calls a0 t281 _ A20.out).mono ?_); rintro e w23 ⟨v282, rfl, ho0, hb⟩; have HO283 := am (Kd.R_lower ho0 (below_size (bes HB.out))); replace HB := bsp HB hb; (try clear hb); (try clear ho0); obtain ⟨Ao24, co24, eo24⟩ := Kd.R_slice HO283.out; subst eo24; have p284 : 0 ≤ (0 : Int) := (by omega); have q284 : 0 < (t281.length : Int) := of_decide_eq_true (by assumption); obtain ⟨ad284, e284, hx284_0⟩ := Kd.at_string (Kd.R_reads' HO283.out).2.2 0 p284 q284; cases e284; have qi284 : (0 < t281.length) = True := eq_true (by omega); (try rw [show ((0 : Int)).toNat = 0 from rfl] at hx284_0); (try rw [Addr.add_zero'] at hx284_0); replace p284 := eq_true p284; replace q284 := eq_true q284)); try go_wp2_with (first | (go_at_call 32; (with_reducible refine (newswireref11_units.calls a0 t281 _ A20.out).mono ?_); rintro e w23 ⟨v282, rfl, ho0, hb⟩; have HO283 := am (Kd.R_lower ho0 (below_size (bes HB.out))); replace HB := bsp HB hb; (try clear hb); (try clear ho0); obtain ⟨Ao24, co24, eo24⟩ := Kd.R_slice HO283.out; subst eo24; have p284 : 0 ≤ (0 : Int) := (by omega); have q284 : 0 < (t281.length : Int) := of_decide_eq_true (by assumption); obtain ⟨ad284, e284, hx284_0⟩ := Kd.at_string (Kd.R_reads' HO283.out).2.2 0 p284 q284; cases e284; have qi284 : (0 < t281.length) = True := eq_true (by omega); (try rw [show ((0 : Int)).toNat = 0 from rfl] at hx284_0); (try rw [Addr.add_zero'] at hx284_0); replace p284 := eq_true p284; replace q284 := eq_true q284)))
    go_ret
    exact ⟨er, by exact bes HB.out⟩
   rw [if_neg c22] at H
   have c22b0 := bF c22
   have c22b1 := nT c22
   have H' := am H; clear H
   go_wp2_with (first | (go_at_call 32; (refine (newswireref11_units.calls a0 t281 _ A20.out).mono ?_); rintro e w25 ⟨v282, rfl, ho0, hb⟩; have HO283 := am (Kd.R_lower ho0 (below_size (bes HB.out))); replace HB := bsp HB hb; (try clear hb); (try clear ho0); obtain ⟨Ao26, co26, eo26⟩ := Kd.R_slice HO283.out; subst eo26; have p284 : 0 ≤ (0 : Int) := (by omega); have q284 : 0 < (t281.length : Int) := of_decide_eq_true (by assumption); obtain ⟨ad284, e284, hx284_0⟩ := Kd.at_string (Kd.R_reads' HO283.out).2.2 0 p284 q284; cases e284; have qi284 : (0 < t281.length) = True := eq_true (by omega); (try rw [show ((0 : Int)).toNat = 0 from rfl] at hx284_0); (try rw [Addr.add_zero'] at hx284_0); replace p284 := eq_true p284; replace q284 := eq_true q284))
   repeat (go_quiet (first | (go_at_call 32; (with_reducible refine (newswireref11_units.calls a0 t281 _ A20.out).mono ?_); rintro e w25 ⟨v282, rfl, ho0, hb⟩; have HO283 := am (Kd.R_lower ho0 (below_size (bes HB.out))); replace HB := bsp HB hb; (try clear hb); (try clear ho0); obtain ⟨Ao26, co26, eo26⟩ := Kd.R_slice HO283.out; subst eo26; have p284 : 0 ≤ (0 : Int) := (by omega); have q284 : 0 < (t281.length : Int) := of_decide_eq_true (by assumption); obtain ⟨ad284, e284, hx284_0⟩ := Kd.at_string (Kd.R_reads' HO283.out).2.2 0 p284 q284; cases e284; have qi284 : (0 < t281.length) = True := eq_true (by omega); (try rw [show ((0 : Int)).toNat = 0 from rfl] at hx284_0); (try rw [Addr.add_zero'] at hx284_0); replace p284 := eq_true p284; replace q284 := eq_true q284)); try go_wp2_with (first | (go_at_call 32; (with_reducible refine (newswireref11_units.calls a0 t281 _ A20.out).mono ?_); rintro e w25 ⟨v282, rfl, ho0, hb⟩; have HO283 := am (Kd.R_lower ho0 (below_size (bes HB.out))); replace HB := bsp HB hb; (try clear hb); (try clear ho0); obtain ⟨Ao26, co26, eo26⟩ := Kd.R_slice HO283.out; subst eo26; have p284 : 0 ≤ (0 : Int) := (by omega); have q284 : 0 < (t281.length : Int) := of_decide_eq_true (by assumption); obtain ⟨ad284, e284, hx284_0⟩ := Kd.at_string (Kd.R_reads' HO283.out).2.2 0 p284 q284; cases e284; have qi284 : (0 < t281.length) = True := eq_true (by omega); (try rw [show ((0 : Int)).toNat = 0 from rfl] at hx284_0); (try rw [Addr.add_zero'] at hx284_0); replace p284 := eq_true p284; replace q284 := eq_true q284)))
   go_loopg [8, 9] kj7 (fun kq v8 v9 w' => ∃ (x8_3 : Bool) (x9_3 : Int), v8 = .bool x8_3 ∧ v9 = .int .i64 x9_3 ∧ Aside0 (newswireref11_Is.l1 kq a0 a1 x8_3 x9_3 = some r) ∧ Aside0 (kq ≤ kj7) ∧ Aside0 (Below w.heap.size w w'))
   case atStart => exact ⟨(false), (0), cd, cd, H', ⟨Nat.le_refl _⟩, ⟨by exact bes HB.out⟩⟩
   clear H'
   try clear c1
   try clear p1
   try clear q1
   try clear hx1
   try clear qi1
   try clear c2
   try clear p2
   try clear q2
   try clear hx2
   try clear qi2
   try clear c3
   try clear c4
   try clear c4b0
   try clear c5
   try clear c6
   try clear c6b0
   try clear p6
   try clear c7
   try clear c7b0
   try clear c12
   try clear c12b0
   try clear c13
   try clear c13b0
   try clear c13b1
   try clear c14
   try clear c15
   try clear c15b0
   try clear p16
   try clear q16
   try clear hx16
   try clear c17
   try clear c17b0
   try clear c17b1
   try clear p18
   try clear q18
   try clear hx18
   try clear qi18
   try clear c19
   try clear c21
   try clear c21b0
   try clear c21b1
   try clear c22
   try clear c22b0
   try clear c22b1
   try clear hx280_0
   try clear hx284_0
   try clear p1
   try clear p16
   try clear p18
   try clear p2
   try clear p280
   try clear p284
   try clear p6
   try clear q1
   try clear q16
   try clear q18
   try clear q2
   try clear q280
   try clear q284
   obtain ⟨x8_3, x9_3, rfl, rfl, HA, HK3, HB⟩ := hrel
   cases gk with
   | zero => exact absurd HA.out (by simp [newswireref11_Is.l1])
   | succ k3 =>
    have H := HA.out; clear HA; simp only [newswireref11_Is.l1] at H
    by_cases c27 : (wrap64 (x9_3 + 7)) ≤ (a1.size : Int)
    ·rw [if_pos c27] at H
     have c27b0 := dT c27; clear c27
     by_cases c28 : x8_3 = true
     ·subst c28
      replace H := ip H
      have H' := am H; clear H
      go_wp2
      repeat (go_quiet (fail); try go_wp2)
      go_roundg k3
      case measure => have := HJ2.out; have := HJ7.out; have := HK3.out; omega
      case rel => exact ⟨(true), (wrap64 (x9_3 + 1)), cd, cd, H', ⟨by have := HJ2.out; have := HJ7.out; have := HK3.out; omega⟩, ⟨by exact bes HB.out⟩⟩
     replace c28 := Bool.eq_false_iff.mpr c28; subst c28; replace H := inn H
     by_cases c29 : 0 ≤ x9_3; rotate_left
     ·rw [if_neg c29] at H
      exact absurd H (by simp)
     rw [if_pos c29] at H; have c29b0 := eq_true c29
     have c29b1 := dT c29; clear c29
     by_cases c30 : x9_3 ≤ (wrap64 (x9_3 + 7))
     ·rw [if_pos c30] at H
      have c30b0 := eq_true c30
      have c30b1 := dT c30; have c31b0 := eq_true (of_decide_eq_true (by assumption) : (wrap64 (x9_3 + 7)) ≤ (a1.size : Int))
      have H' := am H; clear H
      go_wp2
      repeat (go_quiet (fail); try go_wp2)
      go_roundg k3
      case measure => have := HJ2.out; have := HJ7.out; have := HK3.out; omega
      case rel => exact ⟨(((a1.extract (x9_3 : Int).toNat ((wrap64 (x9_3 + 7)) : Int).toNat).toList == ([104, 117, 110, 100, 101, 114, 116] : List UInt8))), (wrap64 (x9_3 + 1)), cd, cd, H', ⟨by have := HJ2.out; have := HJ7.out; have := HK3.out; omega⟩, ⟨by exact bes HB.out⟩⟩
     rw [if_neg c30] at H
     exact absurd H (by simp)
    rw [if_neg c27] at H
    have c27b0 := dF c27; clear c27
    have H' := am H; clear H
    go_wp2
    repeat (go_quiet (fail); try go_wp2)
    go_loopg [10] k3 (fun kq v10 w' => ∃ (x10_4 : Int), v10 = .int .i64 x10_4 ∧ Aside0 (newswireref11_Is.l2 kq a0 a1 x8_3 x10_4 = some r) ∧ Aside0 (kq ≤ k3) ∧ Aside0 (Below w.heap.size w w'))
    case atStart => exact ⟨(1), cd, H', ⟨Nat.le_refl _⟩, ⟨by exact bes HB.out⟩⟩
    clear H'
    try clear c1
    try clear p1
    try clear q1
    try clear hx1
    try clear qi1
    try clear c2
    try clear p2
    try clear q2
    try clear hx2
    try clear qi2
    try clear c3
    try clear c4
    try clear c4b0
    try clear c5
    try clear c6
    try clear c6b0
    try clear p6
    try clear c7
    try clear c7b0
    try clear c12
    try clear c12b0
    try clear c13
    try clear c13b0
    try clear c13b1
    try clear c14
    try clear c15
    try clear c15b0
    try clear p16
    try clear q16
    try clear hx16
    try clear c17
    try clear c17b0
    try clear c17b1
    try clear p18
    try clear q18
    try clear hx18
    try clear qi18
    try clear c19
    try clear c21
    try clear c21b0
    try clear c21b1
    try clear c22
    try clear c22b0
    try clear c22b1
    try clear c27
    try clear c27b0
    try clear c28
    try clear p28
    try clear q28
    try clear hx28
    try clear qi28
    try clear c29
    try clear c29b0
    try clear c29b1
    try clear c30
    try clear c30b0
    try clear c30b1
    try clear c31
    try clear c31b0
    try clear hx280_0
    try clear hx284_0
    try clear p1
    try clear p16
    try clear p18
    try clear p2
    try clear p280
    try clear p284
    try clear p6
    try clear q1
    try clear q16
    try clear q18
    try clear q2
    try clear q280
    try clear q284
    obtain ⟨x10_4, rfl, HA, HK4, HB⟩ := hrel
    cases gk with
    | zero => exact absurd HA.out (by simp [newswireref11_Is.l2])
    | succ k4 =>
     have H := HA.out; clear HA; simp only [newswireref11_Is.l2] at H
     by_cases c32 : x10_4 < 1000; rotate_left
     ·rw [if_neg c32] at H
      have c32b0 := dF c32; clear c32; obtain rfl := Option.some.inj H
      go_wp2
      repeat (go_quiet (fail); try go_wp2)
      go_ret
      exact ⟨er, by exact bes HB.out⟩
     rw [if_pos c32] at H
     have c32b0 := dT c32; clear c32; have HC33 := am H; clear H
     go_upto_region 21 with (fail)
     repeat (go_quiet (fail); go_upto_region 21 with (fail))
     go_cut [82] (fun v82 wc => ∃ (kq : Nat) (x82_32 : Bool), v82 = .bool x82_32 ∧ Aside0 (newswireref11_Is.j5 kq a0 a1 x8_3 x10_4 x82_32 = some r) ∧ Aside0 (kq ≤ k4) ∧ Aside0 (Below w.heap.size w wc))
     case first =>
      have H := HC33.out; clear HC33
      by_cases c34 : x10_4 > 99; rotate_left
      ·rw [if_neg c34] at H
       have c34b0 := dF c34; clear c34
       (first | rw [c34b0] | (simp only [i64_w, i32_w]; rw [c34b0]) | skip)
       have H' := am H; clear H
       go_wp2
       repeat (go_quiet (fail); try go_wp2)
       go_meet
       case rel => exact ⟨_, (false), cd, H', ⟨by have := HJ2.out; have := HJ7.out; have := HK3.out; have := HK4.out; first | omega | exact Nat.le_refl _⟩, ⟨by exact bes HB.out⟩⟩
      rw [if_pos c34] at H
      have c34b0 := dT c34; clear c34
      (first | rw [c34b0] | (simp only [i64_w, i32_w]; rw [c34b0]) | skip)
      by_cases c35 : (Int.tmod x10_4 100) > 1
      ·rw [if_pos c35] at H
       have c35b0 := dT c35; clear c35
       have H' := am H; clear H
       go_wp2
       repeat (go_quiet (fail); try go_wp2)
       go_meet
       case rel => exact ⟨_, (!x8_3), cd, H', ⟨by have := HJ2.out; have := HJ7.out; have := HK3.out; have := HK4.out; first | omega | exact Nat.le_refl _⟩, ⟨by exact bes HB.out⟩⟩
      rw [if_neg c35] at H
      have c35b0 := dF c35; clear c35
      have H' := am H; clear H
      go_wp2
      repeat (go_quiet (fail); try go_wp2)
      go_meet
      case rel => exact ⟨_, (false), cd, H', ⟨by have := HJ2.out; have := HJ7.out; have := HK3.out; have := HK4.out; first | omega | exact Nat.le_refl _⟩, ⟨by exact bes HB.out⟩⟩
     clear HC33
     try clear c1
     try clear p1
     try clear q1
     try clear hx1
     try clear qi1
     try clear c2
     try clear p2
     try clear q2
     try clear hx2
     try clear qi2
     try clear c3
     try clear c4
     try clear c4b0
     try clear c5
     try clear c6
     try clear c6b0
     try clear p6
     try clear c7
     try clear c7b0
     try clear c12
     try clear c12b0
     try clear c13
     try clear c13b0
     try clear c13b1
     try clear c14
     try clear c15
     try clear c15b0
     try clear p16
     try clear q16
     try clear hx16
     try clear c17
     try clear c17b0
     try clear c17b1
     try clear p18
     try clear q18
     try clear hx18
     try clear qi18
     try clear c19
     try clear c21
     try clear c21b0
     try clear c21b1
     try clear c22
     try clear c22b0
     try clear c22b1
     try clear c27
     try clear c27b0
     try clear c28
     try clear p28
     try clear q28
     try clear hx28
     try clear qi28
     try clear c29
     try clear c29b0
     try clear c29b1
     try clear c30
     try clear c30b0
     try clear c30b1
     try clear c31
     try clear c31b0
     try clear c32
     try clear c32b0
     try clear c34
     try clear c34b0
     try clear c35
     try clear c35b0
     try clear hx280_0
     try clear hx284_0
     try clear p1
     try clear p16
     try clear p18
     try clear p2
     try clear p28
     try clear p280
     try clear p284
     try clear p6
     try clear q1
     try clear q16
     try clear q18
     try clear q2
     try clear q28
     try clear q280
     try clear q284
     obtain ⟨kq, x82_32, rfl, HA, HJ32, HB⟩ := hcut
     cases kq with
     | zero => exact absurd HA.out (by simp [newswireref11_Is.j5])
     | succ kj32 =>
      have H := HA.out; clear HA; simp only [newswireref11_Is.j5] at H
      by_cases c36 : x82_32 = true
      ·subst c36
       replace H := ip H
       have H' := am H; clear H
       go_wp2
       repeat (go_quiet (fail); try go_wp2)
       go_roundg kj32
       case measure => have := HJ2.out; have := HJ7.out; have := HK3.out; have := HK4.out; have := HJ32.out; omega
       case rel => exact ⟨(wrap64 (x10_4 + 1)), cd, H', ⟨by have := HJ2.out; have := HJ7.out; have := HK3.out; have := HK4.out; have := HJ32.out; omega⟩, ⟨by exact bes HB.out⟩⟩
      replace c36 := Bool.eq_false_iff.mpr c36; subst c36; replace H := inn H
      replace H := bm H; obtain ⟨t285, A37, H⟩ := H; replace A37 := am A37; replace H := bm H; obtain ⟨t288, A38, H⟩ := H; replace A38 := am A38
      have H' := am H; clear H
      go_wp2_with (first | (go_at_call 34; (refine (newswireref11_small.calls kj32 a0 x10_4 true t285 _ A37.out).mono ?_); rintro e w39 ⟨v286, rfl, ho0, hb⟩; have HO287 := am (Kd.R_lower ho0 (below_size (bes HB.out))); replace HB := bsp HB hb; (try clear hb); (try clear ho0)) | (go_at_call 33; (refine (newswireref11_thousand.calls kj32 a0 x10_4 t288 _ A38.out).mono ?_); rintro e w40 ⟨v289, rfl, ho0, hb⟩; have HO290 := am (Kd.R_lower (Kd.R_new' ho0 (Kd.R_lt (R_st HO287.out))) (below_size (bes HB.out))); replace HO287 := am (Kd.R_elder' (R_st HO287.out) (Kd.R_base ho0) hb); replace HB := bsp HB hb; (try clear hb); (try clear ho0)))
      repeat (go_quiet (first | (go_at_call 34; (with_reducible refine (newswireref11_small.calls kj32 a0 x10_4 true t285 _ A37.out).mono ?_); rintro e w39 ⟨v286, rfl, ho0, hb⟩; have HO287 := am (Kd.R_lower ho0 (below_size (bes HB.out))); replace HB := bsp HB hb; (try clear hb); (try clear ho0)) | (go_at_call 33; (with_reducible refine (newswireref11_thousand.calls kj32 a0 x10_4 t288 _ A38.out).mono ?_); rintro e w40 ⟨v289, rfl, ho0, hb⟩; have HO290 := am (Kd.R_lower (Kd.R_new' ho0 (Kd.R_lt (R_st HO287.out))) (below_size (bes HB.out))); replace HO287 := am (Kd.R_elder' (R_st HO287.out) (Kd.R_base ho0) hb); replace HB := bsp HB hb; (try clear hb); (try clear ho0))); try go_wp2_with (first | (go_at_call 34; (with_reducible refine (newswireref11_small.calls kj32 a0 x10_4 true t285 _ A37.out).mono ?_); rintro e w39 ⟨v286, rfl, ho0, hb⟩; have HO287 := am (Kd.R_lower ho0 (below_size (bes HB.out))); replace HB := bsp HB hb; (try clear hb); (try clear ho0)) | (go_at_call 33; (with_reducible refine (newswireref11_thousand.calls kj32 a0 x10_4 t288 _ A38.out).mono ?_); rintro e w40 ⟨v289, rfl, ho0, hb⟩; have HO290 := am (Kd.R_lower (Kd.R_new' ho0 (Kd.R_lt (R_st HO287.out))) (below_size (bes HB.out))); replace HO287 := am (Kd.R_elder' (R_st HO287.out) (Kd.R_base ho0) hb); replace HB := bsp HB hb; (try clear hb); (try clear ho0))))
      go_loopg [13] kj32 (fun kq v13 w' => ∃ (x13_6 : Int), v13 = .int .i64 x13_6 ∧ Aside0 (newswireref11_Is.l3 kq a0 a1 x8_3 x10_4 t285 t288 x13_6 = some r) ∧ Aside0 (kq ≤ kj32) ∧ Aside0 (Kd.R Kd.string 9 w' w.heap.size (fun k_ => some k_ ≠ (v289 : Value).ownBlock) v286 t285) ∧ Aside0 (Kd.R Kd.string 9 w' w.heap.size (fun k_ => some k_ ≠ (v286 : Value).ownBlock) v289 t288) ∧ Aside0 (Below w.heap.size w w'))
      case atStart => exact ⟨(0), cd, H', ⟨Nat.le_refl _⟩, ⟨by exact R_st (Kd.R_mono HO287.out (fun _ hk => hk.2))⟩, ⟨by exact R_st (Kd.R_mono HO290.out (fun _ hk => hk.2))⟩, ⟨by exact bes HB.out⟩⟩
      clear H'
      try clear c1
      try clear p1
      try clear q1
      try clear hx1
      try clear qi1
      try clear c2
      try clear p2
      try clear q2
      try clear hx2
      try clear qi2
      try clear c3
      try clear c4
      try clear c4b0
      try clear c5
      try clear c6
      try clear c6b0
      try clear p6
      try clear c7
      try clear c7b0
      try clear c12
      try clear c12b0
      try clear c13
      try clear c13b0
      try clear c13b1
      try clear c14
      try clear c15
      try clear c15b0
      try clear p16
      try clear q16
      try clear hx16
      try clear c17
      try clear c17b0
      try clear c17b1
      try clear p18
      try clear q18
      try clear hx18
      try clear qi18
      try clear c19
      try clear c21
      try clear c21b0
      try clear c21b1
      try clear c22
      try clear c22b0
      try clear c22b1
      try clear c27
      try clear c27b0
      try clear c28
      try clear p28
      try clear q28
      try clear hx28
      try clear qi28
      try clear c29
      try clear c29b0
      try clear c29b1
      try clear c30
      try clear c30b0
      try clear c30b1
      try clear c31
      try clear c31b0
      try clear c32
      try clear c32b0
      try clear c34
      try clear c34b0
      try clear c35
      try clear c35b0
      try clear c36
      try clear hx280_0
      try clear hx284_0
      try clear p1
      try clear p16
      try clear p18
      try clear p2
      try clear p28
      try clear p280
      try clear p284
      try clear p6
      try clear q1
      try clear q16
      try clear q18
      try clear q2
      try clear q28
      try clear q280
      try clear q284
      obtain ⟨x13_6, rfl, HA, HK6, O0, O1, HB⟩ := hrel
      cases gk with
      | zero => exact absurd HA.out (by simp [newswireref11_Is.l3])
      | succ k6 =>
       have H := HA.out; clear HA; simp only [newswireref11_Is.l3] at H
       by_cases c41 : x13_6 < (t285.length : Int)
       ·rw [if_pos c41] at H
        have c41b0 := dT c41; clear c41
        by_cases c42 : 0 ≤ x13_6; rotate_left
        ·rw [if_neg c42] at H
         exact absurd H (by simp)
        rw [if_pos c42] at H
        have c42b0 := dT c42; clear c42
        by_cases c43 : (rdOf ByteArray.empty t285 x13_6).toList = a1.toList
        ·rw [if_pos c43] at H
         have c43b0 := bT c43
         have c43b1 := nF c43; clear c43; obtain rfl := Option.some.inj H; obtain ⟨Ao44, co44, eo44⟩ := Kd.R_slice O0.out; subst eo44
         have p291 : 0 ≤ (x13_6 : Int) := of_decide_eq_true (by assumption)
         have q291 : x13_6 < (t285.length : Int) := of_decide_eq_true (by assumption); obtain ⟨ad291, e291, hx291_0⟩ := Kd.at_string (Kd.R_reads' O0.out).2.2 x13_6 p291 q291
         cases e291
         replace p291 := eq_true p291; replace q291 := eq_true q291
         go_wp2
         repeat (go_quiet (fail); try go_wp2)
         go_ret
         exact ⟨er, by exact bes HB.out⟩
        rw [if_neg c43] at H
        have c43b0 := bF c43
        have c43b1 := nT c43
        have H' := am H; clear H; obtain ⟨Ao45, co45, eo45⟩ := Kd.R_slice O0.out; subst eo45
        have p291 : 0 ≤ (x13_6 : Int) := of_decide_eq_true (by assumption)
        have q291 : x13_6 < (t285.length : Int) := of_decide_eq_true (by assumption); obtain ⟨ad291, e291, hx291_0⟩ := Kd.at_string (Kd.R_reads' O0.out).2.2 x13_6 p291 q291
        cases e291
        replace p291 := eq_true p291; replace q291 := eq_true q291
        go_wp2
        repeat (go_quiet (fail); try go_wp2)
        go_roundg k6
        case measure => have := HJ2.out; have := HJ7.out; have := HK3.out; have := HK4.out; have := HJ32.out; have := HK6.out; omega
        case rel => exact ⟨(wrap64 (x13_6 + 1)), cd, H', ⟨by have := HJ2.out; have := HJ7.out; have := HK3.out; have := HK4.out; have := HJ32.out; have := HK6.out; omega⟩, ⟨by exact R_st O0.out⟩, ⟨by exact R_st O1.out⟩, ⟨by exact bes HB.out⟩⟩
       rw [if_neg c41] at H
       have c41b0 := dF c41; clear c41
       have H' := am H; clear H; obtain ⟨Ao46, co46, eo46⟩ := Kd.R_slice O0.out; subst eo46
       go_wp2
       repeat (go_quiet (fail); try go_wp2)
       go_loopg [14] k6 (fun kq v14 w' => ∃ (x14_7 : Int), v14 = .int .i64 x14_7 ∧ Aside0 (newswireref11_Is.l4 kq a0 a1 x8_3 x10_4 t288 x14_7 = some r) ∧ Aside0 (kq ≤ k6) ∧ Aside0 (Kd.R Kd.string 9 w' w.heap.size (fun _ => True) v289 t288) ∧ Aside0 (Below w.heap.size w w'))
       case atStart => exact ⟨(0), cd, H', ⟨Nat.le_refl _⟩, ⟨by exact R_st (Kd.R_mono O1.out (fun _ hk => trivial))⟩, ⟨by exact bes HB.out⟩⟩
       clear H'
       try clear c1
       try clear p1
       try clear q1
       try clear hx1
       try clear qi1
       try clear c2
       try clear p2
       try clear q2
       try clear hx2
       try clear qi2
       try clear c3
       try clear c4
       try clear c4b0
       try clear c5
       try clear c6
       try clear c6b0
       try clear p6
       try clear c7
       try clear c7b0
       try clear c12
       try clear c12b0
       try clear c13
       try clear c13b0
       try clear c13b1
       try clear c14
       try clear c15
       try clear c15b0
       try clear p16
       try clear q16
       try clear hx16
       try clear c17
       try clear c17b0
       try clear c17b1
       try clear p18
       try clear q18
       try clear hx18
       try clear qi18
       try clear c19
       try clear c21
       try clear c21b0
       try clear c21b1
       try clear c22
       try clear c22b0
       try clear c22b1
       try clear c27
       try clear c27b0
       try clear c28
       try clear p28
       try clear q28
       try clear hx28
       try clear qi28
       try clear c29
       try clear c29b0
       try clear c29b1
       try clear p29
       try clear q29
       try clear hx29
       try clear c30
       try clear c30b0
       try clear c30b1
       try clear c31
       try clear c31b0
       try clear c32
       try clear c32b0
       try clear c34
       try clear c34b0
       try clear c35
       try clear c35b0
       try clear c36
       try clear c41
       try clear c41b0
       try clear c42
       try clear c42b0
       try clear c43
       try clear c43b0
       try clear c43b1
       try clear hx280_0
       try clear hx284_0
       try clear hx291_0
       try clear p1
       try clear p16
       try clear p18
       try clear p2
       try clear p28
       try clear p280
       try clear p284
       try clear p291
       try clear p6
       try clear q1
       try clear q16
       try clear q18
       try clear q2
       try clear q28
       try clear q280
       try clear q284
       try clear q291
       obtain ⟨x14_7, rfl, HA, HK7, O1, HB⟩ := hrel
       cases gk with
       | zero => exact absurd HA.out (by simp [newswireref11_Is.l4])
       | succ k7 =>
        have H := HA.out; clear HA; simp only [newswireref11_Is.l4] at H
        by_cases c47 : x14_7 < (t288.length : Int); rotate_left
        ·rw [if_neg c47] at H
         have c47b0 := dF c47; clear c47
         have H' := am H; clear H; obtain ⟨Ao52, co52, eo52⟩ := Kd.R_slice O1.out; subst eo52
         go_wp2
         repeat (go_quiet (fail); try go_wp2)
         go_roundg k7
         case measure => have := HJ2.out; have := HJ7.out; have := HK3.out; have := HK4.out; have := HJ32.out; have := HK6.out; have := HK7.out; omega
         case rel => exact ⟨(wrap64 (x10_4 + 1)), cd, H', ⟨by have := HJ2.out; have := HJ7.out; have := HK3.out; have := HK4.out; have := HJ32.out; have := HK6.out; have := HK7.out; omega⟩, ⟨by exact bes HB.out⟩⟩
        rw [if_pos c47] at H
        have c47b0 := dT c47; clear c47
        by_cases c48 : 0 ≤ x14_7; rotate_left
        ·rw [if_neg c48] at H
         exact absurd H (by simp)
        rw [if_pos c48] at H
        have c48b0 := dT c48; clear c48
        by_cases c49 : (rdOf ByteArray.empty t288 x14_7).toList = a1.toList
        ·rw [if_pos c49] at H
         have c49b0 := bT c49
         have c49b1 := nF c49; clear c49; obtain rfl := Option.some.inj H; obtain ⟨Ao50, co50, eo50⟩ := Kd.R_slice O1.out; subst eo50
         have p292 : 0 ≤ (x14_7 : Int) := of_decide_eq_true (by assumption)
         have q292 : x14_7 < (t288.length : Int) := of_decide_eq_true (by assumption); obtain ⟨ad292, e292, hx292_0⟩ := Kd.at_string (Kd.R_reads' O1.out).2.2 x14_7 p292 q292
         cases e292
         replace p292 := eq_true p292; replace q292 := eq_true q292
         go_wp2
         repeat (go_quiet (fail); try go_wp2)
         go_ret
         exact ⟨er, by exact bes HB.out⟩
        rw [if_neg c49] at H
        have c49b0 := bF c49
        have c49b1 := nT c49
        have H' := am H; clear H; obtain ⟨Ao51, co51, eo51⟩ := Kd.R_slice O1.out; subst eo51
        have p292 : 0 ≤ (x14_7 : Int) := of_decide_eq_true (by assumption)
        have q292 : x14_7 < (t288.length : Int) := of_decide_eq_true (by assumption); obtain ⟨ad292, e292, hx292_0⟩ := Kd.at_string (Kd.R_reads' O1.out).2.2 x14_7 p292 q292
        cases e292
        replace p292 := eq_true p292; replace q292 := eq_true q292
        go_wp2
        repeat (go_quiet (fail); try go_wp2)
        go_roundg k7
        case measure => have := HJ2.out; have := HJ7.out; have := HK3.out; have := HK4.out; have := HJ32.out; have := HK6.out; have := HK7.out; omega
        case rel => exact ⟨(wrap64 (x14_7 + 1)), cd, H', ⟨by have := HJ2.out; have := HJ7.out; have := HK3.out; have := HK4.out; have := HJ32.out; have := HK6.out; have := HK7.out; omega⟩, ⟨by exact R_st O1.out⟩, ⟨by exact bes HB.out⟩⟩

end Go.Proofs.YtjgobfbjmlacjaaDoor.XM
