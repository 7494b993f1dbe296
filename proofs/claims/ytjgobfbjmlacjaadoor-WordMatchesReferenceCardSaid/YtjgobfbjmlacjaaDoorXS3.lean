-- Written by wip/xprint.py (a driver of mine over the kit's printer) for this claim.
import Derived.Test.YtjgobfbjmlacjaaDoorXS0
namespace Go.Proofs.YtjgobfbjmlacjaaDoor.XS
open Go.RowKit Go.Proofs.YtjgobfbjmlacjaaDoorW.PrintWords Go.Proofs.YtjgobfbjmlacjaaDoorW.PrintLast Go.Proofs.YtjgobfbjmlacjaaDoorW.PrintMore
open Bool renaming true → tt, false → ff
open _root_.ByteArray renaming mk → B_
attribute [local go_sem] max2_int min2_int max_two min_two max_three min_three max_four min_four   -- for this text's walks alone
set_option maxHeartbeats 8000000
set_option maxRecDepth 100000
set_option linter.unusedVariables false
set_option linter.unusedSimpArgs false

/-! ### newswirelaw11_pick: function 11 -/
def newswirelaw11_pick.f (a0 : Int) (a1 : Int) : Option (Int) := if a0 < 0 then (if a1 = 0 then (none) else (some (Int.tmod (wrap64 (-(wrap64 (a0 + 1)))) a1))) else (if a1 = 0 then (none) else (some (Int.tmod a0 a1)))
theorem newswirelaw11_pick.calls (a0 : Int) (a1 : Int) (r : Int) (w : World) (h : newswirelaw11_pick.f a0 a1 = some r) :
  Calls Tryd.prog 11 #[.int .i64 a0, .int .i64 a1] w fun e w' => e = .returned (.int .i64 r) ∧ Drawn0 w w' := by
 have H := h; clear h; unfold newswirelaw11_pick.f at H
 by_cases c3 : a0 < 0
 ·rw [if_pos c3] at H
  have c3b0 := dT c3; clear c3
  by_cases c4 : a1 = 0
  ·rw [if_pos c4] at H
   exact absurd H (by simp)
  rw [if_neg c4] at H
  have c4b0 := bF c4
  have c4b1 := nT c4; obtain rfl := Option.some.inj H
  go_enter Tryd.func11, Tryd.ntmps11
  go_wp2
  go_ret
  exact ⟨by first | rfl | (simp; done) | (simp [*]; done), by repeat (first | exact Drawn0.refl _ | apply Drawn0.step)⟩
 rw [if_neg c3] at H
 have c3b0 := dF c3; clear c3
 by_cases c5 : a1 = 0
 ·rw [if_pos c5] at H
  exact absurd H (by simp)
 rw [if_neg c5] at H
 have c5b0 := bF c5
 have c5b1 := nT c5; obtain rfl := Option.some.inj H
 go_enter Tryd.func11, Tryd.ntmps11
 go_wp2
 go_ret
 exact ⟨by first | rfl | (simp; done) | (simp [*]; done), by repeat (first | exact Drawn0.refl _ | apply Drawn0.step)⟩

/-! ### newswirelaw11_few: function 13 -/
def newswirelaw11_few.l0 : Nat → List ByteArray → List ByteArray → Int → Option (List ByteArray)
 | 0, _, _, _ => none
 | k + 1, x0, x3, x4 => if x4 < (x0.length : Int) then (if x4 < 10 then (if 0 ≤ x4 then (if 0 ≤ (mn ((rdOf ByteArray.empty x0 x4).size : Int) 60) then (if (mn ((rdOf ByteArray.empty x0 x4).size : Int) 60) ≤ ((rdOf ByteArray.empty x0 x4).size : Int) then (if x3.length < 8796093022208 then (newswirelaw11_few.l0 k x0 (x3 ++ [(rdOf ByteArray.empty x0 x4).extract 0 ((mn ((rdOf ByteArray.empty x0 x4).size : Int) 60) : Int).toNat]) (wrap64 (x4 + 1))) else (none)) else (none)) else (none)) else (none)) else (some x3)) else (some x3)
def newswirelaw11_few.f (k : Nat) (l0 : List ByteArray) : Option (List ByteArray) := newswirelaw11_few.l0 k l0 ([] : List ByteArray) 0
theorem newswirelaw11_few.mono_l : ∀ k, (∀ y0 y1 y2, LeO (newswirelaw11_few.l0 k y0 y1 y2) (newswirelaw11_few.l0 (k + 1) y0 y1 y2))
 | 0 => fun _ _ _ r h => by simp [newswirelaw11_few.l0] at h
 | k + 1 => by
  have ih0 := newswirelaw11_few.mono_l k
  intro y0 y1 y2
  unfold newswirelaw11_few.l0
  repeat' first
  | (with_reducible exact ih0 _ _ _)
  | (with_reducible exact LeO.refl _)
  | (with_reducible exact LeO.none _)
  | (with_reducible refine LeO.ite ?_ ?_)
  | (with_reducible refine LeO.bind ?_ (fun _ => ?_))
theorem newswirelaw11_few.mono : ∀ a0 k, LeO (newswirelaw11_few.f k a0) (newswirelaw11_few.f (k + 1) a0) := by
 intro a0 k; have ih0 := newswirelaw11_few.mono_l k
 unfold newswirelaw11_few.f
 repeat' first
   | (with_reducible exact ih0 _ _ _)
   | (with_reducible exact LeO.refl _)
   | (with_reducible exact LeO.none _)
   | (with_reducible refine LeO.ite ?_ ?_)
   | (with_reducible refine LeO.bind ?_ (fun _ => ?_))
def newswirelaw11_few.T5 : Bool × List (List Nat × List Nat) := (true, [([], []), ([], []), ([], []), ([1, 2], [1, 2]), ([3], [3]), ([], []), ([], []), ([5, 6], [5, 6]), ([7], [7]), ([8], [8]), ([9], [9]), ([4, 10], [4, 10]), ([11], [11]), ([0, 12], [0, 12]), ([13, 13, 0, 1, 2, 3, 4, 5, 6, 7, 8, 9, 10, 11, 12, 13], [0, 13])])
def newswirelaw11_few.B5 : List Nat := [0, 0, 0, 6, 14, 0, 0, 96, 224, 480, 992, 2046, 4094, 8191, 16383]
theorem newswirelaw11_few.tab5 : rtab .any (opsOf Tryd.f13 5) = newswirelaw11_few.T5 := by kernel_rfl
theorem newswirelaw11_few.bits5 : waitsOk newswirelaw11_few.T5.2 newswirelaw11_few.B5 = true := by kernel_rfl
theorem newswirelaw11_few.calls (k : Nat) (A0 : Option Addr) (c0 : Nat) (l0 : List ByteArray) (r : List ByteArray) (w : World) (hr0 : Kd.C Kd.string w A0 l0.length l0) (hc0 : l0.length ≤ c0) (h : newswirelaw11_few.f k l0 = some r) :
  Calls Tryd.prog 13 #[.slice A0 l0.length c0] w fun e w' => ∃ v0_ : Value, e = .returned (v0_) ∧ Kd.R Kd.string 9 w' w.heap.size (fun _ => True) v0_ r ∧ Below w.heap.size w w' := by
 have HR0 := am hr0; have HC0 := am hc0; clear hr0 hc0; have HB := am (Below.refl w.heap.size w)
 have H := h; clear h; unfold newswirelaw11_few.f at H
 have H' := am H; clear H
 go_enter Tryd.func13, Tryd.ntmps13
 go_wp2
 go_loopg [3, 4] k (fun kq v3 v4 w' => ∃ (x3_1 : List ByteArray) (x4_1 : Int), v4 = .int .i64 x4_1 ∧ Aside0 (newswirelaw11_few.l0 kq l0 x3_1 x4_1 = some r) ∧ Aside0 (kq ≤ k) ∧ Aside0 (Kd.R Kd.string 9 w' w.heap.size (fun _ => True) v3 x3_1) ∧ Aside0 (Below w.heap.size w w'))
 case atStart => exact ⟨(([] : List ByteArray)), (0), cd, H', ⟨Nat.le_refl _⟩, ⟨nil0⟩, ⟨by exact bes HB.out⟩⟩
 clear H'
 try clear c1
 obtain ⟨x3_1, x4_1, rfl, HA, HK1, O0, HB⟩ := hrel
 cases gk with
 | zero => exact absurd HA.out (by simp [newswirelaw11_few.l0])
 | succ k1 =>
  have H := HA.out; clear HA; simp only [newswirelaw11_few.l0] at H
  by_cases c2 : x4_1 < (l0.length : Int); rotate_left
  ·rw [if_neg c2] at H
   have c2b0 := dF c2; clear c2; obtain rfl := Option.some.inj H
   go_wp2
   go_ret
   exact ⟨_, er, by exact R_st O0.out, by exact bes HB.out⟩
  rw [if_pos c2] at H
  have c2b0 := dT c2; clear c2
  by_cases c3 : x4_1 < 10; rotate_left
  ·rw [if_neg c3] at H
   have c3b0 := dF c3; clear c3; obtain rfl := Option.some.inj H
   go_wp2
   go_ret
   exact ⟨_, er, by exact R_st O0.out, by exact bes HB.out⟩
  rw [if_pos c3] at H
  have c3b0 := dT c3; clear c3
  by_cases c4 : 0 ≤ x4_1; rotate_left
  ·rw [if_neg c4] at H
   exact absurd H (by simp)
  rw [if_pos c4] at H
  have c4b0 := dT c4; clear c4; obtain ⟨ji5, hji5⟩ : ∃ j_ : Int, (mn ((rdOf ByteArray.empty l0 x4_1).size : Int) 60) = j_ := ⟨_, rfl⟩; replace H : (if 0 ≤ (ji5) then (if (ji5) ≤ ((rdOf ByteArray.empty l0 x4_1).size : Int) then (if x3_1.length < 8796093022208 then (newswirelaw11_few.l0 k1 l0 (x3_1 ++ [(rdOf ByteArray.empty l0 x4_1).extract 0 ((ji5) : Int).toNat]) (wrap64 (x4_1 + 1))) else (none)) else (none)) else (none)) = some r := by first | (rw [hji5] at H; exact H) | (simp only [hji5] at H ⊢; exact H)
  have hji5_ : (if 60 < ((rdOf ByteArray.empty l0 x4_1).size : Int) then 60 else ((rdOf ByteArray.empty l0 x4_1).size : Int)) = ji5 := hji5
  by_cases c6 : 0 ≤ (ji5); rotate_left
  ·rw [if_neg c6] at H
   exact absurd H (by simp)
  rw [if_pos c6] at H; have c6b0 := eq_true c6
  have c6b1 := dT c6; clear c6
  by_cases c7 : (ji5) ≤ ((rdOf ByteArray.empty l0 x4_1).size : Int); rotate_left
  ·rw [if_neg c7] at H
   exact absurd H (by simp)
  rw [if_pos c7] at H; have c7b0 := eq_true c7
  have c7b1 := dT c7; clear c7
  by_cases c8 : x3_1.length < 8796093022208; rotate_left
  ·rw [if_neg c8] at H
   exact absurd H (by simp)
  rw [if_pos c8] at H; have LMc8 := am c8; clear c8; obtain ⟨y154, hy154⟩ : ∃ y_ : List ByteArray, y_ = (x3_1 ++ [(rdOf ByteArray.empty l0 x4_1).extract 0 ((ji5) : Int).toNat]) := ⟨_, rfl⟩; replace H : (newswirelaw11_few.l0 k1 l0 y154 (wrap64 (x4_1 + 1))) = some r := by first | (rw [hy154]; with_reducible exact H) | (have H2_ := (Option.bind_some _ _).symm.trans H; rw [hy154]; with_reducible exact H2_) | (have H2_ := (Option.bind_some _ _).symm.trans H; with_reducible exact H2_) | with_reducible exact H | (rw [hy154]; exact H) | exact H
  have Ny154 := am hy154; clear hy154
  have H' := am H; clear H
  try go_wp2
  replace O0 := am (Kd.R_drew O0.out); replace HB := am (below_drew1 HB.out)
  have p152 : 0 ≤ (x4_1 : Int) := of_decide_eq_true (by assumption)
  have q152 : x4_1 < (l0.length : Int) := of_decide_eq_true (by assumption); obtain ⟨ad152, e152, hx152_0⟩ := Kd.at_string HR0.out x4_1 p152 q152; have hw152_0 := hx152_0
  cases e152
  replace hx152_0 := (HB.out.cell (World.block_lt_of_cell? w _ hx152_0)).trans hx152_0; replace p152 := eq_true p152; replace q152 := eq_true q152
  have p153 : 0 ≤ (x4_1 : Int) := of_decide_eq_true (by assumption)
  have q153 : x4_1 < (l0.length : Int) := of_decide_eq_true (by assumption); obtain ⟨ad153, e153, hx153_0⟩ := Kd.at_string HR0.out x4_1 p153 q153; have hw153_0 := hx153_0; obtain rfl : ad152 = ad153 := (by injection e153); replace hx153_0 := (HB.out.cell (World.block_lt_of_cell? w _ hx153_0)).trans hx153_0; replace p153 := eq_true p153; replace q153 := eq_true q153
  refine start_ (n := 15) (S := fun w' => w'.cell? (ad152.add (x4_1).toNat) = some (.string (rdOf ByteArray.empty l0 x4_1)) ∧ w'.cell? (ad152.add (x4_1).toNat) = some (.string (rdOf ByteArray.empty l0 x4_1))) (ds := []) #[ff,ff,ff,ff,ff,ff,ff,ff,ff,ff,ff,ff,ff,ff,ff] (by kernel_rfl) rfl rfl ⟨((HB.out.cell (World.block_lt_of_cell? w _ hw152_0)).trans hw152_0), ((HB.out.cell (World.block_lt_of_cell? w _ hw153_0)).trans hw153_0)⟩ (fun hHeld => ?_); refine with_tabW newswirelaw11_few.tab5 newswirelaw11_few.bits5 (fun HT_ HW_ => ?_)
  generalize wr.drew = w9 at O0 HB hx152_0 hx153_0 hHeld ⊢
  refine pv 0 (some 15) HT_.out #[tt,ff,ff,ff,ff,ff,ff,ff,ff,ff,ff,ff,ff,ff,ff] ?_
  refine pv 1 (some 16) HT_.out #[tt,tt,ff,ff,ff,ff,ff,ff,ff,ff,ff,ff,ff,ff,ff] ?_
  refine pv 2 (some 17) HT_.out #[tt,tt,tt,ff,ff,ff,ff,ff,ff,ff,ff,ff,ff,ff,ff] ?_
  refine pv 3 (some 18) HT_.out #[tt,tt,tt,tt,ff,ff,ff,ff,ff,ff,ff,ff,ff,ff,ff] ?_
  refine pv 5 (some 20) HT_.out #[tt,tt,tt,tt,ff,tt,ff,ff,ff,ff,ff,ff,ff,ff,ff] ?_
  refine pv 6 (some 21) HT_.out #[tt,tt,tt,tt,ff,tt,tt,ff,ff,ff,ff,ff,ff,ff,ff] ?_
  refine pv 7 (some 22) HT_.out #[tt,tt,tt,tt,ff,tt,tt,tt,ff,ff,ff,ff,ff,ff,ff] ?_
  refine tu 4 (some 19) ?_ #[tt,tt,tt,tt,tt,tt,tt,tt,ff,ff,ff,ff,ff,ff,ff] rfl rfl (ta HT_.out HW_.out) (fun _ _ _ h => h) (Or.inl ⟨by rfl, ?_⟩) hHeld ?_ ?_ ?_; rotate_left
  ·rintro w' ⟨s0, s1⟩
   go_simp
   with_reducible rfl
  rotate_left; exact sp
  refine tu 8 (some 23) ?_ #[tt,tt,tt,tt,tt,tt,tt,tt,tt,ff,ff,ff,ff,ff,ff] rfl rfl (ta HT_.out HW_.out) (fun _ _ _ h => h) (Or.inl ⟨by rfl, ?_⟩) hHeld ?_ ?_ ?_; rotate_left
  ·rintro w' ⟨s0, s1⟩
   go_simp
   with_reducible rfl
  rotate_left; exact sp
  refine pv 9 (some 24) HT_.out #[tt,tt,tt,tt,tt,tt,tt,tt,tt,tt,ff,ff,ff,ff,ff] ?_
  refine pv 10 (some 25) HT_.out #[tt,tt,tt,tt,tt,tt,tt,tt,tt,tt,tt,ff,ff,ff,ff] ?_
  refine pv 11 (some 26) HT_.out #[tt,tt,tt,tt,tt,tt,tt,tt,tt,tt,tt,tt,ff,ff,ff] ?_
  refine o1 12 (some 27) HT_.out #[tt,tt,tt,tt,tt,tt,tt,tt,tt,tt,tt,tt,tt,ff,ff] fun K hK => ?_
  refine value_ (w1 := ?_) (v := ?_) (by rfl) rfl ?_ ?_; rotate_left 2
  ·go_simp
   constructor
   ·rfl
   rfl
  refine hK.out _ _ ⟨(World.cell?_alloc_lt _ _ _ (World.block_lt_of_cell? _ _ (((HB.out.cell (World.block_lt_of_cell? w _ hw152_0)).trans hw152_0)))).trans (((HB.out.cell (World.block_lt_of_cell? w _ hw152_0)).trans hw152_0)), (World.cell?_alloc_lt _ _ _ (World.block_lt_of_cell? _ _ (((HB.out.cell (World.block_lt_of_cell? w _ hw153_0)).trans hw153_0)))).trans (((HB.out.cell (World.block_lt_of_cell? w _ hw153_0)).trans hw153_0))⟩ (fun hHeld => ?_); clear hK K
  refine norm_ (a' := ?_) ?_ ?_; rotate_left
  ·show Act.put _ (some 27) _ = _
   simp only [Act.put, sa_, s0_, s1_, i64_w, i32_w]
   rfl
  refine o1 13 (some 28) HT_.out #[tt,tt,tt,tt,tt,tt,tt,tt,tt,tt,tt,tt,tt,tt,ff] fun K hK => ?_
  refine Kd.R_append_step Kd.string (w0 := w) w.heap.size (by rfl) (.tmp 15) (.tmp 27) 22 9 (.string ⟨#[]⟩) 16 rfl Tryd.underlying22 info9 rfl (by decide) (by omega) u3 x3_1 ((rdOf ByteArray.empty l0 x4_1).extract 0 ((ji5) : Int).toNat) [.string ((rdOf ByteArray.empty l0 x4_1).extract 0 ((ji5) : Int).toNat)] (fun _ => True) (fun _ => False) rfl rfl ?aP (fun _ hk => hk.elim) ?aF ?aO ?aB ?aS ?aL ?_
  (case aP => exact rfl)
  (case aB => exact (bes HB.out))
  (case aF => exact (fun _ _ => trivial))
  (case aO => exact (R_st O0.out))
  (case aS => exact (below_size (bes HB.out)))
  (case aL => have := LMc8.out; omega)
  intro v155 w10 ho hb hg hat
  rw [← Ny154.out] at ho; have n0_ := am (hb); have n1_ := am (ho); clear HB; clear O0; have HB := n0_; have HO156 := n1_; clear n0_ n1_; clear ho hb hg hat
  refine hK.out _ _ ⟨((HB.out.cell (World.block_lt_of_cell? w _ hw152_0)).trans hw152_0), ((HB.out.cell (World.block_lt_of_cell? w _ hw153_0)).trans hw153_0)⟩ (fun hHeld => ?_); clear hK K
  refine norm_ (a' := ?_) ?_ ?_; rotate_left
  ·show Act.put _ (some 28) _ = _
   simp only [Act.put, sa_, s0_, s1_, i64_w, i32_w]
   rfl
  refine pv 14 (some 3) HT_.out #[tt,tt,tt,tt,tt,tt,tt,tt,tt,tt,tt,tt,tt,tt,tt] ?_
  refine done_ (done_of HT_.out (by kernel_rfl)) ?_
  try go_wp2
  go_roundg k1
  case measure => have := HK1.out; omega
  case rel => exact ⟨(y154), (wrap64 (x4_1 + 1)), cd, H', ⟨by have := HK1.out; omega⟩, ⟨by exact R_st HO156.out⟩, ⟨by exact bes HB.out⟩⟩

/-! ### newswirelaw11_plain: function 21 -/
mutual
def newswirelaw11_plain.l0 : Nat → ByteArray → Int → Option (Bool)
 | 0, _, _ => none
 | k + 1, x0, x3 => if x3 < (x0.size : Int) then (if 0 ≤ x3 then (if (bt x0 x3) = 45 then (newswirelaw11_plain.j1 k x0 x3 false) else (if (bt x0 x3) < 97 then (newswirelaw11_plain.j1 k x0 x3 true) else (newswirelaw11_plain.j1 k x0 x3 (decide ((bt x0 x3) > 122))))) else (none)) else (some true)
def newswirelaw11_plain.j1 : Nat → ByteArray → Int → Bool → Option (Bool)
 | 0, _, _, _ => none
 | k + 1, x0, x3, x25 => if x25 = true then (some false) else (newswirelaw11_plain.l0 k x0 (wrap64 (x3 + 1)))
end
def newswirelaw11_plain.f (k : Nat) (a0 : ByteArray) : Option (Bool) := newswirelaw11_plain.l0 k a0 0
theorem newswirelaw11_plain.mono_l : ∀ k, (∀ y0 y1, LeO (newswirelaw11_plain.l0 k y0 y1) (newswirelaw11_plain.l0 (k + 1) y0 y1)) ∧ (∀ y0 y1 y2, LeO (newswirelaw11_plain.j1 k y0 y1 y2) (newswirelaw11_plain.j1 (k + 1) y0 y1 y2))
 | 0 => ⟨fun _ _ r h => by simp [newswirelaw11_plain.l0] at h, fun _ _ _ r h => by simp [newswirelaw11_plain.j1] at h⟩
 | k + 1 => by
  obtain ⟨ih0, ih1⟩ := newswirelaw11_plain.mono_l k
  refine ⟨?_, ?_⟩
  all_goals
   intros; first | unfold newswirelaw11_plain.l0 | unfold newswirelaw11_plain.j1
   repeat' first
   | (with_reducible exact ih0 _ _)
   | (with_reducible exact ih1 _ _ _)
   | (with_reducible exact LeO.refl _)
   | (with_reducible exact LeO.none _)
   | (with_reducible refine LeO.ite ?_ ?_)
   | (with_reducible refine LeO.bind ?_ (fun _ => ?_))
theorem newswirelaw11_plain.mono : ∀ a0 k, LeO (newswirelaw11_plain.f k a0) (newswirelaw11_plain.f (k + 1) a0) := by
 intro a0 k; obtain ⟨ih0, ih1⟩ := newswirelaw11_plain.mono_l k
 unfold newswirelaw11_plain.f
 repeat' first
   | (with_reducible exact ih0 _ _)
   | (with_reducible exact ih1 _ _ _)
   | (with_reducible exact LeO.refl _)
   | (with_reducible exact LeO.none _)
   | (with_reducible refine LeO.ite ?_ ?_)
   | (with_reducible refine LeO.bind ?_ (fun _ => ?_))
theorem newswirelaw11_plain.calls (k : Nat) (a0 : ByteArray) (r : Bool) (w : World) (h : newswirelaw11_plain.f k a0 = some r) :
  Calls Tryd.prog 21 #[.string a0] w fun e w' => e = .returned (.bool r) ∧ Drawn0 w w' := by
 have H : (newswirelaw11_plain.l0 k a0 0) = some r := h; clear h
 have H' := am H; clear H
 go_enter Tryd.func21, Tryd.ntmps21
 go_wp2
 go_loopg [3] k (fun kq v3 w' => ∃ (x3_1 : Int), v3 = .int .i64 x3_1 ∧ Aside0 (newswirelaw11_plain.l0 kq a0 x3_1 = some r) ∧ Aside0 (kq ≤ k) ∧ Drawn0 w w')
 case atStart => exact ⟨(0), cd, H', ⟨Nat.le_refl _⟩, by repeat (first | exact Drawn0.refl _ | apply Drawn0.step)⟩
 clear H'; obtain ⟨x3_1, rfl, HA, HK1, ⟨m1, rfl⟩⟩ := hrel
 cases gk with
 | zero => exact absurd HA.out (by simp [newswirelaw11_plain.l0])
 | succ k1 =>
  have H := HA.out; clear HA; simp only [newswirelaw11_plain.l0] at H
  by_cases c2 : x3_1 < (a0.size : Int); rotate_left
  ·rw [if_neg c2] at H
   have c2b0 := dF c2; clear c2; obtain rfl := Option.some.inj H
   go_wp2
   go_ret
   exact ⟨by first | rfl | (simp; done) | (simp [*]; done), by repeat (first | exact Drawn0.refl _ | apply Drawn0.step)⟩
  rw [if_pos c2] at H
  have c2b0 := dT c2; clear c2; have HC3 := am H; clear H
  go_upto_region 4 with (fail)
  go_cut [25] (fun v25 wc => ∃ (kq : Nat) (x25_2 : Bool), v25 = .bool x25_2 ∧ Aside0 (newswirelaw11_plain.j1 kq a0 x3_1 x25_2 = some r) ∧ Aside0 (kq ≤ k1) ∧ Drawn0 w wc)
  case first =>
   have H := HC3.out; clear HC3
   by_cases c4 : 0 ≤ x3_1; rotate_left
   ·rw [if_neg c4] at H
    exact absurd H (by simp)
   rw [if_pos c4] at H
   have c4b0 := dT c4; clear c4
   (first | rw [c4b0] | (simp only [i64_w, i32_w]; rw [c4b0]) | skip)
   by_cases c6 : (bt a0 x3_1) = 45
   ·rw [if_pos c6] at H
    have c6b0 := bT c6
    have c6b1 := nF c6; clear c6
    have H' := am H; clear H
    have p5 : 0 ≤ (x3_1 : Int) := of_decide_eq_true (by assumption)
    have q5 : x3_1 < (a0.size : Int) := of_decide_eq_true (by assumption); have hx5 := bt_at a0 x3_1; replace p5 := eq_true p5; replace q5 := eq_true q5
    go_wp2
    go_meet
    case rel => exact ⟨_, (false), cd, H', ⟨by have := HK1.out; first | omega | exact Nat.le_refl _⟩, by repeat (first | exact Drawn0.refl _ | apply Drawn0.step)⟩
   rw [if_neg c6] at H
   have c6b0 := bF c6
   have c6b1 := nT c6
   by_cases c8 : (bt a0 x3_1) < 97
   ·rw [if_pos c8] at H
    have c8b0 := dT c8; clear c8
    have H' := am H; clear H
    have p5 : 0 ≤ (x3_1 : Int) := of_decide_eq_true (by assumption)
    have q5 : x3_1 < (a0.size : Int) := of_decide_eq_true (by assumption); have hx5 := bt_at a0 x3_1; replace p5 := eq_true p5; replace q5 := eq_true q5
    have p7 : 0 ≤ (x3_1 : Int) := of_decide_eq_true (by assumption)
    have q7 : x3_1 < (a0.size : Int) := of_decide_eq_true (by assumption); have hx7 := bt_at a0 x3_1; replace p7 := eq_true p7; replace q7 := eq_true q7
    go_wp2
    go_meet
    case rel => exact ⟨_, (true), cd, H', ⟨by have := HK1.out; first | omega | exact Nat.le_refl _⟩, by repeat (first | exact Drawn0.refl _ | apply Drawn0.step)⟩
   rw [if_neg c8] at H
   have c8b0 := dF c8; clear c8
   have H' := am H; clear H
   have p5 : 0 ≤ (x3_1 : Int) := of_decide_eq_true (by assumption)
   have q5 : x3_1 < (a0.size : Int) := of_decide_eq_true (by assumption); have hx5 := bt_at a0 x3_1; replace p5 := eq_true p5; replace q5 := eq_true q5
   have p7 : 0 ≤ (x3_1 : Int) := of_decide_eq_true (by assumption)
   have q7 : x3_1 < (a0.size : Int) := of_decide_eq_true (by assumption); have hx7 := bt_at a0 x3_1; replace p7 := eq_true p7; replace q7 := eq_true q7
   have p9 : 0 ≤ (x3_1 : Int) := of_decide_eq_true (by assumption)
   have q9 : x3_1 < (a0.size : Int) := of_decide_eq_true (by assumption); have hx9 := bt_at a0 x3_1; replace p9 := eq_true p9; replace q9 := eq_true q9
   go_wp2
   go_meet
   case rel => exact ⟨_, (decide ((bt a0 x3_1) > 122)), cd, H', ⟨by have := HK1.out; first | omega | exact Nat.le_refl _⟩, by repeat (first | exact Drawn0.refl _ | apply Drawn0.step)⟩
  clear HC3
  try clear c2
  try clear c2b0
  try clear p2
  try clear c4
  try clear c4b0
  try clear p5
  try clear q5
  try clear hx5
  try clear c6
  try clear c6b0
  try clear c6b1
  try clear p7
  try clear q7
  try clear hx7
  try clear c8
  try clear c8b0
  try clear p9
  try clear q9
  try clear hx9
  try clear p5
  try clear p7
  try clear p9
  try clear q5
  try clear q7
  try clear q9
  obtain ⟨kq, x25_2, rfl, HA, HJ2, ⟨mc2, rfl⟩⟩ := hcut
  cases kq with
  | zero => exact absurd HA.out (by simp [newswirelaw11_plain.j1])
  | succ kj2 =>
   have H := HA.out; clear HA; simp only [newswirelaw11_plain.j1] at H
   by_cases c10 : x25_2 = true
   ·subst c10
    replace H := ip H
    obtain rfl := Option.some.inj H
    go_wp2
    go_ret
    exact ⟨by first | rfl | (simp; done) | (simp [*]; done), by repeat (first | exact Drawn0.refl _ | apply Drawn0.step)⟩
   replace c10 := Bool.eq_false_iff.mpr c10; subst c10; replace H := inn H
   have H' := am H; clear H
   go_wp2
   go_roundg kj2
   case measure => have := HK1.out; have := HJ2.out; omega
   case rel => exact ⟨(wrap64 (x3_1 + 1)), cd, H', ⟨by have := HK1.out; have := HJ2.out; omega⟩, by repeat (first | exact Drawn0.refl _ | apply Drawn0.step)⟩

/-! ### newswireref11_begins: function 41 -/
def newswireref11_begins.l0 : Nat → List ByteArray → Int → List ByteArray → Int → Option (Bool)
 | 0, _, _, _, _ => none
 | k + 1, x0, x1, x2, x7 => if x7 < (x2.length : Int) then (if 0 ≤ (wrap64 (x1 + x7)) then (if (wrap64 (x1 + x7)) < (x0.length : Int) then (if 0 ≤ x7 then (if (rdOf ByteArray.empty x0 (wrap64 (x1 + x7))).toList = (rdOf ByteArray.empty x2 x7).toList then (newswireref11_begins.l0 k x0 x1 x2 (wrap64 (x7 + 1))) else (some false)) else (none)) else (none)) else (none)) else (some true)
def newswireref11_begins.f (k : Nat) (l0 : List ByteArray) (a1 : Int) (l2 : List ByteArray) : Option (Bool) := if (wrap64 (a1 + (l2.length : Int))) > (l0.length : Int) then (some false) else (newswireref11_begins.l0 k l0 a1 l2 0)
theorem newswireref11_begins.mono_l : ∀ k, (∀ y0 y1 y2 y3, LeO (newswireref11_begins.l0 k y0 y1 y2 y3) (newswireref11_begins.l0 (k + 1) y0 y1 y2 y3))
 | 0 => fun _ _ _ _ r h => by simp [newswireref11_begins.l0] at h
 | k + 1 => by
  have ih0 := newswireref11_begins.mono_l k
  intro y0 y1 y2 y3
  unfold newswireref11_begins.l0
  repeat' first
  | (with_reducible exact ih0 _ _ _ _)
  | (with_reducible exact LeO.refl _)
  | (with_reducible exact LeO.none _)
  | (with_reducible refine LeO.ite ?_ ?_)
  | (with_reducible refine LeO.bind ?_ (fun _ => ?_))
theorem newswireref11_begins.mono : ∀ a0 a1 a2 k, LeO (newswireref11_begins.f k a0 a1 a2) (newswireref11_begins.f (k + 1) a0 a1 a2) := by
 intro a0 a1 a2 k; have ih0 := newswireref11_begins.mono_l k
 unfold newswireref11_begins.f
 repeat' first
   | (with_reducible exact ih0 _ _ _ _)
   | (with_reducible exact LeO.refl _)
   | (with_reducible exact LeO.none _)
   | (with_reducible refine LeO.ite ?_ ?_)
   | (with_reducible refine LeO.bind ?_ (fun _ => ?_))
theorem newswireref11_begins.calls (k : Nat) (A0 : Option Addr) (c0 : Nat) (l0 : List ByteArray) (a1 : Int) (A2 : Option Addr) (c2 : Nat) (l2 : List ByteArray) (r : Bool) (w : World) (hr0 : Kd.C Kd.string w A0 l0.length l0) (hc0 : l0.length ≤ c0) (hr2 : Kd.C Kd.string w A2 l2.length l2) (hc2 : l2.length ≤ c2) (h : newswireref11_begins.f k l0 a1 l2 = some r) :
  Calls Tryd.prog 41 #[.slice A0 l0.length c0, .int .i64 a1, .slice A2 l2.length c2] w fun e w' => e = .returned (.bool r) ∧ Drawn0 w w' := by
 have HR0 := am hr0; have HC0 := am hc0; clear hr0 hc0; have HR2 := am hr2; have HC2 := am hc2; clear hr2 hc2
 have H := h; clear h; unfold newswireref11_begins.f at H
 by_cases c4 : (wrap64 (a1 + (l2.length : Int))) > (l0.length : Int)
 ·rw [if_pos c4] at H
  have c4b0 := dT c4; clear c4; obtain rfl := Option.some.inj H
  go_enter Tryd.func41, Tryd.ntmps41
  go_wp2
  repeat (go_quiet (fail); try go_wp2)
  go_ret
  exact ⟨by first | rfl | (simp; done) | (simp [*]; done), by repeat (first | exact Drawn0.refl _ | apply Drawn0.step)⟩
 rw [if_neg c4] at H
 have c4b0 := dF c4; clear c4
 have H' := am H; clear H
 go_enter Tryd.func41, Tryd.ntmps41
 go_wp2
 repeat (go_quiet (fail); try go_wp2)
 go_loopg [7] k (fun kq v7 w' => ∃ (x7_1 : Int), v7 = .int .i64 x7_1 ∧ Aside0 (newswireref11_begins.l0 kq l0 a1 l2 x7_1 = some r) ∧ Aside0 (kq ≤ k) ∧ Drawn0 w w')
 case atStart => exact ⟨(0), cd, H', ⟨Nat.le_refl _⟩, by repeat (first | exact Drawn0.refl _ | apply Drawn0.step)⟩
 clear H'
 try clear c2
 try clear p2
 try clear c4
 try clear c4b0
 obtain ⟨x7_1, rfl, HA, HK1, ⟨m1, rfl⟩⟩ := hrel
 cases gk with
 | zero => exact absurd HA.out (by simp [newswireref11_begins.l0])
 | succ k1 =>
  have H := HA.out; clear HA; simp only [newswireref11_begins.l0] at H
  by_cases c5 : x7_1 < (l2.length : Int); rotate_left
  ·rw [if_neg c5] at H
   have c5b0 := dF c5; clear c5; obtain rfl := Option.some.inj H
   go_wp2
   repeat (go_quiet (fail); try go_wp2)
   go_ret
   exact ⟨by first | rfl | (simp; done) | (simp [*]; done), by repeat (first | exact Drawn0.refl _ | apply Drawn0.step)⟩
  rw [if_pos c5] at H
  have c5b0 := dT c5; clear c5; obtain ⟨ji6, hji6⟩ : ∃ j_ : Int, (wrap64 (a1 + x7_1)) = j_ := ⟨_, rfl⟩; replace H : (if 0 ≤ (ji6) then (if (ji6) < (l0.length : Int) then (if 0 ≤ x7_1 then (if (rdOf ByteArray.empty l0 (ji6)).toList = (rdOf ByteArray.empty l2 x7_1).toList then (newswireref11_begins.l0 k1 l0 a1 l2 (wrap64 (x7_1 + 1))) else (some false)) else (none)) else (none)) else (none)) = some r := by first | (rw [hji6] at H; exact H) | (simp only [hji6] at H ⊢; exact H)
  have hji6w : (IntKind.i64.wrap (a1 + x7_1)) = ji6 := (i64_w _).trans hji6
  by_cases c7 : 0 ≤ (ji6); rotate_left
  ·rw [if_neg c7] at H
   exact absurd H (by simp)
  rw [if_pos c7] at H
  have c7b0 := dT c7; clear c7
  by_cases c8 : (ji6) < (l0.length : Int); rotate_left
  ·rw [if_neg c8] at H
   exact absurd H (by simp)
  rw [if_pos c8] at H
  have c8b0 := dT c8; clear c8
  by_cases c9 : 0 ≤ x7_1; rotate_left
  ·rw [if_neg c9] at H
   exact absurd H (by simp)
  rw [if_pos c9] at H
  have c9b0 := dT c9; clear c9
  by_cases c10 : (rdOf ByteArray.empty l0 (ji6)).toList = (rdOf ByteArray.empty l2 x7_1).toList
  ·rw [if_pos c10] at H
   have c10b0 := bT c10
   have c10b1 := nF c10; clear c10
   have H' := am H; clear H
   have p157 : 0 ≤ ((ji6) : Int) := of_decide_eq_true (by assumption)
   have q157 : (ji6) < (l0.length : Int) := of_decide_eq_true (by assumption); obtain ⟨ad157, e157, hx157_0⟩ := Kd.at_string HR0.out (ji6) p157 q157
   cases e157
   replace p157 := eq_true p157; replace q157 := eq_true q157
   have p158 : 0 ≤ (x7_1 : Int) := of_decide_eq_true (by assumption)
   have q158 : x7_1 < (l2.length : Int) := of_decide_eq_true (by assumption); obtain ⟨ad158, e158, hx158_0⟩ := Kd.at_string HR2.out x7_1 p158 q158
   cases e158
   replace p158 := eq_true p158; replace q158 := eq_true q158
   go_wp2
   repeat (go_quiet (fail); try go_wp2)
   go_roundg k1
   case measure => have := HK1.out; omega
   case rel => exact ⟨(wrap64 (x7_1 + 1)), cd, H', ⟨by have := HK1.out; omega⟩, by repeat (first | exact Drawn0.refl _ | apply Drawn0.step)⟩
  rw [if_neg c10] at H
  have c10b0 := bF c10
  have c10b1 := nT c10; obtain rfl := Option.some.inj H
  have p157 : 0 ≤ ((ji6) : Int) := of_decide_eq_true (by assumption)
  have q157 : (ji6) < (l0.length : Int) := of_decide_eq_true (by assumption); obtain ⟨ad157, e157, hx157_0⟩ := Kd.at_string HR0.out (ji6) p157 q157
  cases e157
  replace p157 := eq_true p157; replace q157 := eq_true q157
  have p158 : 0 ≤ (x7_1 : Int) := of_decide_eq_true (by assumption)
  have q158 : x7_1 < (l2.length : Int) := of_decide_eq_true (by assumption); obtain ⟨ad158, e158, hx158_0⟩ := Kd.at_string HR2.out x7_1 p158 q158
  cases e158
  replace p158 := eq_true p158; replace q158 := eq_true q158
  go_wp2
  repeat (go_quiet (fail); try go_wp2)
  go_ret
  exact ⟨by first | rfl | (simp; done) | (simp only [← hji6] <;> (first | rfl | simp)) | (simp [*]; done), by repeat (first | exact Drawn0.refl _ | apply Drawn0.step)⟩

/-! ### newswireref11_Same: function 19 -/
def newswireref11_Same.f (k : Nat) (l0 : List ByteArray) (l1 : List ByteArray) : Option (Bool) := if (l0.length : Int) = (l1.length : Int) then ((newswireref11_begins.f k l0 0 l1).bind fun t159 => (some t159)) else (some false)
theorem newswireref11_Same.mono : ∀ a0 a1 k, LeO (newswireref11_Same.f k a0 a1) (newswireref11_Same.f (k + 1) a0 a1) := by
 intro a0 a1 k
 unfold newswireref11_Same.f
 repeat' first
   | (with_reducible exact newswireref11_begins.mono _ _ _ _)
   | (with_reducible exact LeO.refl _)
   | (with_reducible exact LeO.none _)
   | (with_reducible refine LeO.ite ?_ ?_)
   | (with_reducible refine LeO.bind ?_ (fun _ => ?_))
theorem newswireref11_Same.calls (k : Nat) (A0 : Option Addr) (c0 : Nat) (l0 : List ByteArray) (A1 : Option Addr) (c1 : Nat) (l1 : List ByteArray) (r : Bool) (w : World) (hr0 : Kd.C Kd.string w A0 l0.length l0) (hc0 : l0.length ≤ c0) (hr1 : Kd.C Kd.string w A1 l1.length l1) (hc1 : l1.length ≤ c1) (h : newswireref11_Same.f k l0 l1 = some r) :
  Calls Tryd.prog 19 #[.slice A0 l0.length c0, .slice A1 l1.length c1] w fun e w' => e = .returned (.bool r) ∧ Drawn0 w w' := by
 have HR0 := am hr0; have HC0 := am hc0; clear hr0 hc0; have HR1 := am hr1; have HC1 := am hc1; clear hr1 hc1
 have H := h; clear h; unfold newswireref11_Same.f at H
 by_cases c3 : (l0.length : Int) = (l1.length : Int)
 ·rw [if_pos c3] at H
  have c3b0 := bT c3
  have c3b1 := nF c3
  have c3b2 : (l0.length == l1.length) = true := by first | simpa using c3 | (simp at c3 ⊢; omega)
  clear c3; replace H := bm H; obtain ⟨t159, A4, H⟩ := H; replace H : (some t159) = some r := H; replace A4 := am A4; obtain rfl := Option.some.inj H
  go_enter Tryd.func19, Tryd.ntmps19
  go_wp2_with (first | (go_at_call 41; (refine (newswireref11_begins.calls k _ _ l0 0 _ _ l1 t159 _ ?_ ?_ ?_ ?_ A4.out).mono ?_); exact C_st HR0.out; exact HC0.out; exact C_st HR1.out; exact HC1.out; rintro e w' ⟨rfl, ⟨nd, rfl⟩⟩))
  go_ret
  exact ⟨by first | rfl | (simp; done) | (simp [*]; done), by repeat (first | exact Drawn0.refl _ | apply Drawn0.step)⟩
 rw [if_neg c3] at H
 have c3b0 := bF c3
 have c3b1 := nT c3
 have c3b2 : (l0.length == l1.length) = false := by first | simpa using c3 | (simp at c3 ⊢; omega)
 obtain rfl := Option.some.inj H
 go_enter Tryd.func19, Tryd.ntmps19
 go_wp2
 go_ret
 exact ⟨by first | rfl | (simp; done) | (simp [*]; done), by repeat (first | exact Drawn0.refl _ | apply Drawn0.step)⟩

end Go.Proofs.YtjgobfbjmlacjaaDoor.XS
