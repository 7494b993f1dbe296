-- Written by wip/xprint.py (a driver of mine over the kit's printer) for this claim.
import Derived.Test.YtjgobfbjmlacjaaDoorXE0
namespace Go.Proofs.YtjgobfbjmlacjaaDoor.XE
open Go.RowKit Go.Proofs.YtjgobfbjmlacjaaDoorW.PrintWords Go.Proofs.YtjgobfbjmlacjaaDoorW.PrintLast Go.Proofs.YtjgobfbjmlacjaaDoorW.PrintMore
open Bool renaming true → tt, false → ff
open _root_.ByteArray renaming mk → B_
attribute [local go_sem] max2_int min2_int max_two min_two max_three min_three max_four min_four   -- for this text's walks alone
set_option maxHeartbeats 8000000
set_option maxRecDepth 100000
set_option linter.unusedVariables false
set_option linter.unusedSimpArgs false

/-! ### newswirelaw11_WordLetters: function 6 -/
mutual
def newswirelaw11_WordLetters.j0 : Nat → ByteArray → Int → Int → Bool → Int → List ByteArray → Bool → Option (Bool)
 | 0, _, _, _, _, _, _, _ => none
 | k + 1, x2, x3, x4, x11, x12, x13, x46 => if x46 = true then (some false) else (newswirelaw11_WordLetters.l0 k x2 x3 x4 x11 x12 x13 0)
def newswirelaw11_WordLetters.l0 : Nat → ByteArray → Int → Int → Bool → Int → List ByteArray → Int → Option (Bool)
 | 0, _, _, _, _, _, _, _ => none
 | k + 1, x2, x3, x4, x11, x12, x13, x15 => if x15 < (x13.length : Int) then (if 0 ≤ x15 then ((XI.word_Is.f k x12 (rdOf ByteArray.empty x13 x15)).bind fun t109 => (if t109 = true then ((XS.newswirelaw11_plain.f k (rdOf ByteArray.empty x13 x15)).bind fun t111 => (if t111 = true then (newswirelaw11_WordLetters.j2 k x2 x3 x4 x11 x12 x13 x15 ((rdOf ByteArray.empty x13 x15).toList == ([] : List UInt8))) else (newswirelaw11_WordLetters.j2 k x2 x3 x4 x11 x12 x13 x15 true))) else (newswirelaw11_WordLetters.j2 k x2 x3 x4 x11 x12 x13 x15 true))) else (none)) else ((XS.newswirelaw11_pick.f x4 (x13.length : Int)).bind fun t113 => (if 0 ≤ t113 then (if t113 < (x13.length : Int) then ((XS.newswirelaw11_pick.f x4 (wrap64 (((rdOf ByteArray.empty x13 t113).size : Int) + 1))).bind fun t115 => (if 0 ≤ (mn (x2.size : Int) 60) then (if (mn (x2.size : Int) 60) ≤ (x2.size : Int) then (if 0 ≤ t115 then (if t115 ≤ ((rdOf ByteArray.empty x13 t113).size : Int) then ((some (([x3] : List Int) : List Int)).bind fun y116 => (if ((rdOf ByteArray.empty x13 t113).extract 0 (t115 : Int).toNat).size + (strOfNums y116).size ≤ 9223372036854775807 then (if (((rdOf ByteArray.empty x13 t113).extract 0 (t115 : Int).toNat) ++ (strOfNums y116)).size + ((rdOf ByteArray.empty x13 t113).extract (t115 : Int).toNat (rdOf ByteArray.empty x13 t113).size).size ≤ 9223372036854775807 then ((some (([x2.extract 0 ((mn (x2.size : Int) 60) : Int).toNat, (((rdOf ByteArray.empty x13 t113).extract 0 (t115 : Int).toNat) ++ (strOfNums y116)) ++ ((rdOf ByteArray.empty x13 t113).extract (t115 : Int).toNat (rdOf ByteArray.empty x13 t113).size)] : List ByteArray) : List ByteArray)).bind fun y119 => (newswirelaw11_WordLetters.l1 k x11 x12 y119 (y119.length : Int) 0)) else (none)) else (none))) else (none)) else (none)) else (none)) else (none))) else (none)) else (none)))
def newswirelaw11_WordLetters.j2 : Nat → ByteArray → Int → Int → Bool → Int → List ByteArray → Int → Bool → Option (Bool)
 | 0, _, _, _, _, _, _, _, _ => none
 | k + 1, x2, x3, x4, x11, x12, x13, x15, x75 => if x75 = true then (some false) else (newswirelaw11_WordLetters.l0 k x2 x3 x4 x11 x12 x13 (wrap64 (x15 + 1)))
def newswirelaw11_WordLetters.l1 : Nat → Bool → Int → List ByteArray → Int → Int → Option (Bool)
 | 0, _, _, _, _, _ => none
 | k + 1, x11, x12, x104, x105, x106 => if x106 < x105 then (if 0 ≤ x106 then (if x106 < (x104.length : Int) then ((XI.word_Is.f k x12 (rdOf ByteArray.empty x104 x106)).bind fun t123 => (if t123 = true then ((XS.newswirelaw11_plain.f k (rdOf ByteArray.empty x104 x106)).bind fun t124 => (if t124 = true then (newswirelaw11_WordLetters.l1 k x11 x12 x104 x105 (wrap64 (x106 + 1))) else (some false))) else (newswirelaw11_WordLetters.l1 k x11 x12 x104 x105 (wrap64 (x106 + 1))))) else (none)) else (none)) else (some x11)
end
def newswirelaw11_WordLetters.f (k : Nat) (a0 : Int) (a1 : Int) (a2 : ByteArray) (a3 : Int) (a4 : Int) : Option (Bool) := (XS.newswirelaw11_sane.f k).bind fun t101 => (if t101 = true then ((XS.newswirelaw11_pick.f a0 3).bind fun t102 => ((XS.newswirelaw11_pick.f a1 1000000).bind fun t103 => ((XA.word_Words.f k (wrap64 (1 + t102)) t103).bind fun bt104 => (if bt104.2 = 0 then (if (bt104.1.length : Int) < 1 then (newswirelaw11_WordLetters.j0 k a2 a3 a4 t101 (wrap64 (1 + t102)) bt104.1 true) else (newswirelaw11_WordLetters.j0 k a2 a3 a4 t101 (wrap64 (1 + t102)) bt104.1 (decide ((bt104.1.length : Int) > 9)))) else (newswirelaw11_WordLetters.j0 k a2 a3 a4 t101 (wrap64 (1 + t102)) bt104.1 true))))) else (some false))
theorem newswirelaw11_WordLetters.mono_l : ∀ k, (∀ y0 y1 y2 y3 y4 y5 y6, LeO (newswirelaw11_WordLetters.j0 k y0 y1 y2 y3 y4 y5 y6) (newswirelaw11_WordLetters.j0 (k + 1) y0 y1 y2 y3 y4 y5 y6)) ∧ (∀ y0 y1 y2 y3 y4 y5 y6, LeO (newswirelaw11_WordLetters.l0 k y0 y1 y2 y3 y4 y5 y6) (newswirelaw11_WordLetters.l0 (k + 1) y0 y1 y2 y3 y4 y5 y6)) ∧ (∀ y0 y1 y2 y3 y4 y5 y6 y7, LeO (newswirelaw11_WordLetters.j2 k y0 y1 y2 y3 y4 y5 y6 y7) (newswirelaw11_WordLetters.j2 (k + 1) y0 y1 y2 y3 y4 y5 y6 y7)) ∧ (∀ y0 y1 y2 y3 y4, LeO (newswirelaw11_WordLetters.l1 k y0 y1 y2 y3 y4) (newswirelaw11_WordLetters.l1 (k + 1) y0 y1 y2 y3 y4))
 | 0 => ⟨fun _ _ _ _ _ _ _ r h => by simp [newswirelaw11_WordLetters.j0] at h, fun _ _ _ _ _ _ _ r h => by simp [newswirelaw11_WordLetters.l0] at h, fun _ _ _ _ _ _ _ _ r h => by simp [newswirelaw11_WordLetters.j2] at h, fun _ _ _ _ _ r h => by simp [newswirelaw11_WordLetters.l1] at h⟩
 | k + 1 => by
  obtain ⟨ih0, ih1, ih2, ih3⟩ := newswirelaw11_WordLetters.mono_l k
  refine ⟨?_, ?_, ?_, ?_⟩
  all_goals
   intros; first | unfold newswirelaw11_WordLetters.j0 | unfold newswirelaw11_WordLetters.l0 | unfold newswirelaw11_WordLetters.j2 | unfold newswirelaw11_WordLetters.l1
   repeat' first
   | (with_reducible exact ih0 _ _ _ _ _ _ _)
   | (with_reducible exact ih1 _ _ _ _ _ _ _)
   | (with_reducible exact ih2 _ _ _ _ _ _ _ _)
   | (with_reducible exact ih3 _ _ _ _ _)
   | (with_reducible exact XA.word_Words.mono _ _ _)
   | (with_reducible exact XI.word_Is.mono _ _ _)
   | (with_reducible exact XS.newswirelaw11_plain.mono _ _)
   | (with_reducible exact XS.newswirelaw11_sane.mono _)
   | (with_reducible exact LeO.refl _)
   | (with_reducible exact LeO.none _)
   | (with_reducible refine LeO.ite ?_ ?_)
   | (with_reducible refine LeO.bind ?_ (fun _ => ?_))
theorem newswirelaw11_WordLetters.mono : ∀ a0 a1 a2 a3 a4 k, LeO (newswirelaw11_WordLetters.f k a0 a1 a2 a3 a4) (newswirelaw11_WordLetters.f (k + 1) a0 a1 a2 a3 a4) := by
 intro a0 a1 a2 a3 a4 k; obtain ⟨ih0, ih1, ih2, ih3⟩ := newswirelaw11_WordLetters.mono_l k
 unfold newswirelaw11_WordLetters.f
 repeat' first
   | (with_reducible exact ih0 _ _ _ _ _ _ _)
   | (with_reducible exact ih1 _ _ _ _ _ _ _)
   | (with_reducible exact ih2 _ _ _ _ _ _ _ _)
   | (with_reducible exact ih3 _ _ _ _ _)
   | (with_reducible exact XA.word_Words.mono _ _ _)
   | (with_reducible exact XI.word_Is.mono _ _ _)
   | (with_reducible exact XS.newswirelaw11_plain.mono _ _)
   | (with_reducible exact XS.newswirelaw11_sane.mono _)
   | (with_reducible exact LeO.refl _)
   | (with_reducible exact LeO.none _)
   | (with_reducible refine LeO.ite ?_ ?_)
   | (with_reducible refine LeO.bind ?_ (fun _ => ?_))
def newswirelaw11_WordLetters.T16 : Bool × List (List Nat × List Nat) := (true, [([], []), ([], []), ([1], [1]), ([2], [2]), ([0, 3], [0, 3]), ([], []), ([], []), ([5, 6], [5, 6]), ([], []), ([8], [8]), ([9], [9]), ([7, 10], [7, 10]), ([], []), ([], []), ([12, 13], [12, 13]), ([11, 14], [11, 14]), ([4, 15], [4, 15]), ([16], [16]), ([], [])])
def newswirelaw11_WordLetters.B16 : List Nat := [0, 0, 2, 6, 15, 0, 0, 96, 0, 256, 768, 2016, 0, 0, 12288, 32736, 65535, 131071, 0]
theorem newswirelaw11_WordLetters.tab16 : rtab .any (opsOf Tryd.f6 16) = newswirelaw11_WordLetters.T16 := by kernel_rfl
theorem newswirelaw11_WordLetters.bits16 : waitsOk newswirelaw11_WordLetters.T16.2 newswirelaw11_WordLetters.B16 = true := by kernel_rfl
theorem newswirelaw11_WordLetters.calls (k : Nat) (a0 : Int) (a1 : Int) (a2 : ByteArray) (a3 : Int) (a4 : Int) (r : Bool) (w : World) (hL_ : LW w) (h : newswirelaw11_WordLetters.f k a0 a1 a2 a3 a4 = some r) :
  Calls Tryd.prog 6 #[.int .i64 a0, .int .i64 a1, .string a2, .int .u8 a3, .int .i64 a4] w fun e w' => e = .returned (.bool r) ∧ Below w.heap.size w w' := by
 have HLW := am hL_; clear hL_; have HB := am (Below.refl w.heap.size w)
 have H := h; clear h; unfold newswirelaw11_WordLetters.f at H; replace H := bm H; obtain ⟨t101, A6, H⟩ := H; replace A6 := am A6
 by_cases c7 : t101 = true; rotate_left
 ·replace c7 := Bool.eq_false_iff.mpr c7
  subst c7; replace H := inn H
  obtain rfl := Option.some.inj H
  go_enter Tryd.func6, Tryd.ntmps6
  go_wp2_with (first | ((with_reducible refine gate_callee (f := 10) rfl ?_); refine gL (some 22) rfl rfl Tryd.func10 #[] ?_; (refine (XS.newswirelaw11_sane.calls k  false _ ?_ A6.out).mono ?_); exact LW.below HLW.out (bes HB.out); rintro e w60 ⟨rfl, hb⟩; refine ⟨_, rfl, ?_⟩; replace HB := bsp HB hb; (try clear hb)))
  go_ret
  exact ⟨er, by exact bes HB.out⟩
 subst c7; replace H := ip H
 replace H := bm H; obtain ⟨t102, A8, H⟩ := H; replace A8 := am A8; replace H := bm H; obtain ⟨t103, A9, H⟩ := H; replace A9 := am A9; replace H := bm H; obtain ⟨⟨t104, t105⟩, A100, H⟩ := H; replace H : (if t105 = 0 then (if (t104.length : Int) < 1 then (newswirelaw11_WordLetters.j0 k a2 a3 a4 true (wrap64 (1 + t102)) t104 true) else (newswirelaw11_WordLetters.j0 k a2 a3 a4 true (wrap64 (1 + t102)) t104 (decide ((t104.length : Int) > 9)))) else (newswirelaw11_WordLetters.j0 k a2 a3 a4 true (wrap64 (1 + t102)) t104 true)) = some r := H; have A10 := am A100; clear A100; have HC11 := am H; clear H
 go_enter Tryd.func6, Tryd.ntmps6
 go_upto_region 6 with (first | ((with_reducible refine gate_callee (f := 10) rfl ?_); refine gL (some 22) rfl rfl Tryd.func10 #[] ?_; (refine (XS.newswirelaw11_sane.calls k  true _ ?_ A6.out).mono ?_); exact LW.below HLW.out (bes HB.out); rintro e w12 ⟨rfl, hb⟩; refine ⟨_, rfl, ?_⟩; replace HB := bsp HB hb; (try clear hb)) | ((with_reducible refine gate_callee (f := 11) rfl ?_); refine gL (some 26) rfl rfl Tryd.func11 #[.int .i64 a0, .int .i64 3] ?_; (with_reducible refine (XS.newswirelaw11_pick.calls a0 3 t102 _ A8.out).mono ?_); rintro e w' ⟨rfl, ⟨nd, rfl⟩⟩; refine ⟨_, rfl, ?_⟩) | ((with_reducible refine gate_callee (f := 11) rfl ?_); refine gL (some 31) rfl rfl Tryd.func11 #[.int .i64 a1, .int .i64 1000000] ?_; (with_reducible refine (XS.newswirelaw11_pick.calls a1 1000000 t103 _ A9.out).mono ?_); rintro e w' ⟨rfl, ⟨nd, rfl⟩⟩; refine ⟨_, rfl, ?_⟩) | ((with_reducible refine gate_callee (f := 18) rfl ?_); refine gL (some 32) rfl rfl Tryd.func18 #[.int .i64 (wrap64 (1 + t102)), .int .i64 t103] ?_; (refine (XA.word_Words.calls k (wrap64 (1 + t102)) t103 t104 t105 _ ?_ A10.out).mono ?_); exact LW.below HLW.out (bes HB.out); rintro e w13 ⟨v106, rfl, ho0, hb⟩; refine ⟨_, rfl, ?_⟩; have HO107 := am (Kd.R_lower ho0 (below_size (bes HB.out))); replace HB := bsp HB hb; (try clear hb); (try clear ho0)))
 (try simp only [Act.put, sa_, s0_, s1_])
 go_cut [46] (fun v46 wc => ∃ (kq : Nat) (x46_10 : Bool), v46 = .bool x46_10 ∧ Aside0 (newswirelaw11_WordLetters.j0 kq a2 a3 a4 true (wrap64 (1 + t102)) t104 x46_10 = some r) ∧ Aside0 (kq ≤ k) ∧ Aside0 (Kd.R Kd.string 9 wc w.heap.size (fun _ => True) v106 t104) ∧ Aside0 (Below w.heap.size w wc))
 case first =>
  have H := HC11.out; clear HC11
  by_cases c14 : t105 = 0; rotate_left
  ·rw [if_neg c14] at H
   have c14b0 := bF c14
   have c14b1 := nT c14
   (first | rw [c14b0] | (simp only [i64_w, i32_w]; rw [c14b0]) | skip)
   have H' := am H; clear H
   go_wp2
   go_meet
   case rel => exact ⟨_, (true), cd, H', ⟨om⟩, ⟨by exact R_st HO107.out⟩, ⟨by exact bes HB.out⟩⟩
  rw [if_pos c14] at H
  have c14b0 := bT c14
  have c14b1 := nF c14; clear c14
  (first | rw [c14b0] | (simp only [i64_w, i32_w]; rw [c14b0]) | skip)
  by_cases c15 : (t104.length : Int) < 1
  ·rw [if_pos c15] at H
   have c15b0 := dT c15
   have c15b1 : decide (t104.length < 1) = true := decide_eq_true (by omega); clear c15
   have H' := am H; clear H; obtain ⟨Ao16, co16, eo16⟩ := Kd.R_slice HO107.out; subst eo16
   go_wp2
   go_meet
   case rel => exact ⟨_, (true), cd, H', ⟨om⟩, ⟨by exact R_st HO107.out⟩, ⟨by exact bes HB.out⟩⟩
  rw [if_neg c15] at H
  have c15b0 := dF c15
  have c15b1 : decide (t104.length < 1) = false := decide_eq_false (by omega); clear c15
  have H' := am H; clear H; obtain ⟨Ao17, co17, eo17⟩ := Kd.R_slice HO107.out; subst eo17
  go_wp2
  go_meet
  case rel => exact ⟨_, (decide ((t104.length : Int) > 9)), cd, H', ⟨om⟩, ⟨by exact R_st HO107.out⟩, ⟨by exact bes HB.out⟩⟩
 clear HC11
 try clear c1
 try clear p2
 try clear c6
 try clear p6
 try clear c7
 try clear c10
 try clear c11
 try clear c14
 try clear c14b0
 try clear c14b1
 try clear c15
 try clear c15b0
 try clear c15b1
 obtain ⟨kq, x46_10, rfl, HA, HJ10, O0, HB⟩ := hcut
 cases kq with
 | zero => exact absurd HA.out (by simp [newswirelaw11_WordLetters.j0])
 | succ kj10 =>
  have H := HA.out; clear HA; simp only [newswirelaw11_WordLetters.j0] at H
  by_cases c18 : x46_10 = true
  ·subst c18
   replace H := ip H
   obtain rfl := Option.some.inj H
   go_wp2
   go_ret
   exact ⟨er, by exact bes HB.out⟩
  replace c18 := Bool.eq_false_iff.mpr c18; subst c18; replace H := inn H
  have H' := am H; clear H
  go_wp2
  go_loopg [15] kj10 (fun kq v15 w' => ∃ (x15_2 : Int), v15 = .int .i64 x15_2 ∧ Aside0 (newswirelaw11_WordLetters.l0 kq a2 a3 a4 true (wrap64 (1 + t102)) t104 x15_2 = some r) ∧ Aside0 (kq ≤ kj10) ∧ Aside0 (Kd.R Kd.string 9 w' w.heap.size (fun _ => True) v106 t104) ∧ Aside0 (Below w.heap.size w w'))
  case atStart => exact ⟨(0), cd, H', ⟨Nat.le_refl _⟩, ⟨by exact R_st O0.out⟩, ⟨by exact bes HB.out⟩⟩
  clear H'
  try clear c1
  try clear p2
  try clear c6
  try clear p6
  try clear c7
  try clear c10
  try clear c11
  try clear c14
  try clear c14b0
  try clear c14b1
  try clear c15
  try clear c15b0
  try clear c15b1
  try clear c18
  try clear p2
  try clear p6
  obtain ⟨x15_2, rfl, HA, HK2, O0, HB⟩ := hrel
  cases gk with
  | zero => exact absurd HA.out (by simp [newswirelaw11_WordLetters.l0])
  | succ k2 =>
   have H := HA.out; clear HA; simp only [newswirelaw11_WordLetters.l0] at H
   by_cases c19 : x15_2 < (t104.length : Int)
   ·rw [if_pos c19] at H
    have c19b0 := dT c19; clear c19
    by_cases c20 : 0 ≤ x15_2; rotate_left
    ·rw [if_neg c20] at H
     exact absurd H (by simp)
    rw [if_pos c20] at H
    have c20b0 := dT c20; clear c20; replace H := bm H; obtain ⟨t109, A21, H⟩ := H; replace A21 := am A21; have HC22 := am H; clear H; obtain ⟨Ao23, co23, eo23⟩ := Kd.R_slice O0.out; subst eo23
    have p108 : 0 ≤ (x15_2 : Int) := of_decide_eq_true (by assumption)
    have q108 : x15_2 < (t104.length : Int) := of_decide_eq_true (by assumption); obtain ⟨ad108, e108, hx108_0⟩ := Kd.at_string (Kd.R_reads' O0.out).2.2 x15_2 p108 q108
    cases e108
    replace p108 := eq_true p108; replace q108 := eq_true q108
    go_upto_region 12 with (first | ((with_reducible refine gate_callee (f := 20) rfl ?_); refine gL (some 58) rfl rfl Tryd.func20 #[.int .i64 (wrap64 (1 + t102)), .string (rdOf ByteArray.empty t104 x15_2)] ?_; (refine (XI.word_Is.calls k2 (wrap64 (1 + t102)) (rdOf ByteArray.empty t104 x15_2) t109 _ ?_ A21.out).mono ?_); exact LW.below HLW.out (bes HB.out); rintro e w24 ⟨rfl, hb⟩; refine ⟨_, rfl, ?_⟩; replace O0 := rb O0 hb; replace HB := bsp HB hb; (try clear hb)))
    (try simp only [Act.put, sa_, s0_, s1_])
    go_cut [75] (fun v75 wc => ∃ (kq : Nat) (x75_21 : Bool), v75 = .bool x75_21 ∧ Aside0 (newswirelaw11_WordLetters.j2 kq a2 a3 a4 true (wrap64 (1 + t102)) t104 x15_2 x75_21 = some r) ∧ Aside0 (kq ≤ k2) ∧ Aside0 (Kd.R Kd.string 9 wc w.heap.size (fun _ => True) (.slice (some ad108) t104.length co23) t104) ∧ Aside0 (Below w.heap.size w wc))
    case first =>
     have H := HC22.out; clear HC22
     by_cases c25 : t109 = true; rotate_left
     ·replace c25 := Bool.eq_false_iff.mpr c25
      subst c25; replace H := inn H
      have H' := am H; clear H
      go_wp2
      go_meet
      case rel => exact ⟨_, (true), cd, H', ⟨by have := HJ10.out; have := HK2.out; first | omega | exact Nat.le_refl _⟩, ⟨by exact R_st O0.out⟩, ⟨by exact bes HB.out⟩⟩
     subst c25; replace H := ip H
     replace H := bm H; obtain ⟨t111, A26, H⟩ := H; replace A26 := am A26
     by_cases c27 : t111 = true
     ·subst c27
      replace H := ip H
      have H' := am H; clear H
      have p110 : 0 ≤ (x15_2 : Int) := of_decide_eq_true (by assumption)
      have q110 : x15_2 < (t104.length : Int) := of_decide_eq_true (by assumption); obtain ⟨ad110, e110, hx110_0⟩ := Kd.at_string (Kd.R_reads' O0.out).2.2 x15_2 p110 q110; obtain rfl : ad108 = ad110 := (by injection e110); replace p110 := eq_true p110; replace q110 := eq_true q110
      go_wp2_with (first | (go_at_call 21; (refine (XS.newswirelaw11_plain.calls k2 (rdOf ByteArray.empty t104 x15_2) true _ A26.out).mono ?_); rintro e w' ⟨rfl, ⟨nd, rfl⟩⟩; have p112 : 0 ≤ (x15_2 : Int) := of_decide_eq_true (by assumption); have q112 : x15_2 < (t104.length : Int) := of_decide_eq_true (by assumption); obtain ⟨ad112, e112, hx112_0⟩ := Kd.at_string (Kd.R_reads' O0.out).2.2 x15_2 p112 q112; obtain rfl : ad108 = ad112 := (by injection e112); replace p112 := eq_true p112; replace q112 := eq_true q112))
      go_meet
      case rel => exact ⟨_, (((rdOf ByteArray.empty t104 x15_2).toList == ([] : List UInt8))), cd, H', ⟨by have := HJ10.out; have := HK2.out; first | omega | exact Nat.le_refl _⟩, ⟨by exact R_st O0.out⟩, ⟨by exact bes HB.out⟩⟩
     replace c27 := Bool.eq_false_iff.mpr c27; subst c27; replace H := inn H
     have H' := am H; clear H
     have p110 : 0 ≤ (x15_2 : Int) := of_decide_eq_true (by assumption)
     have q110 : x15_2 < (t104.length : Int) := of_decide_eq_true (by assumption); obtain ⟨ad110, e110, hx110_0⟩ := Kd.at_string (Kd.R_reads' O0.out).2.2 x15_2 p110 q110; obtain rfl : ad108 = ad110 := (by injection e110); replace p110 := eq_true p110; replace q110 := eq_true q110
     go_wp2_with (first | (go_at_call 21; (refine (XS.newswirelaw11_plain.calls k2 (rdOf ByteArray.empty t104 x15_2) false _ A26.out).mono ?_); rintro e w' ⟨rfl, ⟨nd, rfl⟩⟩))
     go_meet
     case rel => exact ⟨_, (true), cd, H', ⟨by have := HJ10.out; have := HK2.out; first | omega | exact Nat.le_refl _⟩, ⟨by exact R_st O0.out⟩, ⟨by exact bes HB.out⟩⟩
    clear HC22
    try clear c1
    try clear p1
    try clear q1
    try clear hx1
    try clear c2
    try clear p2
    try clear c6
    try clear p6
    try clear c7
    try clear c10
    try clear p10
    try clear q10
    try clear hx10
    try clear c11
    try clear p11
    try clear q11
    try clear hx11
    try clear c14
    try clear c14b0
    try clear c14b1
    try clear c15
    try clear c15b0
    try clear c15b1
    try clear c18
    try clear c19
    try clear c19b0
    try clear c20
    try clear c20b0
    try clear c25
    try clear c27
    try clear hx108_0
    try clear hx110_0
    try clear hx112_0
    try clear p108
    try clear p110
    try clear p112
    try clear p2
    try clear p6
    try clear q108
    try clear q110
    try clear q112
    obtain ⟨kq, x75_21, rfl, HA, HJ21, O0, HB⟩ := hcut
    cases kq with
    | zero => exact absurd HA.out (by simp [newswirelaw11_WordLetters.j2])
    | succ kj21 =>
     have H := HA.out; clear HA; simp only [newswirelaw11_WordLetters.j2] at H
     by_cases c28 : x75_21 = true
     ·subst c28
      replace H := ip H
      obtain rfl := Option.some.inj H
      go_wp2
      go_ret
      exact ⟨er, by exact bes HB.out⟩
     replace c28 := Bool.eq_false_iff.mpr c28; subst c28; replace H := inn H
     have H' := am H; clear H
     go_wp2
     go_roundg kj21
     case measure => have := HJ10.out; have := HK2.out; have := HJ21.out; omega
     case rel => exact ⟨(wrap64 (x15_2 + 1)), cd, H', ⟨by have := HJ10.out; have := HK2.out; have := HJ21.out; omega⟩, ⟨by exact R_st O0.out⟩, ⟨by exact bes HB.out⟩⟩
   rw [if_neg c19] at H
   have c19b0 := dF c19; clear c19; replace H := bm H; obtain ⟨t113, A29, H⟩ := H; replace A29 := am A29
   by_cases c30 : 0 ≤ t113; rotate_left
   ·rw [if_neg c30] at H
    exact absurd H (by simp)
   rw [if_pos c30] at H
   have c30b0 := dT c30; clear c30
   by_cases c31 : t113 < (t104.length : Int); rotate_left
   ·rw [if_neg c31] at H
    exact absurd H (by simp)
   rw [if_pos c31] at H
   have c31b0 := dT c31; clear c31; replace H := bm H; obtain ⟨t115, A32, H⟩ := H; replace A32 := am A32; obtain ⟨ji33, hji33⟩ : ∃ j_ : Int, (mn (a2.size : Int) 60) = j_ := ⟨_, rfl⟩; replace H : (if 0 ≤ (ji33) then (if (ji33) ≤ (a2.size : Int) then (if 0 ≤ t115 then (if t115 ≤ ((rdOf ByteArray.empty t104 t113).size : Int) then ((some (([a3] : List Int) : List Int)).bind fun y116 => (if ((rdOf ByteArray.empty t104 t113).extract 0 (t115 : Int).toNat).size + (strOfNums y116).size ≤ 9223372036854775807 then (if (((rdOf ByteArray.empty t104 t113).extract 0 (t115 : Int).toNat) ++ (strOfNums y116)).size + ((rdOf ByteArray.empty t104 t113).extract (t115 : Int).toNat (rdOf ByteArray.empty t104 t113).size).size ≤ 9223372036854775807 then ((some (([a2.extract 0 ((ji33) : Int).toNat, (((rdOf ByteArray.empty t104 t113).extract 0 (t115 : Int).toNat) ++ (strOfNums y116)) ++ ((rdOf ByteArray.empty t104 t113).extract (t115 : Int).toNat (rdOf ByteArray.empty t104 t113).size)] : List ByteArray) : List ByteArray)).bind fun y119 => (newswirelaw11_WordLetters.l1 k2 true (wrap64 (1 + t102)) y119 (y119.length : Int) 0)) else (none)) else (none))) else (none)) else (none)) else (none)) else (none)) = some r := by first | (rw [hji33] at H; exact H) | (simp only [hji33] at H ⊢; exact H)
   (try rw [hji33] at A29)
   (try rw [hji33] at A32)
   have hji33_ : (if 60 < (a2.size : Int) then 60 else (a2.size : Int)) = ji33 := hji33
   by_cases c34 : 0 ≤ (ji33); rotate_left
   ·rw [if_neg c34] at H
    exact absurd H (by simp)
   rw [if_pos c34] at H; have c34b0 := eq_true c34
   have c34b1 := dT c34; clear c34
   by_cases c35 : (ji33) ≤ (a2.size : Int); rotate_left
   ·rw [if_neg c35] at H
    exact absurd H (by simp)
   rw [if_pos c35] at H; have c35b0 := eq_true c35
   have c35b1 := dT c35; clear c35
   by_cases c36 : 0 ≤ t115; rotate_left
   ·rw [if_neg c36] at H
    exact absurd H (by simp)
   rw [if_pos c36] at H; have c36b0 := eq_true c36
   have c36b1 := dT c36; clear c36
   by_cases c37 : t115 ≤ ((rdOf ByteArray.empty t104 t113).size : Int); rotate_left
   ·rw [if_neg c37] at H
    exact absurd H (by simp)
   rw [if_pos c37] at H; have c37b0 := eq_true c37
   have c37b1 := dT c37; clear c37; obtain ⟨y116, hy116⟩ : ∃ y_ : List Int, y_ = (([a3] : List Int)) := ⟨_, rfl⟩; replace H : (if ((rdOf ByteArray.empty t104 t113).extract 0 (t115 : Int).toNat).size + (strOfNums y116).size ≤ 9223372036854775807 then (if (((rdOf ByteArray.empty t104 t113).extract 0 (t115 : Int).toNat) ++ (strOfNums y116)).size + ((rdOf ByteArray.empty t104 t113).extract (t115 : Int).toNat (rdOf ByteArray.empty t104 t113).size).size ≤ 9223372036854775807 then ((some (([a2.extract 0 ((ji33) : Int).toNat, (((rdOf ByteArray.empty t104 t113).extract 0 (t115 : Int).toNat) ++ (strOfNums y116)) ++ ((rdOf ByteArray.empty t104 t113).extract (t115 : Int).toNat (rdOf ByteArray.empty t104 t113).size)] : List ByteArray) : List ByteArray)).bind fun y119 => (newswirelaw11_WordLetters.l1 k2 true (wrap64 (1 + t102)) y119 (y119.length : Int) 0)) else (none)) else (none)) = some r := by first | (rw [hy116]; with_reducible exact H) | (have H2_ := (Option.bind_some _ _).symm.trans H; rw [hy116]; with_reducible exact H2_) | (have H2_ := (Option.bind_some _ _).symm.trans H; with_reducible exact H2_) | with_reducible exact H | (rw [hy116]; exact H) | exact H
   have Ny116 := am hy116; clear hy116
   by_cases c38 : ((rdOf ByteArray.empty t104 t113).extract 0 (t115 : Int).toNat).size + (strOfNums y116).size ≤ 9223372036854775807; rotate_left
   ·rw [if_neg c38] at H
    exact absurd H (by simp)
   rw [if_pos c38] at H; have c38b0 := eq_true c38
   have c38b1 := dT c38
   try have c38b2 := eF c38
   have c38m : t115.toNat + (strOfNums y116).size ≤ 9223372036854775807 := by have h_ := c38; have g_ := of_eq_true c37b0; rw [ByteArray.size_extract] at h_; omega
   have c38m2 := eF c38m
   have c39b0 := eq_true (of_decide_eq_true (by assumption) : 0 ≤ t115); have c40b0 := eq_true (of_decide_eq_true (by assumption) : t115 ≤ ((rdOf ByteArray.empty t104 t113).size : Int))
   by_cases c41 : (((rdOf ByteArray.empty t104 t113).extract 0 (t115 : Int).toNat) ++ (strOfNums y116)).size + ((rdOf ByteArray.empty t104 t113).extract (t115 : Int).toNat (rdOf ByteArray.empty t104 t113).size).size ≤ 9223372036854775807; rotate_left
   ·rw [if_neg c41] at H
    exact absurd H (by simp)
   rw [if_pos c41] at H; have c41b0 := eq_true c41
   have c41b1 := dT c41
   try have c41b2 := eF c41
   have c41m : t115.toNat + (strOfNums y116).size + ((rdOf ByteArray.empty t104 t113).size - t115.toNat) ≤ 9223372036854775807 := by have h_ := c41; have g_ := of_eq_true c37b0; rw [ByteArray.size_append, ByteArray.size_extract, ByteArray.size_extract] at h_; omega
   have c41m2 := eF c41m
   have c41n : ((rdOf ByteArray.empty t104 t113).extract 0 (t115 : Int).toNat).size + (strOfNums y116).size + ((rdOf ByteArray.empty t104 t113).extract (t115 : Int).toNat (rdOf ByteArray.empty t104 t113).size).size ≤ 9223372036854775807 := by have h_ := c41; (try simp only [ByteArray.size_append] at h_); first | exact h_ | omega
   have c41n0 := eq_true c41n; have c41n1 := decide_eq_true c41n; have c41n2 := eq_false (Nat.not_lt.2 c41n); obtain ⟨y119, hy119⟩ : ∃ y_ : List ByteArray, y_ = (([a2.extract 0 ((ji33) : Int).toNat, (((rdOf ByteArray.empty t104 t113).extract 0 (t115 : Int).toNat) ++ (strOfNums y116)) ++ ((rdOf ByteArray.empty t104 t113).extract (t115 : Int).toNat (rdOf ByteArray.empty t104 t113).size)] : List ByteArray)) := ⟨_, rfl⟩; replace H : (newswirelaw11_WordLetters.l1 k2 true (wrap64 (1 + t102)) y119 (y119.length : Int) 0) = some r := by first | (rw [hy119]; with_reducible exact H) | (have H2_ := (Option.bind_some _ _).symm.trans H; rw [hy119]; with_reducible exact H2_) | (have H2_ := (Option.bind_some _ _).symm.trans H; with_reducible exact H2_) | with_reducible exact H | (rw [hy119]; exact H) | exact H
   have Ny119 := am hy119; clear hy119
   have H' := am H; clear H; obtain ⟨Ao42, co42, eo42⟩ := Kd.R_slice O0.out; subst eo42
   try go_wp2_with (first | ((with_reducible refine gate_callee (f := 11) rfl ?_); refine gL (some 80) rfl rfl Tryd.func11 #[.int .i64 a4, .int .i64 (t104.length : Int)] ?_; (with_reducible refine (XS.newswirelaw11_pick.calls a4 (t104.length : Int) t113 _ A29.out).mono ?_); rintro e w' ⟨rfl, ⟨nd, rfl⟩⟩; refine ⟨_, rfl, ?_⟩; have p114 : 0 ≤ (t113 : Int) := of_decide_eq_true (by assumption); have q114 : t113 < (t104.length : Int) := of_decide_eq_true (by assumption); obtain ⟨ad114, e114, hx114_0⟩ := Kd.at_string (Kd.R_reads' O0.out).2.2 t113 p114 q114; cases e114; replace p114 := eq_true p114; replace q114 := eq_true q114) | ((with_reducible refine gate_callee (f := 11) rfl ?_); refine gL (some 87) rfl rfl Tryd.func11 #[.int .i64 a4, .int .i64 (wrap64 (((rdOf ByteArray.empty t104 t113).size : Int) + 1))] ?_; (with_reducible refine (XS.newswirelaw11_pick.calls a4 (wrap64 (((rdOf ByteArray.empty t104 t113).size : Int) + 1)) t115 _ A32.out).mono ?_); rintro e w' ⟨rfl, ⟨nd, rfl⟩⟩; refine ⟨_, rfl, ?_⟩))
   (try (rw [drewN_self wr]; generalize hq_ : World.drewN wr _ = wr; have n0_ : Aside0 (Kd.R Kd.string 9 wr w.heap.size (fun _ => True) (.slice (some ad114) t104.length co42) t104) := ⟨by rw [← hq_]; exact (R_st O0.out)⟩; have n1_ : Aside0 (Below w.heap.size w wr) := ⟨by rw [← hq_]; exact (bes HB.out)⟩; clear O0 HB hq_; have O0 := n0_; have HB := n1_; clear n0_ n1_)); replace O0 := am (Kd.R_drew O0.out); replace HB := am (below_drew1 HB.out)
   refine start_ (n := 19) (S := fun w' => True) (ds := []) #[ff,ff,ff,ff,ff,ff,ff,ff,ff,ff,ff,ff,ff,ff,ff,ff,ff,ff,ff] (by kernel_rfl) rfl rfl trivial (fun hHeld => ?_); refine with_tabW newswirelaw11_WordLetters.tab16 newswirelaw11_WordLetters.bits16 (fun HT_ HW_ => ?_)
   generalize wr.drew = w43 at O0 HB hHeld ⊢
   refine pv 0 (some 88) HT_.out #[tt,ff,ff,ff,ff,ff,ff,ff,ff,ff,ff,ff,ff,ff,ff,ff,ff,ff,ff] ?_
   refine pv 1 (some 89) HT_.out #[tt,tt,ff,ff,ff,ff,ff,ff,ff,ff,ff,ff,ff,ff,ff,ff,ff,ff,ff] ?_
   refine pv 2 (some 90) HT_.out #[tt,tt,tt,ff,ff,ff,ff,ff,ff,ff,ff,ff,ff,ff,ff,ff,ff,ff,ff] ?_
   refine pv 3 (some 91) HT_.out #[tt,tt,tt,tt,ff,ff,ff,ff,ff,ff,ff,ff,ff,ff,ff,ff,ff,ff,ff] ?_
   refine pv 4 (some 92) HT_.out #[tt,tt,tt,tt,tt,ff,ff,ff,ff,ff,ff,ff,ff,ff,ff,ff,ff,ff,ff] ?_
   refine pv 5 (some 93) HT_.out #[tt,tt,tt,tt,tt,tt,ff,ff,ff,ff,ff,ff,ff,ff,ff,ff,ff,ff,ff] ?_
   refine pv 6 (some 94) HT_.out #[tt,tt,tt,tt,tt,tt,tt,ff,ff,ff,ff,ff,ff,ff,ff,ff,ff,ff,ff] ?_
   refine pv 7 (some 95) HT_.out #[tt,tt,tt,tt,tt,tt,tt,tt,ff,ff,ff,ff,ff,ff,ff,ff,ff,ff,ff] ?_
   refine pv 8 (some 96) HT_.out #[tt,tt,tt,tt,tt,tt,tt,tt,tt,ff,ff,ff,ff,ff,ff,ff,ff,ff,ff] ?_
   refine pv 12 (some 100) HT_.out #[tt,tt,tt,tt,tt,tt,tt,tt,tt,ff,ff,ff,tt,ff,ff,ff,ff,ff,ff] ?_
   refine pv 13 (some 101) HT_.out #[tt,tt,tt,tt,tt,tt,tt,tt,tt,ff,ff,ff,tt,tt,ff,ff,ff,ff,ff] ?_
   refine pv 14 (some 102) HT_.out #[tt,tt,tt,tt,tt,tt,tt,tt,tt,ff,ff,ff,tt,tt,tt,ff,ff,ff,ff] ?_
   refine pv 18 (some 106) HT_.out #[tt,tt,tt,tt,tt,tt,tt,tt,tt,ff,ff,ff,tt,tt,tt,ff,ff,ff,tt] ?_
   refine o1 9 (some 97) HT_.out #[tt,tt,tt,tt,tt,tt,tt,tt,tt,tt,ff,ff,tt,tt,tt,ff,ff,ff,tt] fun K hK => ?_
   refine Kd.R_lit_step (Kd.int .u8) _ 5 ?hg (N := 97) ?hd (xs := ([a3] : List Int)) (inner := [.int .u8 a3]) (ok := fun _ => True) (okp := fun _ => True) ?hr ?hp (fun _ hk => hk) trivial (Below.refl _ _) (Nat.le_refl _) (by simp) ?_; (case hd => rfl); (case hg => rfl); (case hr => first | (go_simp; done) | (go_simp; rfl)); (case hp => exact (Reps.one (show Kd.M (Kd.int .u8) _ _ _ a3 [.int .u8 a3] from rfl) (Reps.none _ _)))
   intro v117 w44 ho45 hb hg_ hnew_; clear hg_ hnew_
   (first | rw [← Ny116.out] at ho45 | (simp only [Int.reduceToNat] at ho45; rw [← Ny116.out] at ho45)); replace O0 := rb O0 hb; have HO118 := am (Kd.R_lower ho45 (below_size (bes HB.out))); replace HB := bsp HB hb; clear hb ho45
   refine hK.out _ _ trivial (fun hHeld => ?_); clear hK K
   refine norm_ (a' := ?_) ?_ ?_; rotate_left
   ·show Act.put _ (some 97) _ = _
    simp only [Act.put, sa_, s0_, s1_, i64_w, i32_w]
    rfl
   refine o1 10 (some 98) HT_.out #[tt,tt,tt,tt,tt,tt,tt,tt,tt,tt,tt,ff,tt,tt,tt,ff,ff,ff,tt] fun K hK => ?_; have hcv46 := own_string (P := Tryd.prog) Tryd.underlying41 Tryd.underlying5 Tryd.underlying9 (Kd.own_of_R HO118.out)
   refine value_ (w1 := ?_) (v := ?_) (by rfl) rfl ?_ ?_; rotate_left 2
   ·go_simp
    constructor
    ·rfl
    rfl
   clear hcv46
   refine hK.out _ _ trivial (fun hHeld => ?_); clear hK K
   refine norm_ (a' := ?_) ?_ ?_; rotate_left
   ·show Act.put _ (some 98) _ = _
    simp only [Act.put, sa_, s0_, s1_, i64_w, i32_w]
    rfl
   refine pv 11 (some 99) HT_.out #[tt,tt,tt,tt,tt,tt,tt,tt,tt,tt,tt,tt,tt,tt,tt,ff,ff,ff,tt] ?_
   refine pv 15 (some 103) HT_.out #[tt,tt,tt,tt,tt,tt,tt,tt,tt,tt,tt,tt,tt,tt,tt,tt,ff,ff,tt] ?_
   refine o1 16 (some 104) HT_.out #[tt,tt,tt,tt,tt,tt,tt,tt,tt,tt,tt,tt,tt,tt,tt,tt,tt,ff,tt] fun K hK => ?_
   refine Kd.R_lit_step Kd.string _ 9 ?hg (N := 104) ?hd (xs := ([a2.extract 0 ((ji33) : Int).toNat, (((rdOf ByteArray.empty t104 t113).extract 0 (t115 : Int).toNat) ++ (strOfNums y116)) ++ ((rdOf ByteArray.empty t104 t113).extract (t115 : Int).toNat (rdOf ByteArray.empty t104 t113).size)] : List ByteArray)) (inner := [.string (a2.extract 0 ((ji33) : Int).toNat), .string ((((rdOf ByteArray.empty t104 t113).extract 0 (t115 : Int).toNat) ++ (strOfNums y116)) ++ ((rdOf ByteArray.empty t104 t113).extract (t115 : Int).toNat (rdOf ByteArray.empty t104 t113).size))]) (ok := fun _ => True) (okp := fun _ => True) ?hr ?hp (fun _ hk => hk) trivial (Below.refl _ _) (Nat.le_refl _) (by simp) ?_; (case hd => rfl); (case hg => rfl); (case hr => first | (go_simp; done) | (go_simp; rfl)); (case hp => exact (Reps.one (show Kd.M Kd.string _ _ _ (a2.extract 0 ((ji33) : Int).toNat) [.string (a2.extract 0 ((ji33) : Int).toNat)] from rfl) (Reps.one (show Kd.M Kd.string _ _ _ ((((rdOf ByteArray.empty t104 t113).extract 0 (t115 : Int).toNat) ++ (strOfNums y116)) ++ ((rdOf ByteArray.empty t104 t113).extract (t115 : Int).toNat (rdOf ByteArray.empty t104 t113).size)) [.string ((((rdOf ByteArray.empty t104 t113).extract 0 (t115 : Int).toNat) ++ (strOfNums y116)) ++ ((rdOf ByteArray.empty t104 t113).extract (t115 : Int).toNat (rdOf ByteArray.empty t104 t113).size))] from rfl) (Reps.none _ _))))
   intro v120 w47 ho48 hb hg_ hnew_; clear hg_ hnew_
   (first | rw [← Ny119.out] at ho48 | (simp only [Int.reduceToNat] at ho48; rw [← Ny119.out] at ho48)); replace HO118 := rb HO118 hb; have HO121 := am (Kd.R_lower (Kd.R_new' ho48 (Kd.R_lt (R_st O0.out))) (below_size (bes HB.out))); replace O0 := am (Kd.R_elder' (R_st O0.out) (Kd.R_base ho48) hb); replace HB := bsp HB hb; clear hb ho48; obtain ⟨Ao49, co49, eo49⟩ := Kd.R_slice HO121.out
   (first | subst eo49 | (injection eo49 with f1_ f2_ f3_; have f4_ := f1_.symm; have f5_ := f3_.symm; clear f1_ f2_ f3_; subst f4_; subst f5_))
   refine hK.out _ _ trivial (fun hHeld => ?_); clear hK K
   refine norm_ (a' := ?_) ?_ ?_; rotate_left
   ·show Act.put _ (some 104) _ = _
    simp only [Act.put, sa_, s0_, s1_, i64_w, i32_w]
    rfl
   refine pv 17 (some 105) HT_.out #[tt,tt,tt,tt,tt,tt,tt,tt,tt,tt,tt,tt,tt,tt,tt,tt,tt,tt,tt] ?_
   refine done_ (done_of HT_.out (by kernel_rfl)) ?_
   try go_wp2
   go_loopg [106] k2 (fun kq v106 w' => ∃ (x106_3 : Int), v106 = .int .i64 x106_3 ∧ Aside0 (newswirelaw11_WordLetters.l1 kq true (wrap64 (1 + t102)) y119 (y119.length : Int) x106_3 = some r) ∧ Aside0 (kq ≤ k2) ∧ Aside0 (Kd.R Kd.string 9 w' w.heap.size (fun _ => True) (.slice Ao49 y119.length co49) y119) ∧ Aside0 (Below w.heap.size w w'))
   case atStart => exact ⟨(0), cd, H', ⟨Nat.le_refl _⟩, ⟨by exact R_st (Kd.R_mono HO121.out (fun _ hk => trivial))⟩, ⟨by exact bes HB.out⟩⟩
   clear H'
   try clear c1
   try clear p1
   try clear q1
   try clear hx1
   try clear c2
   try clear p2
   try clear c3
   try clear c4
   try clear hcv4
   try clear c6
   try clear p6
   try clear c7
   try clear c10
   try clear p10
   try clear q10
   try clear hx10
   try clear c11
   try clear p11
   try clear q11
   try clear hx11
   try clear c14
   try clear c14b0
   try clear c14b1
   try clear c15
   try clear c15b0
   try clear c15b1
   try clear c18
   try clear c19
   try clear c19b0
   try clear c20
   try clear c20b0
   try clear c25
   try clear c27
   try clear c28
   try clear c30
   try clear c30b0
   try clear c31
   try clear c31b0
   try clear c34
   try clear c34b0
   try clear c34b1
   try clear c35
   try clear c35b0
   try clear c35b1
   try clear c36
   try clear c36b0
   try clear c36b1
   try clear c37
   try clear c37b0
   try clear c37b1
   try clear c38
   try clear c38b0
   try clear c38b1
   try clear c38b2
   try clear c39
   try clear c39b0
   try clear c40
   try clear c40b0
   try clear c41
   try clear c41b0
   try clear c41b1
   try clear c41b2
   try clear hcv46
   try clear hx108_0
   try clear hx110_0
   try clear hx112_0
   try clear hx114_0
   try clear p1
   try clear p10
   try clear p108
   try clear p11
   try clear p110
   try clear p112
   try clear p114
   try clear p2
   try clear p6
   try clear q1
   try clear q10
   try clear q108
   try clear q11
   try clear q110
   try clear q112
   try clear q114
   obtain ⟨x106_3, rfl, HA, HK3, O1, HB⟩ := hrel
   cases gk with
   | zero => exact absurd HA.out (by simp [newswirelaw11_WordLetters.l1])
   | succ k3 =>
    have H := HA.out; clear HA; simp only [newswirelaw11_WordLetters.l1] at H
    by_cases c50 : x106_3 < (y119.length : Int); rotate_left
    ·rw [if_neg c50] at H
     have c50b0 := dF c50; clear c50; obtain rfl := Option.some.inj H
     go_wp2
     go_ret
     exact ⟨by first | rfl | (simp [errW_none, errW_some] <;> rfl) | (simp only [← hji33]; first | rfl | (simp [errW_none, errW_some] <;> rfl)) | (simp [*, errW_none, errW_some] <;> rfl), by exact bes HB.out⟩
    rw [if_pos c50] at H
    have c50b0 := dT c50; clear c50
    by_cases c51 : 0 ≤ x106_3; rotate_left
    ·rw [if_neg c51] at H
     exact absurd H (by simp)
    rw [if_pos c51] at H
    have c51b0 := dT c51; clear c51
    by_cases c52 : x106_3 < (y119.length : Int); rotate_left
    ·rw [if_neg c52] at H
     exact absurd H (by simp)
    rw [if_pos c52] at H
    have c52b0 := dT c52; clear c52; replace H := bm H; obtain ⟨t123, A53, H⟩ := H; replace A53 := am A53
    by_cases c54 : t123 = true; rotate_left
    ·replace c54 := Bool.eq_false_iff.mpr c54
     subst c54; replace H := inn H
     have H' := am H; clear H
     have p122 : 0 ≤ (x106_3 : Int) := of_decide_eq_true (by assumption)
     have q122 : x106_3 < (y119.length : Int) := of_decide_eq_true (by assumption); obtain ⟨ad122, e122, hx122_0⟩ := Kd.at_string (Kd.R_reads' O1.out).2.2 x106_3 p122 q122
     cases e122
     replace p122 := eq_true p122; replace q122 := eq_true q122
     go_wp2_with (first | ((with_reducible refine gate_callee (f := 20) rfl ?_); refine gL (some 112) rfl rfl Tryd.func20 #[.int .i64 (wrap64 (1 + t102)), .string (rdOf ByteArray.empty y119 x106_3)] ?_; (refine (XI.word_Is.calls k3 (wrap64 (1 + t102)) (rdOf ByteArray.empty y119 x106_3) false _ ?_ A53.out).mono ?_); exact LW.below HLW.out (bes HB.out); rintro e w59 ⟨rfl, hb⟩; refine ⟨_, rfl, ?_⟩; replace O1 := rb O1 hb; replace HB := bsp HB hb; (try clear hb)))
     go_roundg k3
     case measure => have := HJ10.out; have := HK2.out; have := HK3.out; omega
     case rel => exact ⟨(wrap64 (x106_3 + 1)), cd, H', ⟨by have := HJ10.out; have := HK2.out; have := HK3.out; omega⟩, ⟨by exact R_st O1.out⟩, ⟨by exact bes HB.out⟩⟩
    subst c54; replace H := ip H
    replace H := bm H; obtain ⟨t124, A55, H⟩ := H; replace A55 := am A55
    by_cases c56 : t124 = true
    ·subst c56
     replace H := ip H
     have H' := am H; clear H
     have p122 : 0 ≤ (x106_3 : Int) := of_decide_eq_true (by assumption)
     have q122 : x106_3 < (y119.length : Int) := of_decide_eq_true (by assumption); obtain ⟨ad122, e122, hx122_0⟩ := Kd.at_string (Kd.R_reads' O1.out).2.2 x106_3 p122 q122
     cases e122
     replace p122 := eq_true p122; replace q122 := eq_true q122
     go_wp2_with (first | ((with_reducible refine gate_callee (f := 20) rfl ?_); refine gL (some 112) rfl rfl Tryd.func20 #[.int .i64 (wrap64 (1 + t102)), .string (rdOf ByteArray.empty y119 x106_3)] ?_; (refine (XI.word_Is.calls k3 (wrap64 (1 + t102)) (rdOf ByteArray.empty y119 x106_3) true _ ?_ A53.out).mono ?_); exact LW.below HLW.out (bes HB.out); rintro e w57 ⟨rfl, hb⟩; refine ⟨_, rfl, ?_⟩; replace O1 := rb O1 hb; replace HB := bsp HB hb; (try clear hb)) | (go_at_call 21; (refine (XS.newswirelaw11_plain.calls k3 (rdOf ByteArray.empty y119 x106_3) true _ A55.out).mono ?_); rintro e w' ⟨rfl, ⟨nd, rfl⟩⟩))
     go_roundg k3
     case measure => have := HJ10.out; have := HK2.out; have := HK3.out; omega
     case rel => exact ⟨(wrap64 (x106_3 + 1)), cd, H', ⟨by have := HJ10.out; have := HK2.out; have := HK3.out; omega⟩, ⟨by exact R_st O1.out⟩, ⟨by exact bes HB.out⟩⟩
    replace c56 := Bool.eq_false_iff.mpr c56; subst c56; replace H := inn H
    obtain rfl := Option.some.inj H
    have p122 : 0 ≤ (x106_3 : Int) := of_decide_eq_true (by assumption)
    have q122 : x106_3 < (y119.length : Int) := of_decide_eq_true (by assumption); obtain ⟨ad122, e122, hx122_0⟩ := Kd.at_string (Kd.R_reads' O1.out).2.2 x106_3 p122 q122
    cases e122
    replace p122 := eq_true p122; replace q122 := eq_true q122
    go_wp2_with (first | ((with_reducible refine gate_callee (f := 20) rfl ?_); refine gL (some 112) rfl rfl Tryd.func20 #[.int .i64 (wrap64 (1 + t102)), .string (rdOf ByteArray.empty y119 x106_3)] ?_; (refine (XI.word_Is.calls k3 (wrap64 (1 + t102)) (rdOf ByteArray.empty y119 x106_3) true _ ?_ A53.out).mono ?_); exact LW.below HLW.out (bes HB.out); rintro e w58 ⟨rfl, hb⟩; refine ⟨_, rfl, ?_⟩; replace O1 := rb O1 hb; replace HB := bsp HB hb; (try clear hb)) | (go_at_call 21; (refine (XS.newswirelaw11_plain.calls k3 (rdOf ByteArray.empty y119 x106_3) false _ A55.out).mono ?_); rintro e w' ⟨rfl, ⟨nd, rfl⟩⟩))
    go_ret
    exact ⟨by first | rfl | (simp [errW_none, errW_some] <;> rfl) | (simp only [← hji33]; first | rfl | (simp [errW_none, errW_some] <;> rfl)) | (simp [*, errW_none, errW_some] <;> rfl), by exact bes HB.out⟩

end Go.Proofs.YtjgobfbjmlacjaaDoor.XE
