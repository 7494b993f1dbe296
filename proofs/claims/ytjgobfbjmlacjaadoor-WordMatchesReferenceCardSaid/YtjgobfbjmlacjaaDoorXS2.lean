-- Written by wip/xprint.py (a driver of mine over the kit's printer) for this claim.
import Derived.Test.YtjgobfbjmlacjaaDoorXS0
import Derived.Test.YtjgobfbjmlacjaaDoorXS1
namespace Go.Proofs.YtjgobfbjmlacjaaDoor.XS
open Go.RowKit Go.Proofs.YtjgobfbjmlacjaaDoorW.PrintWords Go.Proofs.YtjgobfbjmlacjaaDoorW.PrintLast Go.Proofs.YtjgobfbjmlacjaaDoorW.PrintMore
open Bool renaming true → tt, false → ff
open _root_.ByteArray renaming mk → B_
attribute [local go_sem] max2_int min2_int max_two min_two max_three min_three max_four min_four   -- for this text's walks alone
set_option maxHeartbeats 8000000
set_option maxRecDepth 100000
set_option linter.unusedVariables false
set_option linter.unusedSimpArgs false

attribute [local go_sem high] eqA49
/-! ### newswirelaw11_joined: function 54 -/
def newswirelaw11_joined.l0 : Nat → List ByteArray → ByteArray → Int → Option (ByteArray)
 | 0, _, _, _ => none
 | k + 1, x0, x3, x4 => if x4 < (x0.length : Int) then (if x4 > 0 then (if x3.size + 1 ≤ 9223372036854775807 then (if 0 ≤ x4 then (if (x3 ++ (B_ #[32])).size + (rdOf ByteArray.empty x0 x4).size ≤ 9223372036854775807 then (newswirelaw11_joined.l0 k x0 ((x3 ++ (B_ #[32])) ++ (rdOf ByteArray.empty x0 x4)) (wrap64 (x4 + 1))) else (none)) else (none)) else (none)) else (if 0 ≤ x4 then (if x3.size + (rdOf ByteArray.empty x0 x4).size ≤ 9223372036854775807 then (newswirelaw11_joined.l0 k x0 (x3 ++ (rdOf ByteArray.empty x0 x4)) (wrap64 (x4 + 1))) else (none)) else (none))) else (some x3)
def newswirelaw11_joined.f (k : Nat) (l0 : List ByteArray) : Option (ByteArray) := newswirelaw11_joined.l0 k l0 (B_ #[]) 0
theorem newswirelaw11_joined.mono_l : ∀ k, (∀ y0 y1 y2, LeO (newswirelaw11_joined.l0 k y0 y1 y2) (newswirelaw11_joined.l0 (k + 1) y0 y1 y2))
 | 0 => fun _ _ _ r h => by simp [newswirelaw11_joined.l0] at h
 | k + 1 => by
  have ih0 := newswirelaw11_joined.mono_l k
  intro y0 y1 y2
  unfold newswirelaw11_joined.l0
  repeat' first
  | (with_reducible exact ih0 _ _ _)
  | (with_reducible exact LeO.refl _)
  | (with_reducible exact LeO.none _)
  | (with_reducible refine LeO.ite ?_ ?_)
  | (with_reducible refine LeO.bind ?_ (fun _ => ?_))
theorem newswirelaw11_joined.mono : ∀ a0 k, LeO (newswirelaw11_joined.f k a0) (newswirelaw11_joined.f (k + 1) a0) := by
 intro a0 k; have ih0 := newswirelaw11_joined.mono_l k
 unfold newswirelaw11_joined.f
 repeat' first
   | (with_reducible exact ih0 _ _ _)
   | (with_reducible exact LeO.refl _)
   | (with_reducible exact LeO.none _)
   | (with_reducible refine LeO.ite ?_ ?_)
   | (with_reducible refine LeO.bind ?_ (fun _ => ?_))
theorem newswirelaw11_joined.calls (k : Nat) (A0 : Option Addr) (c0 : Nat) (l0 : List ByteArray) (r : ByteArray) (w : World) (hr0 : Kd.C Kd.string w A0 l0.length l0) (hc0 : l0.length ≤ c0) (h : newswirelaw11_joined.f k l0 = some r) :
  Calls Tryd.prog 54 #[.slice A0 l0.length c0] w fun e w' => e = .returned (.string r) ∧ Drawn0 w w' := by
 have HR0 := am hr0; have HC0 := am hc0; clear hr0 hc0
 have H : (newswirelaw11_joined.l0 k l0 (B_ #[]) 0) = some r := h; clear h
 have H' := am H; clear H
 go_enter Tryd.func54, Tryd.ntmps54
 go_wp2
 go_loopg [3, 4] k (fun kq v3 v4 w' => ∃ (x3_1 : ByteArray) (x4_1 : Int), v3 = .string x3_1 ∧ v4 = .int .i64 x4_1 ∧ Aside0 (newswirelaw11_joined.l0 kq l0 x3_1 x4_1 = some r) ∧ Aside0 (kq ≤ k) ∧ Drawn0 w w')
 case atStart => exact ⟨((B_ #[])), (0), cd, cd, H', ⟨Nat.le_refl _⟩, by repeat (first | exact Drawn0.refl _ | apply Drawn0.step)⟩
 clear H'; obtain ⟨x3_1, x4_1, rfl, rfl, HA, HK1, ⟨m1, rfl⟩⟩ := hrel
 cases gk with
 | zero => exact absurd HA.out (by simp [newswirelaw11_joined.l0])
 | succ k1 =>
  have H := HA.out; clear HA; simp only [newswirelaw11_joined.l0] at H
  by_cases c2 : x4_1 < (l0.length : Int); rotate_left
  ·rw [if_neg c2] at H
   have c2b0 := dF c2; clear c2; obtain rfl := Option.some.inj H
   go_wp2
   go_ret
   exact ⟨by first | rfl | (simp; done) | (simp [*]; done), by repeat (first | exact Drawn0.refl _ | apply Drawn0.step)⟩
  rw [if_pos c2] at H
  have c2b0 := dT c2; clear c2
  by_cases c3 : x4_1 > 0
  ·rw [if_pos c3] at H
   have c3b0 := dT c3; clear c3
   by_cases c4 : x3_1.size + 1 ≤ 9223372036854775807; rotate_left
   ·rw [if_neg c4] at H
    exact absurd H (by simp)
   rw [if_pos c4] at H; have c4b0 := eq_true c4
   have c4b1 := dT c4
   try have c4b2 := eF c4
   by_cases c5 : 0 ≤ x4_1; rotate_left
   ·rw [if_neg c5] at H
    exact absurd H (by simp)
   rw [if_pos c5] at H
   have c5b0 := dT c5; clear c5
   by_cases c6 : (x3_1 ++ (B_ #[32])).size + (rdOf ByteArray.empty l0 x4_1).size ≤ 9223372036854775807; rotate_left
   ·rw [if_neg c6] at H
    exact absurd H (by simp)
   rw [if_pos c6] at H; have c6b0 := eq_true c6
   have c6b1 := dT c6
   try have c6b2 := eF c6
   have c6n : x3_1.size + 1 + (rdOf ByteArray.empty l0 x4_1).size ≤ 9223372036854775807 := by have h_ := c6; (try simp only [ByteArray.size_append] at h_); first | exact h_ | omega
   have c6n0 := eq_true c6n; have c6n1 := decide_eq_true c6n; have c6n2 := eq_false (Nat.not_lt.2 c6n)
   have H' := am H; clear H
   have p101 : 0 ≤ (x4_1 : Int) := of_decide_eq_true (by assumption)
   have q101 : x4_1 < (l0.length : Int) := of_decide_eq_true (by assumption); obtain ⟨ad101, e101, hx101_0⟩ := Kd.at_string HR0.out x4_1 p101 q101
   cases e101
   replace p101 := eq_true p101; replace q101 := eq_true q101
   go_wp2
   go_roundg k1
   case measure => have := HK1.out; omega
   case rel => exact ⟨((x3_1 ++ (B_ #[32])) ++ (rdOf ByteArray.empty l0 x4_1)), (wrap64 (x4_1 + 1)), cd, cd, H', ⟨by have := HK1.out; omega⟩, by repeat (first | exact Drawn0.refl _ | apply Drawn0.step)⟩
  rw [if_neg c3] at H
  have c3b0 := dF c3; clear c3
  by_cases c7 : 0 ≤ x4_1; rotate_left
  ·rw [if_neg c7] at H
   exact absurd H (by simp)
  rw [if_pos c7] at H
  have c7b0 := dT c7; clear c7
  by_cases c8 : x3_1.size + (rdOf ByteArray.empty l0 x4_1).size ≤ 9223372036854775807; rotate_left
  ·rw [if_neg c8] at H
   exact absurd H (by simp)
  rw [if_pos c8] at H; have c8b0 := eq_true c8
  have c8b1 := dT c8
  try have c8b2 := eF c8
  have H' := am H; clear H
  have p102 : 0 ≤ (x4_1 : Int) := of_decide_eq_true (by assumption)
  have q102 : x4_1 < (l0.length : Int) := of_decide_eq_true (by assumption); obtain ⟨ad102, e102, hx102_0⟩ := Kd.at_string HR0.out x4_1 p102 q102
  cases e102
  replace p102 := eq_true p102; replace q102 := eq_true q102
  go_wp2
  go_roundg k1
  case measure => have := HK1.out; omega
  case rel => exact ⟨(x3_1 ++ (rdOf ByteArray.empty l0 x4_1)), (wrap64 (x4_1 + 1)), cd, cd, H', ⟨by have := HK1.out; omega⟩, by repeat (first | exact Drawn0.refl _ | apply Drawn0.step)⟩

/-! ### newswirelaw11_texts: function 31 -/
def newswirelaw11_texts.l0 : Nat → Int → Int → ByteArray → ByteArray → ByteArray → Option (ByteArray × ByteArray × ByteArray)
 | 0, _, _, _, _, _ => none
 | k + 1, x0, x4, a, b, c => if x4 ≤ 3 then ((XA.word_Words.f k x4 x0).bind fun bt105 => (if bt105.2 = 0 then ((newswirelaw11_joined.f k bt105.1).bind fun t109 => (if 0 ≤ (wrap64 (x4 - 1)) then (if (wrap64 (x4 - 1)) = 0 then (newswirelaw11_texts.l0 k x0 (wrap64 (x4 + 1)) t109 b c) else (if (wrap64 (x4 - 1)) = 1 then (newswirelaw11_texts.l0 k x0 (wrap64 (x4 + 1)) a t109 c) else (if (wrap64 (x4 - 1)) = 2 then (newswirelaw11_texts.l0 k x0 (wrap64 (x4 + 1)) a b t109) else (none)))) else (none))) else (some ((B_ #[]), (B_ #[]), (B_ #[]))))) else (some (a, b, c))
def newswirelaw11_texts.f (k : Nat) (a0 : Int) : Option (ByteArray × ByteArray × ByteArray) := newswirelaw11_texts.l0 k a0 1 (B_ #[]) (B_ #[]) (B_ #[])
theorem newswirelaw11_texts.mono_l : ∀ k, (∀ y0 y1 y2 y3 y4, LeO (newswirelaw11_texts.l0 k y0 y1 y2 y3 y4) (newswirelaw11_texts.l0 (k + 1) y0 y1 y2 y3 y4))
 | 0 => fun _ _ _ _ _ r h => by simp [newswirelaw11_texts.l0] at h
 | k + 1 => by
  have ih0 := newswirelaw11_texts.mono_l k
  intro y0 y1 y2 y3 y4
  unfold newswirelaw11_texts.l0
  repeat' first
  | (with_reducible exact ih0 _ _ _ _ _)
  | (with_reducible exact XA.word_Words.mono _ _ _)
  | (with_reducible exact newswirelaw11_joined.mono _ _)
  | (with_reducible exact LeO.refl _)
  | (with_reducible exact LeO.none _)
  | (with_reducible refine LeO.ite ?_ ?_)
  | (with_reducible refine LeO.bind ?_ (fun _ => ?_))
theorem newswirelaw11_texts.mono : ∀ a0 k, LeO (newswirelaw11_texts.f k a0) (newswirelaw11_texts.f (k + 1) a0) := by
 intro a0 k; have ih0 := newswirelaw11_texts.mono_l k
 unfold newswirelaw11_texts.f
 repeat' first
   | (with_reducible exact ih0 _ _ _ _ _)
   | (with_reducible exact XA.word_Words.mono _ _ _)
   | (with_reducible exact newswirelaw11_joined.mono _ _)
   | (with_reducible exact LeO.refl _)
   | (with_reducible exact LeO.none _)
   | (with_reducible refine LeO.ite ?_ ?_)
   | (with_reducible refine LeO.bind ?_ (fun _ => ?_))
theorem newswirelaw11_texts.calls (k : Nat) (a0 : Int) (r1 : ByteArray) (r2 : ByteArray) (r3 : ByteArray) (w : World) (hL_ : LW w) (h : newswirelaw11_texts.f k a0 = some (r1, r2, r3)) :
  Calls Tryd.prog 31 #[.int .i64 a0] w fun e w' => e = .returned (.agg #[.string r1, .string r2, .string r3]) ∧ Below w.heap.size w w' := by
 have hu49 := Tryd.underlying49; have HLW := am hL_; clear hL_; have HB := am (Below.refl w.heap.size w)
 have H := h; clear h; unfold newswirelaw11_texts.f at H
 have H' := am H; clear H
 go_enter Tryd.func31, Tryd.ntmps31
 go_wp2_with (first | ((with_reducible refine gate_dst (N := 2) rfl ?_); refine bx 2 #[.string (B_ #[]), .string (B_ #[]), .string (B_ #[])] 49 ?_; intro gb103 hg w2 hbox hb; have BK103 := am hbox; have GE103 := gem hg HB; replace HB := bsp HB hb; clear hb hbox hg) | ((with_reducible refine gate_dst (N := 3) rfl ?_); refine bx 3 #[.string (B_ #[]), .string (B_ #[]), .string (B_ #[])] 49 ?_; intro gb104 hg w3 hbox hb; have BK104 := am hbox; have GE104 := gem hg HB; replace HB := bsp HB hb; have NB103_104 := am ((by rw [hg]; exact Nat.ne_of_lt (blk_lt (g := gb103) (o := .cells #[.string (B_ #[]), .string (B_ #[]), .string (B_ #[])] 49 (0, 0)) (blk_st BK103.out)) : gb103 ≠ gb104)); have NB104_103 := am ((by rw [hg]; exact Nat.ne_of_gt (blk_lt (g := gb103) (o := .cells #[.string (B_ #[]), .string (B_ #[]), .string (B_ #[])] 49 (0, 0)) (blk_st BK103.out)) : gb104 ≠ gb103)); replace BK103 := kb BK103 hb; clear hb hbox hg))
 go_loopg [4] k (fun kq v4 w' => ∃ (x4_1 : Int) (x104000_1 : ByteArray) (x104001_1 : ByteArray) (x104002_1 : ByteArray) (x105000_1 : ByteArray) (x105001_1 : ByteArray) (x105002_1 : ByteArray), v4 = .int .i64 x4_1 ∧ Aside0 (newswirelaw11_texts.l0 kq a0 x4_1 x105000_1 x105001_1 x105002_1 = some (r1, r2, r3)) ∧ Aside0 (kq ≤ k) ∧ Aside0 (w'.heap[gb103]? = some (.cells #[.string x104000_1, .string x104001_1, .string x104002_1] 49 (0, 0))) ∧ Aside0 (w'.heap[gb104]? = some (.cells #[.string x105000_1, .string x105001_1, .string x105002_1] 49 (0, 0))) ∧ Aside0 (Below w.heap.size w w'))
 case atStart => exact ⟨(1), ((B_ #[])), ((B_ #[])), ((B_ #[])), ((B_ #[])), ((B_ #[])), ((B_ #[])), cd, H', ⟨Nat.le_refl _⟩, ⟨by exact blk_st BK103.out⟩, ⟨by exact blk_st BK104.out⟩, ⟨by exact bes HB.out⟩⟩
 clear H'
 try clear p2
 try clear c3
 obtain ⟨x4_1, x104000_1, x104001_1, x104002_1, x105000_1, x105001_1, x105002_1, rfl, HA, HK1, BK103, BK104, HB⟩ := hrel
 cases gk with
 | zero => exact absurd HA.out (by simp [newswirelaw11_texts.l0])
 | succ k1 =>
  have H := HA.out; clear HA; simp only [newswirelaw11_texts.l0] at H
  by_cases c4 : x4_1 ≤ 3; rotate_left
  ·rw [if_neg c4] at H
   have c4b0 := dF c4; clear c4; simp only [Option.some.injEq, Prod.mk.injEq] at H; obtain ⟨rfl, rfl, rfl⟩ := H; have hnb28 := NB104_103.out; have hnc28 := NB103_104.out
   have Z29_0 := z0 BK104.out
   have Z29_1 := z1 BK104.out
   have Z29_2 := z2 BK104.out; have F29_0 := fz BK104.out 0; have F29_1 := fz BK104.out 1; have F29_2 := fz BK104.out 2
   have Z30_0 := z0 BK103.out
   have Z30_1 := z1 BK103.out
   have Z30_2 := z2 BK103.out; have F30_0 := fz BK103.out 0; have F30_1 := fz BK103.out 1; have F30_2 := fz BK103.out 2
   go_wp2
   refine bodyPost_ret (results_cell_row rfl _ _ gb103 49 #[.string x105000_1, .string x105001_1, .string x105002_1] (0, 0) _ rfl (bp BK103.out) Tryd.underlying49 rfl (by kernel_rfl)) rfl ?_
   exact ⟨er, by exact bes HB.out⟩
  rw [if_pos c4] at H
  have c4b0 := dT c4; clear c4; replace H := bm H; obtain ⟨⟨t105, t106⟩, A50, H⟩ := H; replace H : (if t106 = 0 then ((newswirelaw11_joined.f k1 t105).bind fun t109 => (if 0 ≤ (wrap64 (x4_1 - 1)) then (if (wrap64 (x4_1 - 1)) = 0 then (newswirelaw11_texts.l0 k1 a0 (wrap64 (x4_1 + 1)) t109 x105001_1 x105002_1) else (if (wrap64 (x4_1 - 1)) = 1 then (newswirelaw11_texts.l0 k1 a0 (wrap64 (x4_1 + 1)) x105000_1 t109 x105002_1) else (if (wrap64 (x4_1 - 1)) = 2 then (newswirelaw11_texts.l0 k1 a0 (wrap64 (x4_1 + 1)) x105000_1 x105001_1 t109) else (none)))) else (none))) else (some ((B_ #[]), (B_ #[]), (B_ #[])))) = some (r1, r2, r3) := H; have A5 := am A50; clear A50
  by_cases c6 : t106 = 0; rotate_left
  ·rw [if_neg c6] at H
   have c6b0 := bF c6
   have c6b1 := nT c6; simp only [Option.some.injEq, Prod.mk.injEq] at H; obtain ⟨rfl, rfl, rfl⟩ := H
   go_wp2_with (first | ((with_reducible refine gate_callee (f := 18) rfl ?_); refine gL (some 14) rfl rfl Tryd.func18 #[.int .i64 x4_1, .int .i64 a0] ?_; (refine (XA.word_Words.calls k1 x4_1 a0 t105 t106 _ ?_ A5.out).mono ?_); exact LW.below HLW.out (bes HB.out); rintro e w25 ⟨v107, rfl, ho0, hb⟩; refine ⟨_, rfl, ?_⟩; have HO108 := am (Kd.R_lower ho0 (below_size (bes HB.out))); replace BK103 := kb BK103 hb; replace BK104 := kb BK104 hb; replace HB := bsp HB hb; (try clear hb); (try clear ho0); have hnb26 := NB103_104.out; have hnc26 := NB104_103.out; have Z27_0 := z0 BK103.out; have Z27_1 := z1 BK103.out; have Z27_2 := z2 BK103.out; have F27_0 := fz BK103.out 0; have F27_1 := fz BK103.out 1; have F27_2 := fz BK103.out 2))
   refine bodyPost_ret (results_cell_row rfl _ _ gb103 49 #[.string (B_ #[]), .string (B_ #[]), .string (B_ #[])] (0, 0) _ rfl (bp BK103.out) Tryd.underlying49 rfl (by kernel_rfl)) rfl ?_
   exact ⟨er, by exact bes HB.out⟩
  rw [if_pos c6] at H
  have c6b0 := bT c6
  have c6b1 := nF c6; clear c6; replace H := bm H; obtain ⟨t109, A7, H⟩ := H; replace A7 := am A7; obtain ⟨ji8, hji8⟩ : ∃ j_ : Int, (wrap64 (x4_1 - 1)) = j_ := ⟨_, rfl⟩; replace H : (if 0 ≤ (ji8) then (if (ji8) = 0 then (newswirelaw11_texts.l0 k1 a0 (wrap64 (x4_1 + 1)) t109 x105001_1 x105002_1) else (if (ji8) = 1 then (newswirelaw11_texts.l0 k1 a0 (wrap64 (x4_1 + 1)) x105000_1 t109 x105002_1) else (if (ji8) = 2 then (newswirelaw11_texts.l0 k1 a0 (wrap64 (x4_1 + 1)) x105000_1 x105001_1 t109) else (none)))) else (none)) = some (r1, r2, r3) := by first | (rw [hji8] at H; exact H) | (simp only [hji8] at H ⊢; exact H)
  (try rw [hji8] at A5)
  (try rw [hji8] at A7)
  have hji8w : (IntKind.i64.wrap (x4_1 - 1)) = ji8 := (i64_w _).trans hji8
  by_cases c9 : 0 ≤ (ji8); rotate_left
  ·rw [if_neg c9] at H
   exact absurd H (by simp)
  rw [if_pos c9] at H
  have c9b0 := dT c9; clear c9
  by_cases c10 : (ji8) = 0
  ·subst c10
   replace H := ip H
   have H' := am H; clear H
   go_wp2_with (first | ((with_reducible refine gate_callee (f := 18) rfl ?_); refine gL (some 14) rfl rfl Tryd.func18 #[.int .i64 x4_1, .int .i64 a0] ?_; (refine (XA.word_Words.calls k1 x4_1 a0 t105 t106 _ ?_ A5.out).mono ?_); exact LW.below HLW.out (bes HB.out); rintro e w11 ⟨v107, rfl, ho0, hb⟩; refine ⟨_, rfl, ?_⟩; have HO108 := am (Kd.R_lower ho0 (below_size (bes HB.out))); replace BK103 := kb BK103 hb; replace BK104 := kb BK104 hb; replace HB := bsp HB hb; (try clear hb); (try clear ho0); obtain ⟨Ao12, co12, eo12⟩ := Kd.R_slice HO108.out; subst eo12) | ((with_reducible refine gate_callee (f := 54) rfl ?_); refine gL (some 23) rfl rfl Tryd.func54 #[.slice Ao12 t105.length co12] ?_; (refine (newswirelaw11_joined.calls k1 _ _ t105 t109 _ ?_ ?_ A7.out).mono ?_); exact C_st ((Kd.R_reads' HO108.out).2.2); exact (Kd.R_reads' HO108.out).2.1; rintro e w' ⟨rfl, ⟨nd, rfl⟩⟩; refine ⟨_, rfl, ?_⟩; (try (rw [drewN_self w11]; generalize hq_ : World.drewN w11 _ = w11; have n0_ : Aside0 (Kd.R Kd.string 9 w11 w.heap.size (fun _ => True) (.slice Ao12 t105.length co12) t105) := ⟨by rw [← hq_]; exact (R_st HO108.out)⟩; have n1_ : Aside0 (w11.heap[gb103]? = some (.cells #[.string x104000_1, .string x104001_1, .string x104002_1] 49 (0, 0))) := ⟨by rw [← hq_]; exact (blk_st BK103.out)⟩; have n2_ : Aside0 (w11.heap[gb104]? = some (.cells #[.string x105000_1, .string x105001_1, .string x105002_1] 49 (0, 0))) := ⟨by rw [← hq_]; exact (blk_st BK104.out)⟩; have n3_ : Aside0 (Below w.heap.size w w11) := ⟨by rw [← hq_]; exact (bes HB.out)⟩; clear HO108 BK103 BK104 HB hq_; have HO108 := n0_; have BK103 := n1_; have BK104 := n2_; have HB := n3_; clear n0_ n1_ n2_ n3_)); have hnb13 := NB104_103.out; have hnc13 := NB103_104.out; have Z14_0 := z0 BK104.out; have Z14_1 := z1 BK104.out; have Z14_2 := z2 BK104.out; have F14_0 := fz BK104.out 0; have F14_1 := fz BK104.out 1; have F14_2 := fz BK104.out 2))
   go_roundg k1
   case measure => have := HK1.out; omega
   case rel => exact ⟨(wrap64 (x4_1 + 1)), (x104000_1), (x104001_1), (x104002_1), (t109), (x105001_1), (x105002_1), cd, H', ⟨by have := HK1.out; omega⟩, ⟨by (with_reducible repeat (first | refine blk_drewN ?_ _ | refine blk_drew ?_ | refine blk_alloc ?_ _)); refine blk_far ?_ NB103_104.out _; exact blk_st BK103.out⟩, ⟨by (with_reducible repeat (first | refine blk_drewN ?_ _ | refine blk_drew ?_ | refine blk_alloc ?_ _)); refine blk_put (cs := #[.string x105000_1, .string x105001_1, .string x105002_1]) ?_ 0 _ rfl; exact blk_st BK104.out⟩, ⟨by exact bes HB.out⟩⟩
  rw [if_neg c10] at H
  by_cases c15 : (ji8) = 1
  ·subst c15
   replace H := ip H
   have H' := am H; clear H
   go_wp2_with (first | ((with_reducible refine gate_callee (f := 18) rfl ?_); refine gL (some 14) rfl rfl Tryd.func18 #[.int .i64 x4_1, .int .i64 a0] ?_; (refine (XA.word_Words.calls k1 x4_1 a0 t105 t106 _ ?_ A5.out).mono ?_); exact LW.below HLW.out (bes HB.out); rintro e w16 ⟨v107, rfl, ho0, hb⟩; refine ⟨_, rfl, ?_⟩; have HO108 := am (Kd.R_lower ho0 (below_size (bes HB.out))); replace BK103 := kb BK103 hb; replace BK104 := kb BK104 hb; replace HB := bsp HB hb; (try clear hb); (try clear ho0); obtain ⟨Ao17, co17, eo17⟩ := Kd.R_slice HO108.out; subst eo17) | ((with_reducible refine gate_callee (f := 54) rfl ?_); refine gL (some 23) rfl rfl Tryd.func54 #[.slice Ao17 t105.length co17] ?_; (refine (newswirelaw11_joined.calls k1 _ _ t105 t109 _ ?_ ?_ A7.out).mono ?_); exact C_st ((Kd.R_reads' HO108.out).2.2); exact (Kd.R_reads' HO108.out).2.1; rintro e w' ⟨rfl, ⟨nd, rfl⟩⟩; refine ⟨_, rfl, ?_⟩; (try (rw [drewN_self w16]; generalize hq_ : World.drewN w16 _ = w16; have n0_ : Aside0 (Kd.R Kd.string 9 w16 w.heap.size (fun _ => True) (.slice Ao17 t105.length co17) t105) := ⟨by rw [← hq_]; exact (R_st HO108.out)⟩; have n1_ : Aside0 (w16.heap[gb103]? = some (.cells #[.string x104000_1, .string x104001_1, .string x104002_1] 49 (0, 0))) := ⟨by rw [← hq_]; exact (blk_st BK103.out)⟩; have n2_ : Aside0 (w16.heap[gb104]? = some (.cells #[.string x105000_1, .string x105001_1, .string x105002_1] 49 (0, 0))) := ⟨by rw [← hq_]; exact (blk_st BK104.out)⟩; have n3_ : Aside0 (Below w.heap.size w w16) := ⟨by rw [← hq_]; exact (bes HB.out)⟩; clear HO108 BK103 BK104 HB hq_; have HO108 := n0_; have BK103 := n1_; have BK104 := n2_; have HB := n3_; clear n0_ n1_ n2_ n3_)); have hnb18 := NB104_103.out; have hnc18 := NB103_104.out; have Z19_0 := z0 BK104.out; have Z19_1 := z1 BK104.out; have Z19_2 := z2 BK104.out; have F19_0 := fz BK104.out 0; have F19_1 := fz BK104.out 1; have F19_2 := fz BK104.out 2))
   go_roundg k1
   case measure => have := HK1.out; omega
   case rel => exact ⟨(wrap64 (x4_1 + 1)), (x104000_1), (x104001_1), (x104002_1), (x105000_1), (t109), (x105002_1), cd, H', ⟨by have := HK1.out; omega⟩, ⟨by (with_reducible repeat (first | refine blk_drewN ?_ _ | refine blk_drew ?_ | refine blk_alloc ?_ _)); refine blk_far ?_ NB103_104.out _; exact blk_st BK103.out⟩, ⟨by (with_reducible repeat (first | refine blk_drewN ?_ _ | refine blk_drew ?_ | refine blk_alloc ?_ _)); refine blk_put (cs := #[.string x105000_1, .string x105001_1, .string x105002_1]) ?_ 1 _ rfl; exact blk_st BK104.out⟩, ⟨by exact bes HB.out⟩⟩
  rw [if_neg c15] at H
  by_cases c20 : (ji8) = 2
  ·subst c20
   replace H := ip H
   have H' := am H; clear H
   go_wp2_with (first | ((with_reducible refine gate_callee (f := 18) rfl ?_); refine gL (some 14) rfl rfl Tryd.func18 #[.int .i64 x4_1, .int .i64 a0] ?_; (refine (XA.word_Words.calls k1 x4_1 a0 t105 t106 _ ?_ A5.out).mono ?_); exact LW.below HLW.out (bes HB.out); rintro e w21 ⟨v107, rfl, ho0, hb⟩; refine ⟨_, rfl, ?_⟩; have HO108 := am (Kd.R_lower ho0 (below_size (bes HB.out))); replace BK103 := kb BK103 hb; replace BK104 := kb BK104 hb; replace HB := bsp HB hb; (try clear hb); (try clear ho0); obtain ⟨Ao22, co22, eo22⟩ := Kd.R_slice HO108.out; subst eo22) | ((with_reducible refine gate_callee (f := 54) rfl ?_); refine gL (some 23) rfl rfl Tryd.func54 #[.slice Ao22 t105.length co22] ?_; (refine (newswirelaw11_joined.calls k1 _ _ t105 t109 _ ?_ ?_ A7.out).mono ?_); exact C_st ((Kd.R_reads' HO108.out).2.2); exact (Kd.R_reads' HO108.out).2.1; rintro e w' ⟨rfl, ⟨nd, rfl⟩⟩; refine ⟨_, rfl, ?_⟩; (try (rw [drewN_self w21]; generalize hq_ : World.drewN w21 _ = w21; have n0_ : Aside0 (Kd.R Kd.string 9 w21 w.heap.size (fun _ => True) (.slice Ao22 t105.length co22) t105) := ⟨by rw [← hq_]; exact (R_st HO108.out)⟩; have n1_ : Aside0 (w21.heap[gb103]? = some (.cells #[.string x104000_1, .string x104001_1, .string x104002_1] 49 (0, 0))) := ⟨by rw [← hq_]; exact (blk_st BK103.out)⟩; have n2_ : Aside0 (w21.heap[gb104]? = some (.cells #[.string x105000_1, .string x105001_1, .string x105002_1] 49 (0, 0))) := ⟨by rw [← hq_]; exact (blk_st BK104.out)⟩; have n3_ : Aside0 (Below w.heap.size w w21) := ⟨by rw [← hq_]; exact (bes HB.out)⟩; clear HO108 BK103 BK104 HB hq_; have HO108 := n0_; have BK103 := n1_; have BK104 := n2_; have HB := n3_; clear n0_ n1_ n2_ n3_)); have hnb23 := NB104_103.out; have hnc23 := NB103_104.out; have Z24_0 := z0 BK104.out; have Z24_1 := z1 BK104.out; have Z24_2 := z2 BK104.out; have F24_0 := fz BK104.out 0; have F24_1 := fz BK104.out 1; have F24_2 := fz BK104.out 2))
   go_roundg k1
   case measure => have := HK1.out; omega
   case rel => exact ⟨(wrap64 (x4_1 + 1)), (x104000_1), (x104001_1), (x104002_1), (x105000_1), (x105001_1), (t109), cd, H', ⟨by have := HK1.out; omega⟩, ⟨by (with_reducible repeat (first | refine blk_drewN ?_ _ | refine blk_drew ?_ | refine blk_alloc ?_ _)); refine blk_far ?_ NB103_104.out _; exact blk_st BK103.out⟩, ⟨by (with_reducible repeat (first | refine blk_drewN ?_ _ | refine blk_drew ?_ | refine blk_alloc ?_ _)); refine blk_put (cs := #[.string x105000_1, .string x105001_1, .string x105002_1]) ?_ 2 _ rfl; exact blk_st BK104.out⟩, ⟨by exact bes HB.out⟩⟩
  rw [if_neg c20] at H
  exact absurd H (by simp)

/-! ### newswirelaw11_sane: function 10 -/
mutual
def newswirelaw11_sane.j0 : Nat → Bool → Option (Bool)
 | 0, _ => none
 | k + 1, x1 => (newswirelaw11_texts.f k 31000).bind fun bt119 => (if (bt119.1.toList == ([116, 104, 105, 114, 116, 121, 45, 111, 110, 101, 32, 116, 104, 111, 117, 115, 97, 110, 100] : List UInt8) && (bt119.2.1.toList == ([101, 105, 110, 117, 110, 100, 100, 114, 101, 105, 115, 115, 105, 103, 116, 97, 117, 115, 101, 110, 100] : List UInt8) && (bt119.2.2.toList == ([116, 114, 101, 105, 110, 116, 97, 32, 121, 32, 117, 110, 32, 109, 105, 108] : List UInt8)))) = true then ((newswirelaw11_texts.f k 1100).bind fun bt122 => (newswirelaw11_sane.j1 k x1 (bt122.1.toList == ([111, 110, 101, 32, 116, 104, 111, 117, 115, 97, 110, 100, 32, 111, 110, 101, 32, 104, 117, 110, 100, 114, 101, 100] : List UInt8) && (bt122.2.1.toList == ([101, 105, 110, 116, 97, 117, 115, 101, 110, 100, 32, 101, 105, 110, 104, 117, 110, 100, 101, 114, 116] : List UInt8) && (bt122.2.2.toList == ([109, 105, 108, 32, 99, 105, 101, 110] : List UInt8)))))) else (newswirelaw11_sane.j1 k x1 false))
def newswirelaw11_sane.j1 : Nat → Bool → Bool → Option (Bool)
 | 0, _, _ => none
 | k + 1, x1, x2 => (some (([(B_ #[116,119,111]), (B_ #[104,117,110,100,114,101,100]), (B_ #[112,101,111,112,108,101])] : List ByteArray) : List ByteArray)).bind fun y125 => ((XA.word_Prefix.f k 1 y125 0).bind fun bt128 => ((XA.word_Prefix.f k 1 y125 1).bind fun bt131 => ((XA.word_Prefix.f k 1 y125 2).bind fun bt134 => ((XA.word_Month.f k 2 3).bind fun bt137 => ((XA.word_WeekdayOf.f k 3 (B_ #[100,111,109,105,110,103,111])).bind fun bt139 => ((XA.word_Words.f k 4 0).bind fun bt141 => ((XA.word_Number.f k 3 (([(B_ #[109,105,108]), (B_ #[99,105,101,110])] : List ByteArray))).bind fun bt148 => (if x1 = true then (if x2 = true then (if bt128.1 = 200 then (if bt128.2.1 = 2 then (if bt128.2.2 = true then (if bt131.2.2 = true then (some false) else (if bt134.2.2 = true then (some false) else (if bt137.2 = 0 then (if bt137.1.toList = ([109, 97, 101, 114, 122] : List UInt8) then (if bt139.2 = 0 then (if bt139.1 = 6 then (if bt141.2 = 110 then (if bt148.2 = 0 then (if bt148.1 = 1100 then ((XI.word_Is.f k 3 (B_ #[121])).bind fun t150 => (if t150 = true then ((XI.word_Is.f k 1 (B_ #[112,101,111,112,108,101])).bind fun t151 => (some (!t151))) else (some false))) else (some false)) else (some false)) else (some false)) else (some false)) else (some false)) else (some false)) else (some false)))) else (some false)) else (some false)) else (some false)) else (some false)) else (some false)))))))))
end
def newswirelaw11_sane.f (k : Nat)  : Option (Bool) := (newswirelaw11_texts.f k 0).bind fun bt110 => (if (bt110.1.toList == ([122, 101, 114, 111] : List UInt8) && (bt110.2.1.toList == ([110, 117, 108, 108] : List UInt8) && (bt110.2.2.toList == ([99, 101, 114, 111] : List UInt8)))) = true then ((newswirelaw11_texts.f k 21).bind fun bt113 => (if (bt113.1.toList == ([116, 119, 101, 110, 116, 121, 45, 111, 110, 101] : List UInt8) && (bt113.2.1.toList == ([101, 105, 110, 117, 110, 100, 122, 119, 97, 110, 122, 105, 103] : List UInt8) && (bt113.2.2.toList == ([118, 101, 105, 110, 116, 105, 117, 110, 111] : List UInt8)))) = true then ((newswirelaw11_texts.f k 101).bind fun bt116 => (newswirelaw11_sane.j0 k (bt116.1.toList == ([111, 110, 101, 32, 104, 117, 110, 100, 114, 101, 100, 32, 111, 110, 101] : List UInt8) && (bt116.2.1.toList == ([101, 105, 110, 104, 117, 110, 100, 101, 114, 116, 101, 105, 110, 115] : List UInt8) && (bt116.2.2.toList == ([99, 105, 101, 110, 116, 111, 32, 117, 110, 111] : List UInt8)))))) else (newswirelaw11_sane.j0 k false))) else (newswirelaw11_sane.j0 k false))
theorem newswirelaw11_sane.mono_l : ∀ k, (∀ y0, LeO (newswirelaw11_sane.j0 k y0) (newswirelaw11_sane.j0 (k + 1) y0)) ∧ (∀ y0 y1, LeO (newswirelaw11_sane.j1 k y0 y1) (newswirelaw11_sane.j1 (k + 1) y0 y1))
 | 0 => ⟨fun _ r h => by simp [newswirelaw11_sane.j0] at h, fun _ _ r h => by simp [newswirelaw11_sane.j1] at h⟩
 | k + 1 => by
  obtain ⟨ih0, ih1⟩ := newswirelaw11_sane.mono_l k
  refine ⟨?_, ?_⟩
  all_goals
   intros; first | unfold newswirelaw11_sane.j0 | unfold newswirelaw11_sane.j1
   repeat' first
   | (with_reducible exact ih0 _)
   | (with_reducible exact ih1 _ _)
   | (with_reducible exact XA.word_Month.mono _ _ _)
   | (with_reducible exact XA.word_Number.mono _ _ _)
   | (with_reducible exact XA.word_Prefix.mono _ _ _ _)
   | (with_reducible exact XA.word_WeekdayOf.mono _ _ _)
   | (with_reducible exact XA.word_Words.mono _ _ _)
   | (with_reducible exact XI.word_Is.mono _ _ _)
   | (with_reducible exact newswirelaw11_texts.mono _ _)
   | (with_reducible exact LeO.refl _)
   | (with_reducible exact LeO.none _)
   | (with_reducible refine LeO.ite ?_ ?_)
   | (with_reducible refine LeO.bind ?_ (fun _ => ?_))
theorem newswirelaw11_sane.mono : ∀ k, LeO (newswirelaw11_sane.f k ) (newswirelaw11_sane.f (k + 1) ) := by
 intro  k; obtain ⟨ih0, ih1⟩ := newswirelaw11_sane.mono_l k
 unfold newswirelaw11_sane.f
 repeat' first
   | (with_reducible exact ih0 _)
   | (with_reducible exact ih1 _ _)
   | (with_reducible exact XA.word_Month.mono _ _ _)
   | (with_reducible exact XA.word_Number.mono _ _ _)
   | (with_reducible exact XA.word_Prefix.mono _ _ _ _)
   | (with_reducible exact XA.word_WeekdayOf.mono _ _ _)
   | (with_reducible exact XA.word_Words.mono _ _ _)
   | (with_reducible exact XI.word_Is.mono _ _ _)
   | (with_reducible exact newswirelaw11_texts.mono _ _)
   | (with_reducible exact LeO.refl _)
   | (with_reducible exact LeO.none _)
   | (with_reducible refine LeO.ite ?_ ?_)
   | (with_reducible refine LeO.bind ?_ (fun _ => ?_))
theorem newswirelaw11_sane.calls (k : Nat)  (r : Bool) (w : World) (hL_ : LW w) (h : newswirelaw11_sane.f k  = some r) :
  Calls Tryd.prog 10 #[] w fun e w' => e = .returned (.bool r) ∧ Below w.heap.size w w' := by
 have hu49 := Tryd.underlying49; have HLW := am hL_; clear hL_; have HB := am (Below.refl w.heap.size w)
 have H := h; clear h; unfold newswirelaw11_sane.f at H; have HC1 := am H; clear H
 go_enter Tryd.func10, Tryd.ntmps10
 go_upto_region 1 with (fail)
 go_cut [1] (fun v1 wc => ∃ (kq : Nat) (x1_0 : Bool), v1 = .bool x1_0 ∧ Aside0 (newswirelaw11_sane.j0 kq x1_0 = some r) ∧ Aside0 (kq ≤ k) ∧ Aside0 (Below w.heap.size w wc))
 case first =>
  have H := HC1.out; clear HC1; replace H := bm H; obtain ⟨⟨t110, t111, t112⟩, A20, H⟩ := H; replace H : (if (t110.toList == ([122, 101, 114, 111] : List UInt8) && (t111.toList == ([110, 117, 108, 108] : List UInt8) && (t112.toList == ([99, 101, 114, 111] : List UInt8)))) = true then ((newswirelaw11_texts.f k 21).bind fun bt113 => (if (bt113.1.toList == ([116, 119, 101, 110, 116, 121, 45, 111, 110, 101] : List UInt8) && (bt113.2.1.toList == ([101, 105, 110, 117, 110, 100, 122, 119, 97, 110, 122, 105, 103] : List UInt8) && (bt113.2.2.toList == ([118, 101, 105, 110, 116, 105, 117, 110, 111] : List UInt8)))) = true then ((newswirelaw11_texts.f k 101).bind fun bt116 => (newswirelaw11_sane.j0 k (bt116.1.toList == ([111, 110, 101, 32, 104, 117, 110, 100, 114, 101, 100, 32, 111, 110, 101] : List UInt8) && (bt116.2.1.toList == ([101, 105, 110, 104, 117, 110, 100, 101, 114, 116, 101, 105, 110, 115] : List UInt8) && (bt116.2.2.toList == ([99, 105, 101, 110, 116, 111, 32, 117, 110, 111] : List UInt8)))))) else (newswirelaw11_sane.j0 k false))) else (newswirelaw11_sane.j0 k false)) = some r := H; have A2 := am A20; clear A20
  by_cases c3 : (t110.toList == ([122, 101, 114, 111] : List UInt8) && (t111.toList == ([110, 117, 108, 108] : List UInt8) && (t112.toList == ([99, 101, 114, 111] : List UInt8)))) = true; rotate_left
  ·rw [if_neg c3] at H
   have c3b0 : (t110.toList == ([122, 101, 114, 111] : List UInt8) && (t111.toList == ([110, 117, 108, 108] : List UInt8) && (t112.toList == ([99, 101, 114, 111] : List UInt8)))) = false := by simpa using c3
   (try (have c3b1 : decide (t110.toList = ([122, 101, 114, 111] : List UInt8) && (t111.toList == ([110, 117, 108, 108] : List UInt8) && (t112.toList == ([99, 101, 114, 111] : List UInt8)))) = false := by simpa using c3))
   (try (have c3b2 : (t110.toList == ([122, 101, 114, 111] : List UInt8) && (t111.toList == ([110, 117, 108, 108] : List UInt8) && (t112.toList == ([99, 101, 114, 111] : List UInt8)))) = false := by simpa using c3))
   (try (have c3b3 : ¬ (t110.toList = ([122, 101, 114, 111] : List UInt8) && (t111.toList == ([110, 117, 108, 108] : List UInt8) && (t112.toList == ([99, 101, 114, 111] : List UInt8)))) := by simpa using c3)); clear c3
   (first | rw [c3b0] | (simp only [i64_w, i32_w]; rw [c3b0]) | skip)
   have H' := am H; clear H
   go_wp2_with (first | ((with_reducible refine gate_callee (f := 31) rfl ?_); refine gL (some 21) rfl rfl Tryd.func31 #[.int .i64 0] ?_; (refine (newswirelaw11_texts.calls k 0 t110 t111 t112 _ ?_ A2.out).mono ?_); exact LW.below HLW.out (bes HB.out); rintro e w12 ⟨rfl, hb⟩; refine ⟨_, rfl, ?_⟩; replace HB := bsp HB hb; (try clear hb)))
   go_meet
   case rel => exact ⟨_, (false), cd, H', ⟨om⟩, ⟨by exact bes HB.out⟩⟩
  rw [if_pos c3] at H
  have c3b0 : (t110.toList == ([122, 101, 114, 111] : List UInt8) && (t111.toList == ([110, 117, 108, 108] : List UInt8) && (t112.toList == ([99, 101, 114, 111] : List UInt8)))) = true := c3
  (try (have c3b1 : decide (t110.toList = ([122, 101, 114, 111] : List UInt8) && (t111.toList == ([110, 117, 108, 108] : List UInt8) && (t112.toList == ([99, 101, 114, 111] : List UInt8)))) = true := by simpa using c3))
  (try (have c3b2 : (t110.toList == ([122, 101, 114, 111] : List UInt8) && (t111.toList == ([110, 117, 108, 108] : List UInt8) && (t112.toList == ([99, 101, 114, 111] : List UInt8)))) = true := by simpa using c3)); clear c3
  (first | rw [c3b0] | (simp only [i64_w, i32_w]; rw [c3b0]) | skip); replace H := bm H; obtain ⟨⟨t113, t114, t115⟩, A40, H⟩ := H; replace H : (if (t113.toList == ([116, 119, 101, 110, 116, 121, 45, 111, 110, 101] : List UInt8) && (t114.toList == ([101, 105, 110, 117, 110, 100, 122, 119, 97, 110, 122, 105, 103] : List UInt8) && (t115.toList == ([118, 101, 105, 110, 116, 105, 117, 110, 111] : List UInt8)))) = true then ((newswirelaw11_texts.f k 101).bind fun bt116 => (newswirelaw11_sane.j0 k (bt116.1.toList == ([111, 110, 101, 32, 104, 117, 110, 100, 114, 101, 100, 32, 111, 110, 101] : List UInt8) && (bt116.2.1.toList == ([101, 105, 110, 104, 117, 110, 100, 101, 114, 116, 101, 105, 110, 115] : List UInt8) && (bt116.2.2.toList == ([99, 105, 101, 110, 116, 111, 32, 117, 110, 111] : List UInt8)))))) else (newswirelaw11_sane.j0 k false)) = some r := H; have A4 := am A40; clear A40
  by_cases c5 : (t113.toList == ([116, 119, 101, 110, 116, 121, 45, 111, 110, 101] : List UInt8) && (t114.toList == ([101, 105, 110, 117, 110, 100, 122, 119, 97, 110, 122, 105, 103] : List UInt8) && (t115.toList == ([118, 101, 105, 110, 116, 105, 117, 110, 111] : List UInt8)))) = true
  ·rw [if_pos c5] at H
   have c5b0 : (t113.toList == ([116, 119, 101, 110, 116, 121, 45, 111, 110, 101] : List UInt8) && (t114.toList == ([101, 105, 110, 117, 110, 100, 122, 119, 97, 110, 122, 105, 103] : List UInt8) && (t115.toList == ([118, 101, 105, 110, 116, 105, 117, 110, 111] : List UInt8)))) = true := c5
   (try (have c5b1 : decide (t113.toList = ([116, 119, 101, 110, 116, 121, 45, 111, 110, 101] : List UInt8) && (t114.toList == ([101, 105, 110, 117, 110, 100, 122, 119, 97, 110, 122, 105, 103] : List UInt8) && (t115.toList == ([118, 101, 105, 110, 116, 105, 117, 110, 111] : List UInt8)))) = true := by simpa using c5))
   (try (have c5b2 : (t113.toList == ([116, 119, 101, 110, 116, 121, 45, 111, 110, 101] : List UInt8) && (t114.toList == ([101, 105, 110, 117, 110, 100, 122, 119, 97, 110, 122, 105, 103] : List UInt8) && (t115.toList == ([118, 101, 105, 110, 116, 105, 117, 110, 111] : List UInt8)))) = true := by simpa using c5)); clear c5; replace H := bm H; obtain ⟨⟨t116, t117, t118⟩, A60, H⟩ := H; replace H : (newswirelaw11_sane.j0 k (t116.toList == ([111, 110, 101, 32, 104, 117, 110, 100, 114, 101, 100, 32, 111, 110, 101] : List UInt8) && (t117.toList == ([101, 105, 110, 104, 117, 110, 100, 101, 114, 116, 101, 105, 110, 115] : List UInt8) && (t118.toList == ([99, 105, 101, 110, 116, 111, 32, 117, 110, 111] : List UInt8))))) = some r := H; have A6 := am A60; clear A60
   have H' := am H; clear H
   go_wp2_with (first | ((with_reducible refine gate_callee (f := 31) rfl ?_); refine gL (some 21) rfl rfl Tryd.func31 #[.int .i64 0] ?_; (with_reducible refine (newswirelaw11_texts.calls k 0 t110 t111 t112 _ ?_ A2.out).mono ?_); exact LW.below HLW.out (bes HB.out); rintro e w7 ⟨rfl, hb⟩; refine ⟨_, rfl, ?_⟩; replace HB := bsp HB hb; (try clear hb)) | (go_at_call 31; (with_reducible refine (newswirelaw11_texts.calls k 21 t113 t114 t115 _ ?_ A4.out).mono ?_); exact LW.below HLW.out (bes HB.out); rintro e w8 ⟨rfl, hb⟩; replace HB := bsp HB hb; (try clear hb)) | (go_at_call 31; (with_reducible refine (newswirelaw11_texts.calls k 101 t116 t117 t118 _ ?_ A6.out).mono ?_); exact LW.below HLW.out (bes HB.out); rintro e w9 ⟨rfl, hb⟩; replace HB := bsp HB hb; (try clear hb)))
   go_meet
   case rel => exact ⟨_, ((t116.toList == ([111, 110, 101, 32, 104, 117, 110, 100, 114, 101, 100, 32, 111, 110, 101] : List UInt8) && (t117.toList == ([101, 105, 110, 104, 117, 110, 100, 101, 114, 116, 101, 105, 110, 115] : List UInt8) && (t118.toList == ([99, 105, 101, 110, 116, 111, 32, 117, 110, 111] : List UInt8))))), cd, H', ⟨om⟩, ⟨by exact bes HB.out⟩⟩
  rw [if_neg c5] at H
  have c5b0 : (t113.toList == ([116, 119, 101, 110, 116, 121, 45, 111, 110, 101] : List UInt8) && (t114.toList == ([101, 105, 110, 117, 110, 100, 122, 119, 97, 110, 122, 105, 103] : List UInt8) && (t115.toList == ([118, 101, 105, 110, 116, 105, 117, 110, 111] : List UInt8)))) = false := by simpa using c5
  (try (have c5b1 : decide (t113.toList = ([116, 119, 101, 110, 116, 121, 45, 111, 110, 101] : List UInt8) && (t114.toList == ([101, 105, 110, 117, 110, 100, 122, 119, 97, 110, 122, 105, 103] : List UInt8) && (t115.toList == ([118, 101, 105, 110, 116, 105, 117, 110, 111] : List UInt8)))) = false := by simpa using c5))
  (try (have c5b2 : (t113.toList == ([116, 119, 101, 110, 116, 121, 45, 111, 110, 101] : List UInt8) && (t114.toList == ([101, 105, 110, 117, 110, 100, 122, 119, 97, 110, 122, 105, 103] : List UInt8) && (t115.toList == ([118, 101, 105, 110, 116, 105, 117, 110, 111] : List UInt8)))) = false := by simpa using c5))
  (try (have c5b3 : ¬ (t113.toList = ([116, 119, 101, 110, 116, 121, 45, 111, 110, 101] : List UInt8) && (t114.toList == ([101, 105, 110, 117, 110, 100, 122, 119, 97, 110, 122, 105, 103] : List UInt8) && (t115.toList == ([118, 101, 105, 110, 116, 105, 117, 110, 111] : List UInt8)))) := by simpa using c5)); clear c5
  have H' := am H; clear H
  go_wp2_with (first | ((with_reducible refine gate_callee (f := 31) rfl ?_); refine gL (some 21) rfl rfl Tryd.func31 #[.int .i64 0] ?_; (with_reducible refine (newswirelaw11_texts.calls k 0 t110 t111 t112 _ ?_ A2.out).mono ?_); exact LW.below HLW.out (bes HB.out); rintro e w10 ⟨rfl, hb⟩; refine ⟨_, rfl, ?_⟩; replace HB := bsp HB hb; (try clear hb)) | (go_at_call 31; (with_reducible refine (newswirelaw11_texts.calls k 21 t113 t114 t115 _ ?_ A4.out).mono ?_); exact LW.below HLW.out (bes HB.out); rintro e w11 ⟨rfl, hb⟩; replace HB := bsp HB hb; (try clear hb)))
  go_meet
  case rel => exact ⟨_, (false), cd, H', ⟨om⟩, ⟨by exact bes HB.out⟩⟩
 clear HC1
 try clear c1
 try clear p2
 try clear c3
 try clear c3b0
 try clear c3b1
 try clear c3b2
 try clear c5
 try clear c5b0
 try clear c5b1
 try clear c5b2
 try clear c10
 obtain ⟨kq, x1_0, rfl, HA, HJ0, HB⟩ := hcut
 cases kq with
 | zero => exact absurd HA.out (by simp [newswirelaw11_sane.j0])
 | succ kj0 =>
  have H := HA.out; clear HA; simp only [newswirelaw11_sane.j0] at H; have HC13 := am H; clear H
  go_upto_region 2 with (fail)
  go_cut [2] (fun v2 wc => ∃ (kq : Nat) (x2_12 : Bool), v2 = .bool x2_12 ∧ Aside0 (newswirelaw11_sane.j1 kq x1_0 x2_12 = some r) ∧ Aside0 (kq ≤ kj0) ∧ Aside0 (Below w.heap.size w wc))
  case first =>
   have H := HC13.out; clear HC13; replace H := bm H; obtain ⟨⟨t119, t120, t121⟩, A140, H⟩ := H; replace H : (if (t119.toList == ([116, 104, 105, 114, 116, 121, 45, 111, 110, 101, 32, 116, 104, 111, 117, 115, 97, 110, 100] : List UInt8) && (t120.toList == ([101, 105, 110, 117, 110, 100, 100, 114, 101, 105, 115, 115, 105, 103, 116, 97, 117, 115, 101, 110, 100] : List UInt8) && (t121.toList == ([116, 114, 101, 105, 110, 116, 97, 32, 121, 32, 117, 110, 32, 109, 105, 108] : List UInt8)))) = true then ((newswirelaw11_texts.f kj0 1100).bind fun bt122 => (newswirelaw11_sane.j1 kj0 x1_0 (bt122.1.toList == ([111, 110, 101, 32, 116, 104, 111, 117, 115, 97, 110, 100, 32, 111, 110, 101, 32, 104, 117, 110, 100, 114, 101, 100] : List UInt8) && (bt122.2.1.toList == ([101, 105, 110, 116, 97, 117, 115, 101, 110, 100, 32, 101, 105, 110, 104, 117, 110, 100, 101, 114, 116] : List UInt8) && (bt122.2.2.toList == ([109, 105, 108, 32, 99, 105, 101, 110] : List UInt8)))))) else (newswirelaw11_sane.j1 kj0 x1_0 false)) = some r := H; have A14 := am A140; clear A140
   by_cases c15 : (t119.toList == ([116, 104, 105, 114, 116, 121, 45, 111, 110, 101, 32, 116, 104, 111, 117, 115, 97, 110, 100] : List UInt8) && (t120.toList == ([101, 105, 110, 117, 110, 100, 100, 114, 101, 105, 115, 115, 105, 103, 116, 97, 117, 115, 101, 110, 100] : List UInt8) && (t121.toList == ([116, 114, 101, 105, 110, 116, 97, 32, 121, 32, 117, 110, 32, 109, 105, 108] : List UInt8)))) = true
   ·rw [if_pos c15] at H
    have c15b0 : (t119.toList == ([116, 104, 105, 114, 116, 121, 45, 111, 110, 101, 32, 116, 104, 111, 117, 115, 97, 110, 100] : List UInt8) && (t120.toList == ([101, 105, 110, 117, 110, 100, 100, 114, 101, 105, 115, 115, 105, 103, 116, 97, 117, 115, 101, 110, 100] : List UInt8) && (t121.toList == ([116, 114, 101, 105, 110, 116, 97, 32, 121, 32, 117, 110, 32, 109, 105, 108] : List UInt8)))) = true := c15
    (try (have c15b1 : decide (t119.toList = ([116, 104, 105, 114, 116, 121, 45, 111, 110, 101, 32, 116, 104, 111, 117, 115, 97, 110, 100] : List UInt8) && (t120.toList == ([101, 105, 110, 117, 110, 100, 100, 114, 101, 105, 115, 115, 105, 103, 116, 97, 117, 115, 101, 110, 100] : List UInt8) && (t121.toList == ([116, 114, 101, 105, 110, 116, 97, 32, 121, 32, 117, 110, 32, 109, 105, 108] : List UInt8)))) = true := by simpa using c15))
    (try (have c15b2 : (t119.toList == ([116, 104, 105, 114, 116, 121, 45, 111, 110, 101, 32, 116, 104, 111, 117, 115, 97, 110, 100] : List UInt8) && (t120.toList == ([101, 105, 110, 117, 110, 100, 100, 114, 101, 105, 115, 115, 105, 103, 116, 97, 117, 115, 101, 110, 100] : List UInt8) && (t121.toList == ([116, 114, 101, 105, 110, 116, 97, 32, 121, 32, 117, 110, 32, 109, 105, 108] : List UInt8)))) = true := by simpa using c15)); clear c15
    (first | rw [c15b0] | (simp only [i64_w, i32_w]; rw [c15b0]) | skip); replace H := bm H; obtain ⟨⟨t122, t123, t124⟩, A160, H⟩ := H; replace H : (newswirelaw11_sane.j1 kj0 x1_0 (t122.toList == ([111, 110, 101, 32, 116, 104, 111, 117, 115, 97, 110, 100, 32, 111, 110, 101, 32, 104, 117, 110, 100, 114, 101, 100] : List UInt8) && (t123.toList == ([101, 105, 110, 116, 97, 117, 115, 101, 110, 100, 32, 101, 105, 110, 104, 117, 110, 100, 101, 114, 116] : List UInt8) && (t124.toList == ([109, 105, 108, 32, 99, 105, 101, 110] : List UInt8))))) = some r := H; have A16 := am A160; clear A160
    have H' := am H; clear H
    go_wp2_with (first | ((with_reducible refine gate_callee (f := 31) rfl ?_); refine gL (some 34) rfl rfl Tryd.func31 #[.int .i64 31000] ?_; (with_reducible refine (newswirelaw11_texts.calls kj0 31000 t119 t120 t121 _ ?_ A14.out).mono ?_); exact LW.below HLW.out (bes HB.out); rintro e w17 ⟨rfl, hb⟩; refine ⟨_, rfl, ?_⟩; replace HB := bsp HB hb; (try clear hb)) | (go_at_call 31; (with_reducible refine (newswirelaw11_texts.calls kj0 1100 t122 t123 t124 _ ?_ A16.out).mono ?_); exact LW.below HLW.out (bes HB.out); rintro e w18 ⟨rfl, hb⟩; replace HB := bsp HB hb; (try clear hb)))
    go_meet
    case rel => exact ⟨_, ((t122.toList == ([111, 110, 101, 32, 116, 104, 111, 117, 115, 97, 110, 100, 32, 111, 110, 101, 32, 104, 117, 110, 100, 114, 101, 100] : List UInt8) && (t123.toList == ([101, 105, 110, 116, 97, 117, 115, 101, 110, 100, 32, 101, 105, 110, 104, 117, 110, 100, 101, 114, 116] : List UInt8) && (t124.toList == ([109, 105, 108, 32, 99, 105, 101, 110] : List UInt8))))), cd, H', ⟨by have := HJ0.out; first | omega | exact Nat.le_refl _⟩, ⟨by exact bes HB.out⟩⟩
   rw [if_neg c15] at H
   have c15b0 : (t119.toList == ([116, 104, 105, 114, 116, 121, 45, 111, 110, 101, 32, 116, 104, 111, 117, 115, 97, 110, 100] : List UInt8) && (t120.toList == ([101, 105, 110, 117, 110, 100, 100, 114, 101, 105, 115, 115, 105, 103, 116, 97, 117, 115, 101, 110, 100] : List UInt8) && (t121.toList == ([116, 114, 101, 105, 110, 116, 97, 32, 121, 32, 117, 110, 32, 109, 105, 108] : List UInt8)))) = false := by simpa using c15
   (try (have c15b1 : decide (t119.toList = ([116, 104, 105, 114, 116, 121, 45, 111, 110, 101, 32, 116, 104, 111, 117, 115, 97, 110, 100] : List UInt8) && (t120.toList == ([101, 105, 110, 117, 110, 100, 100, 114, 101, 105, 115, 115, 105, 103, 116, 97, 117, 115, 101, 110, 100] : List UInt8) && (t121.toList == ([116, 114, 101, 105, 110, 116, 97, 32, 121, 32, 117, 110, 32, 109, 105, 108] : List UInt8)))) = false := by simpa using c15))
   (try (have c15b2 : (t119.toList == ([116, 104, 105, 114, 116, 121, 45, 111, 110, 101, 32, 116, 104, 111, 117, 115, 97, 110, 100] : List UInt8) && (t120.toList == ([101, 105, 110, 117, 110, 100, 100, 114, 101, 105, 115, 115, 105, 103, 116, 97, 117, 115, 101, 110, 100] : List UInt8) && (t121.toList == ([116, 114, 101, 105, 110, 116, 97, 32, 121, 32, 117, 110, 32, 109, 105, 108] : List UInt8)))) = false := by simpa using c15))
   (try (have c15b3 : ¬ (t119.toList = ([116, 104, 105, 114, 116, 121, 45, 111, 110, 101, 32, 116, 104, 111, 117, 115, 97, 110, 100] : List UInt8) && (t120.toList == ([101, 105, 110, 117, 110, 100, 100, 114, 101, 105, 115, 115, 105, 103, 116, 97, 117, 115, 101, 110, 100] : List UInt8) && (t121.toList == ([116, 114, 101, 105, 110, 116, 97, 32, 121, 32, 117, 110, 32, 109, 105, 108] : List UInt8)))) := by simpa using c15)); clear c15
   (first | rw [c15b0] | (simp only [i64_w, i32_w]; rw [c15b0]) | skip)
   have H' := am H; clear H
   go_wp2_with (first | ((with_reducible refine gate_callee (f := 31) rfl ?_); refine gL (some 34) rfl rfl Tryd.func31 #[.int .i64 31000] ?_; (refine (newswirelaw11_texts.calls kj0 31000 t119 t120 t121 _ ?_ A14.out).mono ?_); exact LW.below HLW.out (bes HB.out); rintro e w19 ⟨rfl, hb⟩; refine ⟨_, rfl, ?_⟩; replace HB := bsp HB hb; (try clear hb)))
   go_meet
   case rel => exact ⟨_, (false), cd, H', ⟨by have := HJ0.out; first | omega | exact Nat.le_refl _⟩, ⟨by exact bes HB.out⟩⟩
  clear HC13
  try clear c1
  try clear p2
  try clear c3
  try clear c3b0
  try clear c3b1
  try clear c3b2
  try clear c5
  try clear c5b0
  try clear c5b1
  try clear c5b2
  try clear c10
  try clear c15
  try clear c15b0
  try clear c15b1
  try clear c15b2
  try clear p2
  obtain ⟨kq, x2_12, rfl, HA, HJ12, HB⟩ := hcut
  cases kq with
  | zero => exact absurd HA.out (by simp [newswirelaw11_sane.j1])
  | succ kj12 =>
   have H := HA.out; clear HA; simp only [newswirelaw11_sane.j1] at H; obtain ⟨y125, hy125⟩ : ∃ y_ : List ByteArray, y_ = (([(B_ #[116,119,111]), (B_ #[104,117,110,100,114,101,100]), (B_ #[112,101,111,112,108,101])] : List ByteArray)) := ⟨_, rfl⟩; replace H : ((XA.word_Prefix.f kj12 1 y125 0).bind fun bt128 => ((XA.word_Prefix.f kj12 1 y125 1).bind fun bt131 => ((XA.word_Prefix.f kj12 1 y125 2).bind fun bt134 => ((XA.word_Month.f kj12 2 3).bind fun bt137 => ((XA.word_WeekdayOf.f kj12 3 (B_ #[100,111,109,105,110,103,111])).bind fun bt139 => ((XA.word_Words.f kj12 4 0).bind fun bt141 => ((XA.word_Number.f kj12 3 (([(B_ #[109,105,108]), (B_ #[99,105,101,110])] : List ByteArray))).bind fun bt148 => (if x1_0 = true then (if x2_12 = true then (if bt128.1 = 200 then (if bt128.2.1 = 2 then (if bt128.2.2 = true then (if bt131.2.2 = true then (some false) else (if bt134.2.2 = true then (some false) else (if bt137.2 = 0 then (if bt137.1.toList = ([109, 97, 101, 114, 122] : List UInt8) then (if bt139.2 = 0 then (if bt139.1 = 6 then (if bt141.2 = 110 then (if bt148.2 = 0 then (if bt148.1 = 1100 then ((XI.word_Is.f kj12 3 (B_ #[121])).bind fun t150 => (if t150 = true then ((XI.word_Is.f kj12 1 (B_ #[112,101,111,112,108,101])).bind fun t151 => (some (!t151))) else (some false))) else (some false)) else (some false)) else (some false)) else (some false)) else (some false)) else (some false)) else (some false)))) else (some false)) else (some false)) else (some false)) else (some false)) else (some false))))))))) = some r := by first | (rw [hy125]; with_reducible exact H) | (have H2_ := (Option.bind_some _ _).symm.trans H; rw [hy125]; with_reducible exact H2_) | (have H2_ := (Option.bind_some _ _).symm.trans H; with_reducible exact H2_) | with_reducible exact H | (rw [hy125]; exact H) | exact H
   have Ny125 := am hy125; clear hy125; replace H := bm H; obtain ⟨⟨t128, t129, t130⟩, A200, H⟩ := H; replace H : ((XA.word_Prefix.f kj12 1 y125 1).bind fun bt131 => ((XA.word_Prefix.f kj12 1 y125 2).bind fun bt134 => ((XA.word_Month.f kj12 2 3).bind fun bt137 => ((XA.word_WeekdayOf.f kj12 3 (B_ #[100,111,109,105,110,103,111])).bind fun bt139 => ((XA.word_Words.f kj12 4 0).bind fun bt141 => ((XA.word_Number.f kj12 3 (([(B_ #[109,105,108]), (B_ #[99,105,101,110])] : List ByteArray))).bind fun bt148 => (if x1_0 = true then (if x2_12 = true then (if t128 = 200 then (if t129 = 2 then (if t130 = true then (if bt131.2.2 = true then (some false) else (if bt134.2.2 = true then (some false) else (if bt137.2 = 0 then (if bt137.1.toList = ([109, 97, 101, 114, 122] : List UInt8) then (if bt139.2 = 0 then (if bt139.1 = 6 then (if bt141.2 = 110 then (if bt148.2 = 0 then (if bt148.1 = 1100 then ((XI.word_Is.f kj12 3 (B_ #[121])).bind fun t150 => (if t150 = true then ((XI.word_Is.f kj12 1 (B_ #[112,101,111,112,108,101])).bind fun t151 => (some (!t151))) else (some false))) else (some false)) else (some false)) else (some false)) else (some false)) else (some false)) else (some false)) else (some false)))) else (some false)) else (some false)) else (some false)) else (some false)) else (some false)))))))) = some r := H; have A20 := am A200; clear A200; replace H := bm H; obtain ⟨⟨t131, t132, t133⟩, A210, H⟩ := H; replace H : ((XA.word_Prefix.f kj12 1 y125 2).bind fun bt134 => ((XA.word_Month.f kj12 2 3).bind fun bt137 => ((XA.word_WeekdayOf.f kj12 3 (B_ #[100,111,109,105,110,103,111])).bind fun bt139 => ((XA.word_Words.f kj12 4 0).bind fun bt141 => ((XA.word_Number.f kj12 3 (([(B_ #[109,105,108]), (B_ #[99,105,101,110])] : List ByteArray))).bind fun bt148 => (if x1_0 = true then (if x2_12 = true then (if t128 = 200 then (if t129 = 2 then (if t130 = true then (if t133 = true then (some false) else (if bt134.2.2 = true then (some false) else (if bt137.2 = 0 then (if bt137.1.toList = ([109, 97, 101, 114, 122] : List UInt8) then (if bt139.2 = 0 then (if bt139.1 = 6 then (if bt141.2 = 110 then (if bt148.2 = 0 then (if bt148.1 = 1100 then ((XI.word_Is.f kj12 3 (B_ #[121])).bind fun t150 => (if t150 = true then ((XI.word_Is.f kj12 1 (B_ #[112,101,111,112,108,101])).bind fun t151 => (some (!t151))) else (some false))) else (some false)) else (some false)) else (some false)) else (some false)) else (some false)) else (some false)) else (some false)))) else (some false)) else (some false)) else (some false)) else (some false)) else (some false))))))) = some r := H; have A21 := am A210; clear A210; replace H := bm H; obtain ⟨⟨t134, t135, t136⟩, A220, H⟩ := H; replace H : ((XA.word_Month.f kj12 2 3).bind fun bt137 => ((XA.word_WeekdayOf.f kj12 3 (B_ #[100,111,109,105,110,103,111])).bind fun bt139 => ((XA.word_Words.f kj12 4 0).bind fun bt141 => ((XA.word_Number.f kj12 3 (([(B_ #[109,105,108]), (B_ #[99,105,101,110])] : List ByteArray))).bind fun bt148 => (if x1_0 = true then (if x2_12 = true then (if t128 = 200 then (if t129 = 2 then (if t130 = true then (if t133 = true then (some false) else (if t136 = true then (some false) else (if bt137.2 = 0 then (if bt137.1.toList = ([109, 97, 101, 114, 122] : List UInt8) then (if bt139.2 = 0 then (if bt139.1 = 6 then (if bt141.2 = 110 then (if bt148.2 = 0 then (if bt148.1 = 1100 then ((XI.word_Is.f kj12 3 (B_ #[121])).bind fun t150 => (if t150 = true then ((XI.word_Is.f kj12 1 (B_ #[112,101,111,112,108,101])).bind fun t151 => (some (!t151))) else (some false))) else (some false)) else (some false)) else (some false)) else (some false)) else (some false)) else (some false)) else (some false)))) else (some false)) else (some false)) else (some false)) else (some false)) else (some false)))))) = some r := H; have A22 := am A220; clear A220; replace H := bm H; obtain ⟨⟨t137, t138⟩, A230, H⟩ := H; replace H : ((XA.word_WeekdayOf.f kj12 3 (B_ #[100,111,109,105,110,103,111])).bind fun bt139 => ((XA.word_Words.f kj12 4 0).bind fun bt141 => ((XA.word_Number.f kj12 3 (([(B_ #[109,105,108]), (B_ #[99,105,101,110])] : List ByteArray))).bind fun bt148 => (if x1_0 = true then (if x2_12 = true then (if t128 = 200 then (if t129 = 2 then (if t130 = true then (if t133 = true then (some false) else (if t136 = true then (some false) else (if t138 = 0 then (if t137.toList = ([109, 97, 101, 114, 122] : List UInt8) then (if bt139.2 = 0 then (if bt139.1 = 6 then (if bt141.2 = 110 then (if bt148.2 = 0 then (if bt148.1 = 1100 then ((XI.word_Is.f kj12 3 (B_ #[121])).bind fun t150 => (if t150 = true then ((XI.word_Is.f kj12 1 (B_ #[112,101,111,112,108,101])).bind fun t151 => (some (!t151))) else (some false))) else (some false)) else (some false)) else (some false)) else (some false)) else (some false)) else (some false)) else (some false)))) else (some false)) else (some false)) else (some false)) else (some false)) else (some false))))) = some r := H; have A23 := am A230; clear A230; replace H := bm H; obtain ⟨⟨t139, t140⟩, A240, H⟩ := H; replace H : ((XA.word_Words.f kj12 4 0).bind fun bt141 => ((XA.word_Number.f kj12 3 (([(B_ #[109,105,108]), (B_ #[99,105,101,110])] : List ByteArray))).bind fun bt148 => (if x1_0 = true then (if x2_12 = true then (if t128 = 200 then (if t129 = 2 then (if t130 = true then (if t133 = true then (some false) else (if t136 = true then (some false) else (if t138 = 0 then (if t137.toList = ([109, 97, 101, 114, 122] : List UInt8) then (if t140 = 0 then (if t139 = 6 then (if bt141.2 = 110 then (if bt148.2 = 0 then (if bt148.1 = 1100 then ((XI.word_Is.f kj12 3 (B_ #[121])).bind fun t150 => (if t150 = true then ((XI.word_Is.f kj12 1 (B_ #[112,101,111,112,108,101])).bind fun t151 => (some (!t151))) else (some false))) else (some false)) else (some false)) else (some false)) else (some false)) else (some false)) else (some false)) else (some false)))) else (some false)) else (some false)) else (some false)) else (some false)) else (some false)))) = some r := H; have A24 := am A240; clear A240; replace H := bm H; obtain ⟨⟨t141, t142⟩, A250, H⟩ := H; replace H : ((XA.word_Number.f kj12 3 (([(B_ #[109,105,108]), (B_ #[99,105,101,110])] : List ByteArray))).bind fun bt148 => (if x1_0 = true then (if x2_12 = true then (if t128 = 200 then (if t129 = 2 then (if t130 = true then (if t133 = true then (some false) else (if t136 = true then (some false) else (if t138 = 0 then (if t137.toList = ([109, 97, 101, 114, 122] : List UInt8) then (if t140 = 0 then (if t139 = 6 then (if t142 = 110 then (if bt148.2 = 0 then (if bt148.1 = 1100 then ((XI.word_Is.f kj12 3 (B_ #[121])).bind fun t150 => (if t150 = true then ((XI.word_Is.f kj12 1 (B_ #[112,101,111,112,108,101])).bind fun t151 => (some (!t151))) else (some false))) else (some false)) else (some false)) else (some false)) else (some false)) else (some false)) else (some false)) else (some false)))) else (some false)) else (some false)) else (some false)) else (some false)) else (some false))) = some r := H; have A25 := am A250; clear A250; obtain ⟨y145, hy145⟩ : ∃ y_ : List ByteArray, y_ = (([(B_ #[109,105,108]), (B_ #[99,105,101,110])] : List ByteArray)) := ⟨_, rfl⟩; replace H : ((XA.word_Number.f kj12 3 y145).bind fun bt148 => (if x1_0 = true then (if x2_12 = true then (if t128 = 200 then (if t129 = 2 then (if t130 = true then (if t133 = true then (some false) else (if t136 = true then (some false) else (if t138 = 0 then (if t137.toList = ([109, 97, 101, 114, 122] : List UInt8) then (if t140 = 0 then (if t139 = 6 then (if t142 = 110 then (if bt148.2 = 0 then (if bt148.1 = 1100 then ((XI.word_Is.f kj12 3 (B_ #[121])).bind fun t150 => (if t150 = true then ((XI.word_Is.f kj12 1 (B_ #[112,101,111,112,108,101])).bind fun t151 => (some (!t151))) else (some false))) else (some false)) else (some false)) else (some false)) else (some false)) else (some false)) else (some false)) else (some false)))) else (some false)) else (some false)) else (some false)) else (some false)) else (some false))) = some r := by first | (rw [hy145]; with_reducible exact H) | (have H2_ := (Option.bind_some _ _).symm.trans H; rw [hy145]; with_reducible exact H2_) | (have H2_ := (Option.bind_some _ _).symm.trans H; with_reducible exact H2_) | with_reducible exact H | (rw [hy145]; exact H) | exact H
   have Ny145 := am hy145; clear hy145; replace H := bm H; obtain ⟨⟨t148, t149⟩, A260, H⟩ := H; replace H : (if x1_0 = true then (if x2_12 = true then (if t128 = 200 then (if t129 = 2 then (if t130 = true then (if t133 = true then (some false) else (if t136 = true then (some false) else (if t138 = 0 then (if t137.toList = ([109, 97, 101, 114, 122] : List UInt8) then (if t140 = 0 then (if t139 = 6 then (if t142 = 110 then (if t149 = 0 then (if t148 = 1100 then ((XI.word_Is.f kj12 3 (B_ #[121])).bind fun t150 => (if t150 = true then ((XI.word_Is.f kj12 1 (B_ #[112,101,111,112,108,101])).bind fun t151 => (some (!t151))) else (some false))) else (some false)) else (some false)) else (some false)) else (some false)) else (some false)) else (some false)) else (some false)))) else (some false)) else (some false)) else (some false)) else (some false)) else (some false)) = some r := H; have A26 := am A260; clear A260
   by_cases c27 : x1_0 = true
   case' neg =>
    replace c27 := Bool.eq_false_iff.mpr c27
    subst c27; replace H := inn H
    obtain rfl := Option.some.inj H
   rotate_left
   subst c27; replace H := ip H
   by_cases c28 : x2_12 = true
   case' neg =>
    replace c28 := Bool.eq_false_iff.mpr c28
    subst c28; replace H := inn H
    obtain rfl := Option.some.inj H
   rotate_left
   subst c28; replace H := ip H
   by_cases c29 : t128 = 200
   case' neg =>
    rw [if_neg c29] at H
    have c29b0 := bF c29
    have c29b1 := nT c29; obtain rfl := Option.some.inj H
   rotate_left
   rw [if_pos c29] at H
   have c29b0 := bT c29
   have c29b1 := nF c29; clear c29
   by_cases c30 : t129 = 2
   case' neg =>
    rw [if_neg c30] at H
    have c30b0 := bF c30
    have c30b1 := nT c30; obtain rfl := Option.some.inj H
   rotate_left
   rw [if_pos c30] at H
   have c30b0 := bT c30
   have c30b1 := nF c30; clear c30
   by_cases c31 : t130 = true
   case neg =>
    replace c31 := Bool.eq_false_iff.mpr c31
    subst c31; replace H := inn H
    obtain rfl := Option.some.inj H
    go_wp2_with (first | ((with_reducible refine gate_dst (N := 42) rfl ?_); refine Kd.R_lit Kd.string _ 9 ?hg (N := 42) ?hd (xs := ([(B_ #[116,119,111]), (B_ #[104,117,110,100,114,101,100]), (B_ #[112,101,111,112,108,101])] : List ByteArray)) (inner := [.string (B_ #[116,119,111]), .string (B_ #[104,117,110,100,114,101,100]), .string (B_ #[112,101,111,112,108,101])]) (ok := fun _ => True) (okp := fun _ => True) ?hr ?hp (fun _ hk => hk) trivial (Below.refl _ _) (Nat.le_refl _) (by simp) ?_; (case hd => rfl); (case hg => rfl); (case hr => first | (go_simp; done) | (go_simp; rfl)); (case hp => exact (Reps.one (show Kd.M Kd.string _ _ _ (B_ #[116,119,111]) [.string (B_ #[116,119,111])] from rfl) (Reps.one (show Kd.M Kd.string _ _ _ (B_ #[104,117,110,100,114,101,100]) [.string (B_ #[104,117,110,100,114,101,100])] from rfl) (Reps.one (show Kd.M Kd.string _ _ _ (B_ #[112,101,111,112,108,101]) [.string (B_ #[112,101,111,112,108,101])] from rfl) (Reps.none _ _))))); intro v126 w190 ho191 hb hg_ hnew_; clear hg_ hnew_; (first | rw [← Ny125.out] at ho191 | (simp only [Int.reduceToNat] at ho191; rw [← Ny125.out] at ho191)); have HO127 := am (Kd.R_lower ho191 (below_size (bes HB.out))); replace HB := bsp HB hb; clear hb ho191; obtain ⟨Ao192, co192, eo192⟩ := Kd.R_slice HO127.out; subst eo192) | ((with_reducible refine gate_callee (f := 16) rfl ?_); refine gL (some 45) rfl rfl Tryd.func16 #[.int .i64 1, .slice Ao192 y125.length co192, .int .i64 0] ?_; (with_reducible refine (XA.word_Prefix.calls kj12 1 _ _ y125 0 t128 t129 false _ ?_ ?_ ?_ A20.out).mono ?_); exact C_st ((Kd.R_reads' HO127.out).2.2); exact (Kd.R_reads' HO127.out).2.1; exact LW.below HLW.out (bes HB.out); rintro e w193 ⟨rfl, hb⟩; refine ⟨_, rfl, ?_⟩; replace HO127 := rb HO127 hb; replace HB := bsp HB hb; (try clear hb)) | ((with_reducible refine gate_callee (f := 16) rfl ?_); refine gL (some 51) rfl rfl Tryd.func16 #[.int .i64 1, .slice Ao192 y125.length co192, .int .i64 1] ?_; (with_reducible refine (XA.word_Prefix.calls kj12 1 _ _ y125 1 t131 t132 t133 _ ?_ ?_ ?_ A21.out).mono ?_); exact C_st ((Kd.R_reads' HO127.out).2.2); exact (Kd.R_reads' HO127.out).2.1; exact LW.below HLW.out (bes HB.out); rintro e w194 ⟨rfl, hb⟩; refine ⟨_, rfl, ?_⟩; replace HO127 := rb HO127 hb; replace HB := bsp HB hb; (try clear hb)) | ((with_reducible refine gate_callee (f := 16) rfl ?_); refine gL (some 57) rfl rfl Tryd.func16 #[.int .i64 1, .slice Ao192 y125.length co192, .int .i64 2] ?_; (with_reducible refine (XA.word_Prefix.calls kj12 1 _ _ y125 2 t134 t135 t136 _ ?_ ?_ ?_ A22.out).mono ?_); exact C_st ((Kd.R_reads' HO127.out).2.2); exact (Kd.R_reads' HO127.out).2.1; exact LW.below HLW.out (bes HB.out); rintro e w195 ⟨rfl, hb⟩; refine ⟨_, rfl, ?_⟩; replace HO127 := rb HO127 hb; replace HB := bsp HB hb; (try clear hb)) | ((with_reducible refine gate_callee (f := 22) rfl ?_); refine gL (some 62) rfl rfl Tryd.func22 #[.int .i64 2, .int .i64 3] ?_; (refine (XA.word_Month.calls kj12 2 3 t137 t138 _ A23.out).mono ?_); rintro e w196 ⟨rfl, hb⟩; refine ⟨_, rfl, ?_⟩; replace HO127 := rb HO127 hb; replace HB := bsp HB hb; (try clear hb)) | ((with_reducible refine gate_callee (f := 28) rfl ?_); refine gL (some 66) rfl rfl Tryd.func28 #[.int .i64 3, .string (B_ #[100,111,109,105,110,103,111])] ?_; (refine (XA.word_WeekdayOf.calls kj12 3 (B_ #[100,111,109,105,110,103,111]) t139 t140 _ A24.out).mono ?_); rintro e w197 ⟨rfl, hb⟩; refine ⟨_, rfl, ?_⟩; replace HO127 := rb HO127 hb; replace HB := bsp HB hb; (try clear hb)) | ((with_reducible refine gate_callee (f := 18) rfl ?_); refine gL (some 70) rfl rfl Tryd.func18 #[.int .i64 4, .int .i64 0] ?_; (refine (XA.word_Words.calls kj12 4 0 t141 t142 _ ?_ A25.out).mono ?_); exact LW.below HLW.out (bes HB.out); rintro e w198 ⟨v143, rfl, ho0, hb⟩; refine ⟨_, rfl, ?_⟩; have HO144 := am (Kd.R_lower (Kd.R_new' ho0 (Kd.R_lt (R_st HO127.out))) (below_size (bes HB.out))); replace HO127 := am (Kd.R_elder' (R_st HO127.out) (Kd.R_base ho0) hb); replace HB := bsp HB hb; (try clear hb); (try clear ho0)) | ((with_reducible refine gate_dst (N := 74) rfl ?_); refine Kd.R_lit Kd.string _ 9 ?hg (N := 74) ?hd (xs := ([(B_ #[109,105,108]), (B_ #[99,105,101,110])] : List ByteArray)) (inner := [.string (B_ #[109,105,108]), .string (B_ #[99,105,101,110])]) (ok := fun _ => True) (okp := fun _ => True) ?hr ?hp (fun _ hk => hk) trivial (Below.refl _ _) (Nat.le_refl _) (by simp) ?_; (case hd => rfl); (case hg => rfl); (case hr => first | (go_simp; done) | (go_simp; rfl)); (case hp => exact (Reps.one (show Kd.M Kd.string _ _ _ (B_ #[109,105,108]) [.string (B_ #[109,105,108])] from rfl) (Reps.one (show Kd.M Kd.string _ _ _ (B_ #[99,105,101,110]) [.string (B_ #[99,105,101,110])] from rfl) (Reps.none _ _)))); intro v146 w199 ho200 hb hg_ hnew_; clear hg_ hnew_; (first | rw [← Ny145.out] at ho200 | (simp only [Int.reduceToNat] at ho200; rw [← Ny145.out] at ho200)); have HO147 := am (Kd.R_lower (Kd.R_new' (Kd.R_new' ho200 (Kd.R_lt (R_st HO127.out))) (Kd.R_lt (R_st HO144.out))) (below_size (bes HB.out))); replace HO127 := am (Kd.R_elder' (R_st HO127.out) (Kd.R_base ho200) hb); replace HO144 := am (Kd.R_elder' (R_st HO144.out) (Kd.R_base ho200) hb); replace HB := bsp HB hb; clear hb ho200; obtain ⟨Ao201, co201, eo201⟩ := Kd.R_slice HO147.out; subst eo201) | ((with_reducible refine gate_callee (f := 14) rfl ?_); refine gL (some 75) rfl rfl Tryd.func14 #[.int .i64 3, .slice Ao201 y145.length co201] ?_; (refine (XA.word_Number.calls kj12 3 _ _ y145 t148 t149 _ ?_ ?_ ?_ A26.out).mono ?_); exact C_st ((Kd.R_reads' HO147.out).2.2); exact (Kd.R_reads' HO147.out).2.1; exact LW.below HLW.out (bes HB.out); rintro e w202 ⟨rfl, hb⟩; refine ⟨_, rfl, ?_⟩; replace HO127 := rb HO127 hb; replace HO144 := rb HO144 hb; replace HO147 := rb HO147 hb; replace HB := bsp HB hb; (try clear hb)))
    go_ret
    exact ⟨er, by exact bes HB.out⟩
   subst c31; replace H := ip H
   by_cases c32 : t133 = true
   ·subst c32
    replace H := ip H
    obtain rfl := Option.some.inj H
    go_wp2_with (first | ((with_reducible refine gate_dst (N := 42) rfl ?_); refine Kd.R_lit Kd.string _ 9 ?hg (N := 42) ?hd (xs := ([(B_ #[116,119,111]), (B_ #[104,117,110,100,114,101,100]), (B_ #[112,101,111,112,108,101])] : List ByteArray)) (inner := [.string (B_ #[116,119,111]), .string (B_ #[104,117,110,100,114,101,100]), .string (B_ #[112,101,111,112,108,101])]) (ok := fun _ => True) (okp := fun _ => True) ?hr ?hp (fun _ hk => hk) trivial (Below.refl _ _) (Nat.le_refl _) (by simp) ?_; (case hd => rfl); (case hg => rfl); (case hr => first | (go_simp; done) | (go_simp; rfl)); (case hp => exact (Reps.one (show Kd.M Kd.string _ _ _ (B_ #[116,119,111]) [.string (B_ #[116,119,111])] from rfl) (Reps.one (show Kd.M Kd.string _ _ _ (B_ #[104,117,110,100,114,101,100]) [.string (B_ #[104,117,110,100,114,101,100])] from rfl) (Reps.one (show Kd.M Kd.string _ _ _ (B_ #[112,101,111,112,108,101]) [.string (B_ #[112,101,111,112,108,101])] from rfl) (Reps.none _ _))))); intro v126 w33 ho34 hb hg_ hnew_; clear hg_ hnew_; (first | rw [← Ny125.out] at ho34 | (simp only [Int.reduceToNat] at ho34; rw [← Ny125.out] at ho34)); have HO127 := am (Kd.R_lower ho34 (below_size (bes HB.out))); replace HB := bsp HB hb; clear hb ho34; obtain ⟨Ao35, co35, eo35⟩ := Kd.R_slice HO127.out; subst eo35) | ((with_reducible refine gate_callee (f := 16) rfl ?_); refine gL (some 45) rfl rfl Tryd.func16 #[.int .i64 1, .slice Ao35 y125.length co35, .int .i64 0] ?_; (with_reducible refine (XA.word_Prefix.calls kj12 1 _ _ y125 0 t128 t129 true _ ?_ ?_ ?_ A20.out).mono ?_); exact C_st ((Kd.R_reads' HO127.out).2.2); exact (Kd.R_reads' HO127.out).2.1; exact LW.below HLW.out (bes HB.out); rintro e w36 ⟨rfl, hb⟩; refine ⟨_, rfl, ?_⟩; replace HO127 := rb HO127 hb; replace HB := bsp HB hb; (try clear hb)) | ((with_reducible refine gate_callee (f := 16) rfl ?_); refine gL (some 51) rfl rfl Tryd.func16 #[.int .i64 1, .slice Ao35 y125.length co35, .int .i64 1] ?_; (with_reducible refine (XA.word_Prefix.calls kj12 1 _ _ y125 1 t131 t132 true _ ?_ ?_ ?_ A21.out).mono ?_); exact C_st ((Kd.R_reads' HO127.out).2.2); exact (Kd.R_reads' HO127.out).2.1; exact LW.below HLW.out (bes HB.out); rintro e w37 ⟨rfl, hb⟩; refine ⟨_, rfl, ?_⟩; replace HO127 := rb HO127 hb; replace HB := bsp HB hb; (try clear hb)) | ((with_reducible refine gate_callee (f := 16) rfl ?_); refine gL (some 57) rfl rfl Tryd.func16 #[.int .i64 1, .slice Ao35 y125.length co35, .int .i64 2] ?_; (with_reducible refine (XA.word_Prefix.calls kj12 1 _ _ y125 2 t134 t135 t136 _ ?_ ?_ ?_ A22.out).mono ?_); exact C_st ((Kd.R_reads' HO127.out).2.2); exact (Kd.R_reads' HO127.out).2.1; exact LW.below HLW.out (bes HB.out); rintro e w38 ⟨rfl, hb⟩; refine ⟨_, rfl, ?_⟩; replace HO127 := rb HO127 hb; replace HB := bsp HB hb; (try clear hb)) | ((with_reducible refine gate_callee (f := 22) rfl ?_); refine gL (some 62) rfl rfl Tryd.func22 #[.int .i64 2, .int .i64 3] ?_; (refine (XA.word_Month.calls kj12 2 3 t137 t138 _ A23.out).mono ?_); rintro e w39 ⟨rfl, hb⟩; refine ⟨_, rfl, ?_⟩; replace HO127 := rb HO127 hb; replace HB := bsp HB hb; (try clear hb)) | ((with_reducible refine gate_callee (f := 28) rfl ?_); refine gL (some 66) rfl rfl Tryd.func28 #[.int .i64 3, .string (B_ #[100,111,109,105,110,103,111])] ?_; (refine (XA.word_WeekdayOf.calls kj12 3 (B_ #[100,111,109,105,110,103,111]) t139 t140 _ A24.out).mono ?_); rintro e w40 ⟨rfl, hb⟩; refine ⟨_, rfl, ?_⟩; replace HO127 := rb HO127 hb; replace HB := bsp HB hb; (try clear hb)) | ((with_reducible refine gate_callee (f := 18) rfl ?_); refine gL (some 70) rfl rfl Tryd.func18 #[.int .i64 4, .int .i64 0] ?_; (refine (XA.word_Words.calls kj12 4 0 t141 t142 _ ?_ A25.out).mono ?_); exact LW.below HLW.out (bes HB.out); rintro e w41 ⟨v143, rfl, ho0, hb⟩; refine ⟨_, rfl, ?_⟩; have HO144 := am (Kd.R_lower (Kd.R_new' ho0 (Kd.R_lt (R_st HO127.out))) (below_size (bes HB.out))); replace HO127 := am (Kd.R_elder' (R_st HO127.out) (Kd.R_base ho0) hb); replace HB := bsp HB hb; (try clear hb); (try clear ho0)) | ((with_reducible refine gate_dst (N := 74) rfl ?_); refine Kd.R_lit Kd.string _ 9 ?hg (N := 74) ?hd (xs := ([(B_ #[109,105,108]), (B_ #[99,105,101,110])] : List ByteArray)) (inner := [.string (B_ #[109,105,108]), .string (B_ #[99,105,101,110])]) (ok := fun _ => True) (okp := fun _ => True) ?hr ?hp (fun _ hk => hk) trivial (Below.refl _ _) (Nat.le_refl _) (by simp) ?_; (case hd => rfl); (case hg => rfl); (case hr => first | (go_simp; done) | (go_simp; rfl)); (case hp => exact (Reps.one (show Kd.M Kd.string _ _ _ (B_ #[109,105,108]) [.string (B_ #[109,105,108])] from rfl) (Reps.one (show Kd.M Kd.string _ _ _ (B_ #[99,105,101,110]) [.string (B_ #[99,105,101,110])] from rfl) (Reps.none _ _)))); intro v146 w42 ho43 hb hg_ hnew_; clear hg_ hnew_; (first | rw [← Ny145.out] at ho43 | (simp only [Int.reduceToNat] at ho43; rw [← Ny145.out] at ho43)); have HO147 := am (Kd.R_lower (Kd.R_new' (Kd.R_new' ho43 (Kd.R_lt (R_st HO127.out))) (Kd.R_lt (R_st HO144.out))) (below_size (bes HB.out))); replace HO127 := am (Kd.R_elder' (R_st HO127.out) (Kd.R_base ho43) hb); replace HO144 := am (Kd.R_elder' (R_st HO144.out) (Kd.R_base ho43) hb); replace HB := bsp HB hb; clear hb ho43; obtain ⟨Ao44, co44, eo44⟩ := Kd.R_slice HO147.out; subst eo44) | ((with_reducible refine gate_callee (f := 14) rfl ?_); refine gL (some 75) rfl rfl Tryd.func14 #[.int .i64 3, .slice Ao44 y145.length co44] ?_; (refine (XA.word_Number.calls kj12 3 _ _ y145 t148 t149 _ ?_ ?_ ?_ A26.out).mono ?_); exact C_st ((Kd.R_reads' HO147.out).2.2); exact (Kd.R_reads' HO147.out).2.1; exact LW.below HLW.out (bes HB.out); rintro e w45 ⟨rfl, hb⟩; refine ⟨_, rfl, ?_⟩; replace HO127 := rb HO127 hb; replace HO144 := rb HO144 hb; replace HO147 := rb HO147 hb; replace HB := bsp HB hb; (try clear hb)))
    go_ret
    exact ⟨er, by exact bes HB.out⟩
   replace c32 := Bool.eq_false_iff.mpr c32; subst c32; replace H := inn H
   by_cases c46 : t136 = true
   ·subst c46
    replace H := ip H
    obtain rfl := Option.some.inj H
    go_wp2_with (first | ((with_reducible refine gate_dst (N := 42) rfl ?_); refine Kd.R_lit Kd.string _ 9 ?hg (N := 42) ?hd (xs := ([(B_ #[116,119,111]), (B_ #[104,117,110,100,114,101,100]), (B_ #[112,101,111,112,108,101])] : List ByteArray)) (inner := [.string (B_ #[116,119,111]), .string (B_ #[104,117,110,100,114,101,100]), .string (B_ #[112,101,111,112,108,101])]) (ok := fun _ => True) (okp := fun _ => True) ?hr ?hp (fun _ hk => hk) trivial (Below.refl _ _) (Nat.le_refl _) (by simp) ?_; (case hd => rfl); (case hg => rfl); (case hr => first | (go_simp; done) | (go_simp; rfl)); (case hp => exact (Reps.one (show Kd.M Kd.string _ _ _ (B_ #[116,119,111]) [.string (B_ #[116,119,111])] from rfl) (Reps.one (show Kd.M Kd.string _ _ _ (B_ #[104,117,110,100,114,101,100]) [.string (B_ #[104,117,110,100,114,101,100])] from rfl) (Reps.one (show Kd.M Kd.string _ _ _ (B_ #[112,101,111,112,108,101]) [.string (B_ #[112,101,111,112,108,101])] from rfl) (Reps.none _ _))))); intro v126 w47 ho48 hb hg_ hnew_; clear hg_ hnew_; (first | rw [← Ny125.out] at ho48 | (simp only [Int.reduceToNat] at ho48; rw [← Ny125.out] at ho48)); have HO127 := am (Kd.R_lower ho48 (below_size (bes HB.out))); replace HB := bsp HB hb; clear hb ho48; obtain ⟨Ao49, co49, eo49⟩ := Kd.R_slice HO127.out; subst eo49) | ((with_reducible refine gate_callee (f := 16) rfl ?_); refine gL (some 45) rfl rfl Tryd.func16 #[.int .i64 1, .slice Ao49 y125.length co49, .int .i64 0] ?_; (with_reducible refine (XA.word_Prefix.calls kj12 1 _ _ y125 0 t128 t129 true _ ?_ ?_ ?_ A20.out).mono ?_); exact C_st ((Kd.R_reads' HO127.out).2.2); exact (Kd.R_reads' HO127.out).2.1; exact LW.below HLW.out (bes HB.out); rintro e w50 ⟨rfl, hb⟩; refine ⟨_, rfl, ?_⟩; replace HO127 := rb HO127 hb; replace HB := bsp HB hb; (try clear hb)) | ((with_reducible refine gate_callee (f := 16) rfl ?_); refine gL (some 51) rfl rfl Tryd.func16 #[.int .i64 1, .slice Ao49 y125.length co49, .int .i64 1] ?_; (with_reducible refine (XA.word_Prefix.calls kj12 1 _ _ y125 1 t131 t132 false _ ?_ ?_ ?_ A21.out).mono ?_); exact C_st ((Kd.R_reads' HO127.out).2.2); exact (Kd.R_reads' HO127.out).2.1; exact LW.below HLW.out (bes HB.out); rintro e w51 ⟨rfl, hb⟩; refine ⟨_, rfl, ?_⟩; replace HO127 := rb HO127 hb; replace HB := bsp HB hb; (try clear hb)) | ((with_reducible refine gate_callee (f := 16) rfl ?_); refine gL (some 57) rfl rfl Tryd.func16 #[.int .i64 1, .slice Ao49 y125.length co49, .int .i64 2] ?_; (with_reducible refine (XA.word_Prefix.calls kj12 1 _ _ y125 2 t134 t135 true _ ?_ ?_ ?_ A22.out).mono ?_); exact C_st ((Kd.R_reads' HO127.out).2.2); exact (Kd.R_reads' HO127.out).2.1; exact LW.below HLW.out (bes HB.out); rintro e w52 ⟨rfl, hb⟩; refine ⟨_, rfl, ?_⟩; replace HO127 := rb HO127 hb; replace HB := bsp HB hb; (try clear hb)) | ((with_reducible refine gate_callee (f := 22) rfl ?_); refine gL (some 62) rfl rfl Tryd.func22 #[.int .i64 2, .int .i64 3] ?_; (refine (XA.word_Month.calls kj12 2 3 t137 t138 _ A23.out).mono ?_); rintro e w53 ⟨rfl, hb⟩; refine ⟨_, rfl, ?_⟩; replace HO127 := rb HO127 hb; replace HB := bsp HB hb; (try clear hb)) | ((with_reducible refine gate_callee (f := 28) rfl ?_); refine gL (some 66) rfl rfl Tryd.func28 #[.int .i64 3, .string (B_ #[100,111,109,105,110,103,111])] ?_; (refine (XA.word_WeekdayOf.calls kj12 3 (B_ #[100,111,109,105,110,103,111]) t139 t140 _ A24.out).mono ?_); rintro e w54 ⟨rfl, hb⟩; refine ⟨_, rfl, ?_⟩; replace HO127 := rb HO127 hb; replace HB := bsp HB hb; (try clear hb)) | ((with_reducible refine gate_callee (f := 18) rfl ?_); refine gL (some 70) rfl rfl Tryd.func18 #[.int .i64 4, .int .i64 0] ?_; (refine (XA.word_Words.calls kj12 4 0 t141 t142 _ ?_ A25.out).mono ?_); exact LW.below HLW.out (bes HB.out); rintro e w55 ⟨v143, rfl, ho0, hb⟩; refine ⟨_, rfl, ?_⟩; have HO144 := am (Kd.R_lower (Kd.R_new' ho0 (Kd.R_lt (R_st HO127.out))) (below_size (bes HB.out))); replace HO127 := am (Kd.R_elder' (R_st HO127.out) (Kd.R_base ho0) hb); replace HB := bsp HB hb; (try clear hb); (try clear ho0)) | ((with_reducible refine gate_dst (N := 74) rfl ?_); refine Kd.R_lit Kd.string _ 9 ?hg (N := 74) ?hd (xs := ([(B_ #[109,105,108]), (B_ #[99,105,101,110])] : List ByteArray)) (inner := [.string (B_ #[109,105,108]), .string (B_ #[99,105,101,110])]) (ok := fun _ => True) (okp := fun _ => True) ?hr ?hp (fun _ hk => hk) trivial (Below.refl _ _) (Nat.le_refl _) (by simp) ?_; (case hd => rfl); (case hg => rfl); (case hr => first | (go_simp; done) | (go_simp; rfl)); (case hp => exact (Reps.one (show Kd.M Kd.string _ _ _ (B_ #[109,105,108]) [.string (B_ #[109,105,108])] from rfl) (Reps.one (show Kd.M Kd.string _ _ _ (B_ #[99,105,101,110]) [.string (B_ #[99,105,101,110])] from rfl) (Reps.none _ _)))); intro v146 w56 ho57 hb hg_ hnew_; clear hg_ hnew_; (first | rw [← Ny145.out] at ho57 | (simp only [Int.reduceToNat] at ho57; rw [← Ny145.out] at ho57)); have HO147 := am (Kd.R_lower (Kd.R_new' (Kd.R_new' ho57 (Kd.R_lt (R_st HO127.out))) (Kd.R_lt (R_st HO144.out))) (below_size (bes HB.out))); replace HO127 := am (Kd.R_elder' (R_st HO127.out) (Kd.R_base ho57) hb); replace HO144 := am (Kd.R_elder' (R_st HO144.out) (Kd.R_base ho57) hb); replace HB := bsp HB hb; clear hb ho57; obtain ⟨Ao58, co58, eo58⟩ := Kd.R_slice HO147.out; subst eo58) | ((with_reducible refine gate_callee (f := 14) rfl ?_); refine gL (some 75) rfl rfl Tryd.func14 #[.int .i64 3, .slice Ao58 y145.length co58] ?_; (refine (XA.word_Number.calls kj12 3 _ _ y145 t148 t149 _ ?_ ?_ ?_ A26.out).mono ?_); exact C_st ((Kd.R_reads' HO147.out).2.2); exact (Kd.R_reads' HO147.out).2.1; exact LW.below HLW.out (bes HB.out); rintro e w59 ⟨rfl, hb⟩; refine ⟨_, rfl, ?_⟩; replace HO127 := rb HO127 hb; replace HO144 := rb HO144 hb; replace HO147 := rb HO147 hb; replace HB := bsp HB hb; (try clear hb)))
    go_ret
    exact ⟨er, by exact bes HB.out⟩
   replace c46 := Bool.eq_false_iff.mpr c46; subst c46; replace H := inn H
   by_cases c60 : t138 = 0
   case' neg =>
    rw [if_neg c60] at H
    have c60b0 := bF c60
    have c60b1 := nT c60; obtain rfl := Option.some.inj H
   rotate_left
   rw [if_pos c60] at H
   have c60b0 := bT c60
   have c60b1 := nF c60; clear c60
   by_cases c61 : t137.toList = ([109, 97, 101, 114, 122] : List UInt8)
   case' neg =>
    rw [if_neg c61] at H
    have c61b0 := bF c61
    have c61b1 := nT c61; obtain rfl := Option.some.inj H
   rotate_left
   rw [if_pos c61] at H
   have c61b0 := bT c61
   have c61b1 := nF c61; clear c61
   by_cases c62 : t140 = 0
   case' neg =>
    rw [if_neg c62] at H
    have c62b0 := bF c62
    have c62b1 := nT c62; obtain rfl := Option.some.inj H
   rotate_left
   rw [if_pos c62] at H
   have c62b0 := bT c62
   have c62b1 := nF c62; clear c62
   by_cases c63 : t139 = 6
   case' neg =>
    rw [if_neg c63] at H
    have c63b0 := bF c63
    have c63b1 := nT c63; obtain rfl := Option.some.inj H
   rotate_left
   rw [if_pos c63] at H
   have c63b0 := bT c63
   have c63b1 := nF c63; clear c63
   by_cases c64 : t142 = 110
   case' neg =>
    rw [if_neg c64] at H
    have c64b0 := bF c64
    have c64b1 := nT c64; obtain rfl := Option.some.inj H
   rotate_left
   rw [if_pos c64] at H
   have c64b0 := bT c64
   have c64b1 := nF c64; clear c64
   by_cases c65 : t149 = 0
   case' neg =>
    rw [if_neg c65] at H
    have c65b0 := bF c65
    have c65b1 := nT c65; obtain rfl := Option.some.inj H
   rotate_left
   rw [if_pos c65] at H
   have c65b0 := bT c65
   have c65b1 := nF c65; clear c65
   by_cases c66 : t148 = 1100
   case' neg =>
    rw [if_neg c66] at H
    have c66b0 := bF c66
    have c66b1 := nT c66; obtain rfl := Option.some.inj H
   rotate_left
   rw [if_pos c66] at H
   have c66b0 := bT c66
   have c66b1 := nF c66; clear c66; replace H := bm H; obtain ⟨t150, A67, H⟩ := H; replace A67 := am A67
   by_cases c68 : t150 = true
   ·subst c68
    replace H := ip H
    replace H := bm H; obtain ⟨t151, A69, H⟩ := H; replace H : (some (!t151)) = some r := H; replace A69 := am A69; obtain rfl := Option.some.inj H
    go_wp2_with (first | ((with_reducible refine gate_dst (N := 42) rfl ?_); refine Kd.R_lit Kd.string _ 9 ?hg (N := 42) ?hd (xs := ([(B_ #[116,119,111]), (B_ #[104,117,110,100,114,101,100]), (B_ #[112,101,111,112,108,101])] : List ByteArray)) (inner := [.string (B_ #[116,119,111]), .string (B_ #[104,117,110,100,114,101,100]), .string (B_ #[112,101,111,112,108,101])]) (ok := fun _ => True) (okp := fun _ => True) ?hr ?hp (fun _ hk => hk) trivial (Below.refl _ _) (Nat.le_refl _) (by simp) ?_; (case hd => rfl); (case hg => rfl); (case hr => first | (go_simp; done) | (go_simp; rfl)); (case hp => exact (Reps.one (show Kd.M Kd.string _ _ _ (B_ #[116,119,111]) [.string (B_ #[116,119,111])] from rfl) (Reps.one (show Kd.M Kd.string _ _ _ (B_ #[104,117,110,100,114,101,100]) [.string (B_ #[104,117,110,100,114,101,100])] from rfl) (Reps.one (show Kd.M Kd.string _ _ _ (B_ #[112,101,111,112,108,101]) [.string (B_ #[112,101,111,112,108,101])] from rfl) (Reps.none _ _))))); intro v126 w70 ho71 hb hg_ hnew_; clear hg_ hnew_; (first | rw [← Ny125.out] at ho71 | (simp only [Int.reduceToNat] at ho71; rw [← Ny125.out] at ho71)); have HO127 := am (Kd.R_lower ho71 (below_size (bes HB.out))); replace HB := bsp HB hb; clear hb ho71; obtain ⟨Ao72, co72, eo72⟩ := Kd.R_slice HO127.out; subst eo72) | ((with_reducible refine gate_callee (f := 16) rfl ?_); refine gL (some 45) rfl rfl Tryd.func16 #[.int .i64 1, .slice Ao72 y125.length co72, .int .i64 0] ?_; (with_reducible refine (XA.word_Prefix.calls kj12 1 _ _ y125 0 t128 t129 true _ ?_ ?_ ?_ A20.out).mono ?_); exact C_st ((Kd.R_reads' HO127.out).2.2); exact (Kd.R_reads' HO127.out).2.1; exact LW.below HLW.out (bes HB.out); rintro e w73 ⟨rfl, hb⟩; refine ⟨_, rfl, ?_⟩; replace HO127 := rb HO127 hb; replace HB := bsp HB hb; (try clear hb)) | ((with_reducible refine gate_callee (f := 16) rfl ?_); refine gL (some 51) rfl rfl Tryd.func16 #[.int .i64 1, .slice Ao72 y125.length co72, .int .i64 1] ?_; (with_reducible refine (XA.word_Prefix.calls kj12 1 _ _ y125 1 t131 t132 false _ ?_ ?_ ?_ A21.out).mono ?_); exact C_st ((Kd.R_reads' HO127.out).2.2); exact (Kd.R_reads' HO127.out).2.1; exact LW.below HLW.out (bes HB.out); rintro e w74 ⟨rfl, hb⟩; refine ⟨_, rfl, ?_⟩; replace HO127 := rb HO127 hb; replace HB := bsp HB hb; (try clear hb)) | ((with_reducible refine gate_callee (f := 16) rfl ?_); refine gL (some 57) rfl rfl Tryd.func16 #[.int .i64 1, .slice Ao72 y125.length co72, .int .i64 2] ?_; (with_reducible refine (XA.word_Prefix.calls kj12 1 _ _ y125 2 t134 t135 false _ ?_ ?_ ?_ A22.out).mono ?_); exact C_st ((Kd.R_reads' HO127.out).2.2); exact (Kd.R_reads' HO127.out).2.1; exact LW.below HLW.out (bes HB.out); rintro e w75 ⟨rfl, hb⟩; refine ⟨_, rfl, ?_⟩; replace HO127 := rb HO127 hb; replace HB := bsp HB hb; (try clear hb)) | ((with_reducible refine gate_callee (f := 22) rfl ?_); refine gL (some 62) rfl rfl Tryd.func22 #[.int .i64 2, .int .i64 3] ?_; (refine (XA.word_Month.calls kj12 2 3 t137 t138 _ A23.out).mono ?_); rintro e w76 ⟨rfl, hb⟩; refine ⟨_, rfl, ?_⟩; replace HO127 := rb HO127 hb; replace HB := bsp HB hb; (try clear hb)) | ((with_reducible refine gate_callee (f := 28) rfl ?_); refine gL (some 66) rfl rfl Tryd.func28 #[.int .i64 3, .string (B_ #[100,111,109,105,110,103,111])] ?_; (refine (XA.word_WeekdayOf.calls kj12 3 (B_ #[100,111,109,105,110,103,111]) t139 t140 _ A24.out).mono ?_); rintro e w77 ⟨rfl, hb⟩; refine ⟨_, rfl, ?_⟩; replace HO127 := rb HO127 hb; replace HB := bsp HB hb; (try clear hb)) | ((with_reducible refine gate_callee (f := 18) rfl ?_); refine gL (some 70) rfl rfl Tryd.func18 #[.int .i64 4, .int .i64 0] ?_; (refine (XA.word_Words.calls kj12 4 0 t141 t142 _ ?_ A25.out).mono ?_); exact LW.below HLW.out (bes HB.out); rintro e w78 ⟨v143, rfl, ho0, hb⟩; refine ⟨_, rfl, ?_⟩; have HO144 := am (Kd.R_lower (Kd.R_new' ho0 (Kd.R_lt (R_st HO127.out))) (below_size (bes HB.out))); replace HO127 := am (Kd.R_elder' (R_st HO127.out) (Kd.R_base ho0) hb); replace HB := bsp HB hb; (try clear hb); (try clear ho0)) | ((with_reducible refine gate_dst (N := 74) rfl ?_); refine Kd.R_lit Kd.string _ 9 ?hg (N := 74) ?hd (xs := ([(B_ #[109,105,108]), (B_ #[99,105,101,110])] : List ByteArray)) (inner := [.string (B_ #[109,105,108]), .string (B_ #[99,105,101,110])]) (ok := fun _ => True) (okp := fun _ => True) ?hr ?hp (fun _ hk => hk) trivial (Below.refl _ _) (Nat.le_refl _) (by simp) ?_; (case hd => rfl); (case hg => rfl); (case hr => first | (go_simp; done) | (go_simp; rfl)); (case hp => exact (Reps.one (show Kd.M Kd.string _ _ _ (B_ #[109,105,108]) [.string (B_ #[109,105,108])] from rfl) (Reps.one (show Kd.M Kd.string _ _ _ (B_ #[99,105,101,110]) [.string (B_ #[99,105,101,110])] from rfl) (Reps.none _ _)))); intro v146 w79 ho80 hb hg_ hnew_; clear hg_ hnew_; (first | rw [← Ny145.out] at ho80 | (simp only [Int.reduceToNat] at ho80; rw [← Ny145.out] at ho80)); have HO147 := am (Kd.R_lower (Kd.R_new' (Kd.R_new' ho80 (Kd.R_lt (R_st HO127.out))) (Kd.R_lt (R_st HO144.out))) (below_size (bes HB.out))); replace HO127 := am (Kd.R_elder' (R_st HO127.out) (Kd.R_base ho80) hb); replace HO144 := am (Kd.R_elder' (R_st HO144.out) (Kd.R_base ho80) hb); replace HB := bsp HB hb; clear hb ho80; obtain ⟨Ao81, co81, eo81⟩ := Kd.R_slice HO147.out; subst eo81) | ((with_reducible refine gate_callee (f := 14) rfl ?_); refine gL (some 75) rfl rfl Tryd.func14 #[.int .i64 3, .slice Ao81 y145.length co81] ?_; (refine (XA.word_Number.calls kj12 3 _ _ y145 t148 t149 _ ?_ ?_ ?_ A26.out).mono ?_); exact C_st ((Kd.R_reads' HO147.out).2.2); exact (Kd.R_reads' HO147.out).2.1; exact LW.below HLW.out (bes HB.out); rintro e w82 ⟨rfl, hb⟩; refine ⟨_, rfl, ?_⟩; replace HO127 := rb HO127 hb; replace HO144 := rb HO144 hb; replace HO147 := rb HO147 hb; replace HB := bsp HB hb; (try clear hb)) | (go_at_call 20; (with_reducible refine (XI.word_Is.calls kj12 3 (B_ #[121]) true _ ?_ A67.out).mono ?_); exact LW.below HLW.out (bes HB.out); rintro e w83 ⟨rfl, hb⟩; replace HO127 := rb HO127 hb; replace HO144 := rb HO144 hb; replace HO147 := rb HO147 hb; replace HB := bsp HB hb; (try clear hb)) | (go_at_call 20; (with_reducible refine (XI.word_Is.calls kj12 1 (B_ #[112,101,111,112,108,101]) t151 _ ?_ A69.out).mono ?_); exact LW.below HLW.out (bes HB.out); rintro e w84 ⟨rfl, hb⟩; replace HO127 := rb HO127 hb; replace HO144 := rb HO144 hb; replace HO147 := rb HO147 hb; replace HB := bsp HB hb; (try clear hb)))
    go_ret
    exact ⟨er, by exact bes HB.out⟩
   replace c68 := Bool.eq_false_iff.mpr c68; subst c68; replace H := inn H
   obtain rfl := Option.some.inj H
   ·go_wp2_with (first | ((with_reducible refine gate_dst (N := 42) rfl ?_); refine Kd.R_lit Kd.string _ 9 ?hg (N := 42) ?hd (xs := ([(B_ #[116,119,111]), (B_ #[104,117,110,100,114,101,100]), (B_ #[112,101,111,112,108,101])] : List ByteArray)) (inner := [.string (B_ #[116,119,111]), .string (B_ #[104,117,110,100,114,101,100]), .string (B_ #[112,101,111,112,108,101])]) (ok := fun _ => True) (okp := fun _ => True) ?hr ?hp (fun _ hk => hk) trivial (Below.refl _ _) (Nat.le_refl _) (by simp) ?_; (case hd => rfl); (case hg => rfl); (case hr => first | (go_simp; done) | (go_simp; rfl)); (case hp => exact (Reps.one (show Kd.M Kd.string _ _ _ (B_ #[116,119,111]) [.string (B_ #[116,119,111])] from rfl) (Reps.one (show Kd.M Kd.string _ _ _ (B_ #[104,117,110,100,114,101,100]) [.string (B_ #[104,117,110,100,114,101,100])] from rfl) (Reps.one (show Kd.M Kd.string _ _ _ (B_ #[112,101,111,112,108,101]) [.string (B_ #[112,101,111,112,108,101])] from rfl) (Reps.none _ _))))); intro v126 w85 ho86 hb hg_ hnew_; clear hg_ hnew_; (first | rw [← Ny125.out] at ho86 | (simp only [Int.reduceToNat] at ho86; rw [← Ny125.out] at ho86)); have HO127 := am (Kd.R_lower ho86 (below_size (bes HB.out))); replace HB := bsp HB hb; clear hb ho86; obtain ⟨Ao87, co87, eo87⟩ := Kd.R_slice HO127.out; subst eo87) | ((with_reducible refine gate_callee (f := 16) rfl ?_); refine gL (some 45) rfl rfl Tryd.func16 #[.int .i64 1, .slice Ao87 y125.length co87, .int .i64 0] ?_; (with_reducible refine (XA.word_Prefix.calls kj12 1 _ _ y125 0 t128 t129 true _ ?_ ?_ ?_ A20.out).mono ?_); exact C_st ((Kd.R_reads' HO127.out).2.2); exact (Kd.R_reads' HO127.out).2.1; exact LW.below HLW.out (bes HB.out); rintro e w88 ⟨rfl, hb⟩; refine ⟨_, rfl, ?_⟩; replace HO127 := rb HO127 hb; replace HB := bsp HB hb; (try clear hb)) | ((with_reducible refine gate_callee (f := 16) rfl ?_); refine gL (some 51) rfl rfl Tryd.func16 #[.int .i64 1, .slice Ao87 y125.length co87, .int .i64 1] ?_; (with_reducible refine (XA.word_Prefix.calls kj12 1 _ _ y125 1 t131 t132 false _ ?_ ?_ ?_ A21.out).mono ?_); exact C_st ((Kd.R_reads' HO127.out).2.2); exact (Kd.R_reads' HO127.out).2.1; exact LW.below HLW.out (bes HB.out); rintro e w89 ⟨rfl, hb⟩; refine ⟨_, rfl, ?_⟩; replace HO127 := rb HO127 hb; replace HB := bsp HB hb; (try clear hb)) | ((with_reducible refine gate_callee (f := 16) rfl ?_); refine gL (some 57) rfl rfl Tryd.func16 #[.int .i64 1, .slice Ao87 y125.length co87, .int .i64 2] ?_; (with_reducible refine (XA.word_Prefix.calls kj12 1 _ _ y125 2 t134 t135 false _ ?_ ?_ ?_ A22.out).mono ?_); exact C_st ((Kd.R_reads' HO127.out).2.2); exact (Kd.R_reads' HO127.out).2.1; exact LW.below HLW.out (bes HB.out); rintro e w90 ⟨rfl, hb⟩; refine ⟨_, rfl, ?_⟩; replace HO127 := rb HO127 hb; replace HB := bsp HB hb; (try clear hb)) | ((with_reducible refine gate_callee (f := 22) rfl ?_); refine gL (some 62) rfl rfl Tryd.func22 #[.int .i64 2, .int .i64 3] ?_; (refine (XA.word_Month.calls kj12 2 3 t137 t138 _ A23.out).mono ?_); rintro e w91 ⟨rfl, hb⟩; refine ⟨_, rfl, ?_⟩; replace HO127 := rb HO127 hb; replace HB := bsp HB hb; (try clear hb)) | ((with_reducible refine gate_callee (f := 28) rfl ?_); refine gL (some 66) rfl rfl Tryd.func28 #[.int .i64 3, .string (B_ #[100,111,109,105,110,103,111])] ?_; (refine (XA.word_WeekdayOf.calls kj12 3 (B_ #[100,111,109,105,110,103,111]) t139 t140 _ A24.out).mono ?_); rintro e w92 ⟨rfl, hb⟩; refine ⟨_, rfl, ?_⟩; replace HO127 := rb HO127 hb; replace HB := bsp HB hb; (try clear hb)) | ((with_reducible refine gate_callee (f := 18) rfl ?_); refine gL (some 70) rfl rfl Tryd.func18 #[.int .i64 4, .int .i64 0] ?_; (refine (XA.word_Words.calls kj12 4 0 t141 t142 _ ?_ A25.out).mono ?_); exact LW.below HLW.out (bes HB.out); rintro e w93 ⟨v143, rfl, ho0, hb⟩; refine ⟨_, rfl, ?_⟩; have HO144 := am (Kd.R_lower (Kd.R_new' ho0 (Kd.R_lt (R_st HO127.out))) (below_size (bes HB.out))); replace HO127 := am (Kd.R_elder' (R_st HO127.out) (Kd.R_base ho0) hb); replace HB := bsp HB hb; (try clear hb); (try clear ho0)) | ((with_reducible refine gate_dst (N := 74) rfl ?_); refine Kd.R_lit Kd.string _ 9 ?hg (N := 74) ?hd (xs := ([(B_ #[109,105,108]), (B_ #[99,105,101,110])] : List ByteArray)) (inner := [.string (B_ #[109,105,108]), .string (B_ #[99,105,101,110])]) (ok := fun _ => True) (okp := fun _ => True) ?hr ?hp (fun _ hk => hk) trivial (Below.refl _ _) (Nat.le_refl _) (by simp) ?_; (case hd => rfl); (case hg => rfl); (case hr => first | (go_simp; done) | (go_simp; rfl)); (case hp => exact (Reps.one (show Kd.M Kd.string _ _ _ (B_ #[109,105,108]) [.string (B_ #[109,105,108])] from rfl) (Reps.one (show Kd.M Kd.string _ _ _ (B_ #[99,105,101,110]) [.string (B_ #[99,105,101,110])] from rfl) (Reps.none _ _)))); intro v146 w94 ho95 hb hg_ hnew_; clear hg_ hnew_; (first | rw [← Ny145.out] at ho95 | (simp only [Int.reduceToNat] at ho95; rw [← Ny145.out] at ho95)); have HO147 := am (Kd.R_lower (Kd.R_new' (Kd.R_new' ho95 (Kd.R_lt (R_st HO127.out))) (Kd.R_lt (R_st HO144.out))) (below_size (bes HB.out))); replace HO127 := am (Kd.R_elder' (R_st HO127.out) (Kd.R_base ho95) hb); replace HO144 := am (Kd.R_elder' (R_st HO144.out) (Kd.R_base ho95) hb); replace HB := bsp HB hb; clear hb ho95; obtain ⟨Ao96, co96, eo96⟩ := Kd.R_slice HO147.out; subst eo96) | ((with_reducible refine gate_callee (f := 14) rfl ?_); refine gL (some 75) rfl rfl Tryd.func14 #[.int .i64 3, .slice Ao96 y145.length co96] ?_; (refine (XA.word_Number.calls kj12 3 _ _ y145 t148 t149 _ ?_ ?_ ?_ A26.out).mono ?_); exact C_st ((Kd.R_reads' HO147.out).2.2); exact (Kd.R_reads' HO147.out).2.1; exact LW.below HLW.out (bes HB.out); rintro e w97 ⟨rfl, hb⟩; refine ⟨_, rfl, ?_⟩; replace HO127 := rb HO127 hb; replace HO144 := rb HO144 hb; replace HO147 := rb HO147 hb; replace HB := bsp HB hb; (try clear hb)) | (go_at_call 20; (refine (XI.word_Is.calls kj12 3 (B_ #[121]) false _ ?_ A67.out).mono ?_); exact LW.below HLW.out (bes HB.out); rintro e w98 ⟨rfl, hb⟩; replace HO127 := rb HO127 hb; replace HO144 := rb HO144 hb; replace HO147 := rb HO147 hb; replace HB := bsp HB hb; (try clear hb)))
    go_ret
    exact ⟨er, by exact bes HB.out⟩
   all_goals first | (go_wp2_with (first | ((with_reducible refine gate_dst (N := 42) rfl ?_); refine Kd.R_lit Kd.string _ 9 ?hg (N := 42) ?hd (xs := ([(B_ #[116,119,111]), (B_ #[104,117,110,100,114,101,100]), (B_ #[112,101,111,112,108,101])] : List ByteArray)) (inner := [.string (B_ #[116,119,111]), .string (B_ #[104,117,110,100,114,101,100]), .string (B_ #[112,101,111,112,108,101])]) (ok := fun _ => True) (okp := fun _ => True) ?hr ?hp (fun _ hk => hk) trivial (Below.refl _ _) (Nat.le_refl _) (by simp) ?_; (case hd => rfl); (case hg => rfl); (case hr => first | (go_simp; done) | (go_simp; rfl)); (case hp => exact (Reps.one (show Kd.M Kd.string _ _ _ (B_ #[116,119,111]) [.string (B_ #[116,119,111])] from rfl) (Reps.one (show Kd.M Kd.string _ _ _ (B_ #[104,117,110,100,114,101,100]) [.string (B_ #[104,117,110,100,114,101,100])] from rfl) (Reps.one (show Kd.M Kd.string _ _ _ (B_ #[112,101,111,112,108,101]) [.string (B_ #[112,101,111,112,108,101])] from rfl) (Reps.none _ _))))); intro v126 w242 ho243 hb hg_ hnew_; clear hg_ hnew_; (first | rw [← Ny125.out] at ho243 | (simp only [Int.reduceToNat] at ho243; rw [← Ny125.out] at ho243)); have HO127 := am (Kd.R_lower ho243 (below_size (bes HB.out))); replace HB := bsp HB hb; clear hb ho243; obtain ⟨Ao244, co244, eo244⟩ := Kd.R_slice HO127.out; subst eo244) | ((with_reducible refine gate_callee (f := 16) rfl ?_); refine gL (some 45) rfl rfl Tryd.func16 #[.int .i64 1, .slice Ao244 y125.length co244, .int .i64 0] ?_; (with_reducible refine (XA.word_Prefix.calls kj12 1 _ _ y125 0 t128 t129 t130 _ ?_ ?_ ?_ A20.out).mono ?_); exact C_st ((Kd.R_reads' HO127.out).2.2); exact (Kd.R_reads' HO127.out).2.1; exact LW.below HLW.out (bes HB.out); rintro e w245 ⟨rfl, hb⟩; refine ⟨_, rfl, ?_⟩; replace HO127 := rb HO127 hb; replace HB := bsp HB hb; (try clear hb)) | ((with_reducible refine gate_callee (f := 16) rfl ?_); refine gL (some 51) rfl rfl Tryd.func16 #[.int .i64 1, .slice Ao244 y125.length co244, .int .i64 1] ?_; (with_reducible refine (XA.word_Prefix.calls kj12 1 _ _ y125 1 t131 t132 t133 _ ?_ ?_ ?_ A21.out).mono ?_); exact C_st ((Kd.R_reads' HO127.out).2.2); exact (Kd.R_reads' HO127.out).2.1; exact LW.below HLW.out (bes HB.out); rintro e w246 ⟨rfl, hb⟩; refine ⟨_, rfl, ?_⟩; replace HO127 := rb HO127 hb; replace HB := bsp HB hb; (try clear hb)) | ((with_reducible refine gate_callee (f := 16) rfl ?_); refine gL (some 57) rfl rfl Tryd.func16 #[.int .i64 1, .slice Ao244 y125.length co244, .int .i64 2] ?_; (with_reducible refine (XA.word_Prefix.calls kj12 1 _ _ y125 2 t134 t135 t136 _ ?_ ?_ ?_ A22.out).mono ?_); exact C_st ((Kd.R_reads' HO127.out).2.2); exact (Kd.R_reads' HO127.out).2.1; exact LW.below HLW.out (bes HB.out); rintro e w247 ⟨rfl, hb⟩; refine ⟨_, rfl, ?_⟩; replace HO127 := rb HO127 hb; replace HB := bsp HB hb; (try clear hb)) | ((with_reducible refine gate_callee (f := 22) rfl ?_); refine gL (some 62) rfl rfl Tryd.func22 #[.int .i64 2, .int .i64 3] ?_; (refine (XA.word_Month.calls kj12 2 3 t137 t138 _ A23.out).mono ?_); rintro e w248 ⟨rfl, hb⟩; refine ⟨_, rfl, ?_⟩; replace HO127 := rb HO127 hb; replace HB := bsp HB hb; (try clear hb)) | ((with_reducible refine gate_callee (f := 28) rfl ?_); refine gL (some 66) rfl rfl Tryd.func28 #[.int .i64 3, .string (B_ #[100,111,109,105,110,103,111])] ?_; (refine (XA.word_WeekdayOf.calls kj12 3 (B_ #[100,111,109,105,110,103,111]) t139 t140 _ A24.out).mono ?_); rintro e w249 ⟨rfl, hb⟩; refine ⟨_, rfl, ?_⟩; replace HO127 := rb HO127 hb; replace HB := bsp HB hb; (try clear hb)) | ((with_reducible refine gate_callee (f := 18) rfl ?_); refine gL (some 70) rfl rfl Tryd.func18 #[.int .i64 4, .int .i64 0] ?_; (refine (XA.word_Words.calls kj12 4 0 t141 t142 _ ?_ A25.out).mono ?_); exact LW.below HLW.out (bes HB.out); rintro e w250 ⟨v143, rfl, ho0, hb⟩; refine ⟨_, rfl, ?_⟩; have HO144 := am (Kd.R_lower (Kd.R_new' ho0 (Kd.R_lt (R_st HO127.out))) (below_size (bes HB.out))); replace HO127 := am (Kd.R_elder' (R_st HO127.out) (Kd.R_base ho0) hb); replace HB := bsp HB hb; (try clear hb); (try clear ho0)) | ((with_reducible refine gate_dst (N := 74) rfl ?_); refine Kd.R_lit Kd.string _ 9 ?hg (N := 74) ?hd (xs := ([(B_ #[109,105,108]), (B_ #[99,105,101,110])] : List ByteArray)) (inner := [.string (B_ #[109,105,108]), .string (B_ #[99,105,101,110])]) (ok := fun _ => True) (okp := fun _ => True) ?hr ?hp (fun _ hk => hk) trivial (Below.refl _ _) (Nat.le_refl _) (by simp) ?_; (case hd => rfl); (case hg => rfl); (case hr => first | (go_simp; done) | (go_simp; rfl)); (case hp => exact (Reps.one (show Kd.M Kd.string _ _ _ (B_ #[109,105,108]) [.string (B_ #[109,105,108])] from rfl) (Reps.one (show Kd.M Kd.string _ _ _ (B_ #[99,105,101,110]) [.string (B_ #[99,105,101,110])] from rfl) (Reps.none _ _)))); intro v146 w251 ho252 hb hg_ hnew_; clear hg_ hnew_; (first | rw [← Ny145.out] at ho252 | (simp only [Int.reduceToNat] at ho252; rw [← Ny145.out] at ho252)); have HO147 := am (Kd.R_lower (Kd.R_new' (Kd.R_new' ho252 (Kd.R_lt (R_st HO127.out))) (Kd.R_lt (R_st HO144.out))) (below_size (bes HB.out))); replace HO127 := am (Kd.R_elder' (R_st HO127.out) (Kd.R_base ho252) hb); replace HO144 := am (Kd.R_elder' (R_st HO144.out) (Kd.R_base ho252) hb); replace HB := bsp HB hb; clear hb ho252; obtain ⟨Ao253, co253, eo253⟩ := Kd.R_slice HO147.out; subst eo253) | ((with_reducible refine gate_callee (f := 14) rfl ?_); refine gL (some 75) rfl rfl Tryd.func14 #[.int .i64 3, .slice Ao253 y145.length co253] ?_; (refine (XA.word_Number.calls kj12 3 _ _ y145 t148 t149 _ ?_ ?_ ?_ A26.out).mono ?_); exact C_st ((Kd.R_reads' HO147.out).2.2); exact (Kd.R_reads' HO147.out).2.1; exact LW.below HLW.out (bes HB.out); rintro e w254 ⟨rfl, hb⟩; refine ⟨_, rfl, ?_⟩; replace HO127 := rb HO127 hb; replace HO144 := rb HO144 hb; replace HO147 := rb HO147 hb; replace HB := bsp HB hb; (try clear hb))); go_ret; exact ⟨er, by exact bes HB.out⟩) | (go_wp2_with (first | ((with_reducible refine gate_dst (N := 42) rfl ?_); refine Kd.R_lit Kd.string _ 9 ?hg (N := 42) ?hd (xs := ([(B_ #[116,119,111]), (B_ #[104,117,110,100,114,101,100]), (B_ #[112,101,111,112,108,101])] : List ByteArray)) (inner := [.string (B_ #[116,119,111]), .string (B_ #[104,117,110,100,114,101,100]), .string (B_ #[112,101,111,112,108,101])]) (ok := fun _ => True) (okp := fun _ => True) ?hr ?hp (fun _ hk => hk) trivial (Below.refl _ _) (Nat.le_refl _) (by simp) ?_; (case hd => rfl); (case hg => rfl); (case hr => first | (go_simp; done) | (go_simp; rfl)); (case hp => exact (Reps.one (show Kd.M Kd.string _ _ _ (B_ #[116,119,111]) [.string (B_ #[116,119,111])] from rfl) (Reps.one (show Kd.M Kd.string _ _ _ (B_ #[104,117,110,100,114,101,100]) [.string (B_ #[104,117,110,100,114,101,100])] from rfl) (Reps.one (show Kd.M Kd.string _ _ _ (B_ #[112,101,111,112,108,101]) [.string (B_ #[112,101,111,112,108,101])] from rfl) (Reps.none _ _))))); intro v126 w177 ho178 hb hg_ hnew_; clear hg_ hnew_; (first | rw [← Ny125.out] at ho178 | (simp only [Int.reduceToNat] at ho178; rw [← Ny125.out] at ho178)); have HO127 := am (Kd.R_lower ho178 (below_size (bes HB.out))); replace HB := bsp HB hb; clear hb ho178; obtain ⟨Ao179, co179, eo179⟩ := Kd.R_slice HO127.out; subst eo179) | ((with_reducible refine gate_callee (f := 16) rfl ?_); refine gL (some 45) rfl rfl Tryd.func16 #[.int .i64 1, .slice Ao179 y125.length co179, .int .i64 0] ?_; (with_reducible refine (XA.word_Prefix.calls kj12 1 _ _ y125 0 t128 t129 true _ ?_ ?_ ?_ A20.out).mono ?_); exact C_st ((Kd.R_reads' HO127.out).2.2); exact (Kd.R_reads' HO127.out).2.1; exact LW.below HLW.out (bes HB.out); rintro e w180 ⟨rfl, hb⟩; refine ⟨_, rfl, ?_⟩; replace HO127 := rb HO127 hb; replace HB := bsp HB hb; (try clear hb)) | ((with_reducible refine gate_callee (f := 16) rfl ?_); refine gL (some 51) rfl rfl Tryd.func16 #[.int .i64 1, .slice Ao179 y125.length co179, .int .i64 1] ?_; (with_reducible refine (XA.word_Prefix.calls kj12 1 _ _ y125 1 t131 t132 false _ ?_ ?_ ?_ A21.out).mono ?_); exact C_st ((Kd.R_reads' HO127.out).2.2); exact (Kd.R_reads' HO127.out).2.1; exact LW.below HLW.out (bes HB.out); rintro e w181 ⟨rfl, hb⟩; refine ⟨_, rfl, ?_⟩; replace HO127 := rb HO127 hb; replace HB := bsp HB hb; (try clear hb)) | ((with_reducible refine gate_callee (f := 16) rfl ?_); refine gL (some 57) rfl rfl Tryd.func16 #[.int .i64 1, .slice Ao179 y125.length co179, .int .i64 2] ?_; (with_reducible refine (XA.word_Prefix.calls kj12 1 _ _ y125 2 t134 t135 false _ ?_ ?_ ?_ A22.out).mono ?_); exact C_st ((Kd.R_reads' HO127.out).2.2); exact (Kd.R_reads' HO127.out).2.1; exact LW.below HLW.out (bes HB.out); rintro e w182 ⟨rfl, hb⟩; refine ⟨_, rfl, ?_⟩; replace HO127 := rb HO127 hb; replace HB := bsp HB hb; (try clear hb)) | ((with_reducible refine gate_callee (f := 22) rfl ?_); refine gL (some 62) rfl rfl Tryd.func22 #[.int .i64 2, .int .i64 3] ?_; (refine (XA.word_Month.calls kj12 2 3 t137 t138 _ A23.out).mono ?_); rintro e w183 ⟨rfl, hb⟩; refine ⟨_, rfl, ?_⟩; replace HO127 := rb HO127 hb; replace HB := bsp HB hb; (try clear hb)) | ((with_reducible refine gate_callee (f := 28) rfl ?_); refine gL (some 66) rfl rfl Tryd.func28 #[.int .i64 3, .string (B_ #[100,111,109,105,110,103,111])] ?_; (refine (XA.word_WeekdayOf.calls kj12 3 (B_ #[100,111,109,105,110,103,111]) t139 t140 _ A24.out).mono ?_); rintro e w184 ⟨rfl, hb⟩; refine ⟨_, rfl, ?_⟩; replace HO127 := rb HO127 hb; replace HB := bsp HB hb; (try clear hb)) | ((with_reducible refine gate_callee (f := 18) rfl ?_); refine gL (some 70) rfl rfl Tryd.func18 #[.int .i64 4, .int .i64 0] ?_; (refine (XA.word_Words.calls kj12 4 0 t141 t142 _ ?_ A25.out).mono ?_); exact LW.below HLW.out (bes HB.out); rintro e w185 ⟨v143, rfl, ho0, hb⟩; refine ⟨_, rfl, ?_⟩; have HO144 := am (Kd.R_lower (Kd.R_new' ho0 (Kd.R_lt (R_st HO127.out))) (below_size (bes HB.out))); replace HO127 := am (Kd.R_elder' (R_st HO127.out) (Kd.R_base ho0) hb); replace HB := bsp HB hb; (try clear hb); (try clear ho0)) | ((with_reducible refine gate_dst (N := 74) rfl ?_); refine Kd.R_lit Kd.string _ 9 ?hg (N := 74) ?hd (xs := ([(B_ #[109,105,108]), (B_ #[99,105,101,110])] : List ByteArray)) (inner := [.string (B_ #[109,105,108]), .string (B_ #[99,105,101,110])]) (ok := fun _ => True) (okp := fun _ => True) ?hr ?hp (fun _ hk => hk) trivial (Below.refl _ _) (Nat.le_refl _) (by simp) ?_; (case hd => rfl); (case hg => rfl); (case hr => first | (go_simp; done) | (go_simp; rfl)); (case hp => exact (Reps.one (show Kd.M Kd.string _ _ _ (B_ #[109,105,108]) [.string (B_ #[109,105,108])] from rfl) (Reps.one (show Kd.M Kd.string _ _ _ (B_ #[99,105,101,110]) [.string (B_ #[99,105,101,110])] from rfl) (Reps.none _ _)))); intro v146 w186 ho187 hb hg_ hnew_; clear hg_ hnew_; (first | rw [← Ny145.out] at ho187 | (simp only [Int.reduceToNat] at ho187; rw [← Ny145.out] at ho187)); have HO147 := am (Kd.R_lower (Kd.R_new' (Kd.R_new' ho187 (Kd.R_lt (R_st HO127.out))) (Kd.R_lt (R_st HO144.out))) (below_size (bes HB.out))); replace HO127 := am (Kd.R_elder' (R_st HO127.out) (Kd.R_base ho187) hb); replace HO144 := am (Kd.R_elder' (R_st HO144.out) (Kd.R_base ho187) hb); replace HB := bsp HB hb; clear hb ho187; obtain ⟨Ao188, co188, eo188⟩ := Kd.R_slice HO147.out; subst eo188) | ((with_reducible refine gate_callee (f := 14) rfl ?_); refine gL (some 75) rfl rfl Tryd.func14 #[.int .i64 3, .slice Ao188 y145.length co188] ?_; (refine (XA.word_Number.calls kj12 3 _ _ y145 t148 t149 _ ?_ ?_ ?_ A26.out).mono ?_); exact C_st ((Kd.R_reads' HO147.out).2.2); exact (Kd.R_reads' HO147.out).2.1; exact LW.below HLW.out (bes HB.out); rintro e w189 ⟨rfl, hb⟩; refine ⟨_, rfl, ?_⟩; replace HO127 := rb HO127 hb; replace HO144 := rb HO144 hb; replace HO147 := rb HO147 hb; replace HB := bsp HB hb; (try clear hb))); go_ret; exact ⟨er, by exact bes HB.out⟩)

end Go.Proofs.YtjgobfbjmlacjaaDoor.XS
