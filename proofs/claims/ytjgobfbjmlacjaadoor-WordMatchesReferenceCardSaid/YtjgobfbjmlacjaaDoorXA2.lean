-- Written by wip/xprint.py (a driver of mine over the kit's printer) for this claim.
import Derived.Test.YtjgobfbjmlacjaaDoorXA0
import Derived.Test.YtjgobfbjmlacjaaDoorXA1
namespace Go.Proofs.YtjgobfbjmlacjaaDoor.XA
open Go.RowKit Go.Proofs.YtjgobfbjmlacjaaDoorW.PrintWords Go.Proofs.YtjgobfbjmlacjaaDoorW.PrintLast Go.Proofs.YtjgobfbjmlacjaaDoorW.PrintMore
open Bool renaming true → tt, false → ff
open _root_.ByteArray renaming mk → B_
attribute [local go_sem] max2_int min2_int max_two min_two max_three min_three max_four min_four   -- for this text's walks alone
set_option maxHeartbeats 8000000
set_option maxRecDepth 100000
set_option linter.unusedVariables false
set_option linter.unusedSimpArgs false

/-! ### word_tongue_text: function 43 -/
def word_tongue_text.f (k : Nat) (l0_0 : List ByteArray) (l0_1 : List ByteArray) (l0_2 : List ByteArray) (l0_3 : List ByteArray) (a0_4 : Option Nat) (a0_5 : Option Nat) (a0_6 : Option Nat) (a1 : Int) : Option (ByteArray) := if a1 = 0 then (if 0 < (l0_0.length : Int) then (some (rdOf ByteArray.empty l0_0 0)) else (none)) else (if a1 < 1000 then ((word_tongue_small.f k l0_0 l0_1 l0_2 l0_3 a0_4 a0_5 a0_6 a1).bind fun t181 => (some t181)) else ((word_tongue_small.f k l0_0 l0_1 l0_2 l0_3 a0_4 a0_5 a0_6 (wrap64 (Int.tdiv a1 1000))).bind fun t182 => (if a0_6 = some 60 then ((word_tongues_3.f t182 (wrap64 (Int.tdiv a1 1000))).bind fun t183 => ((word_tongue_small.f k l0_0 l0_1 l0_2 l0_3 a0_4 a0_5 (some 60) (Int.tmod a1 1000)).bind fun t184 => ((word_joined.f t183 (B_ #[32]) t184).bind fun t185 => (some t185)))) else (if a0_6 = some 64 then ((word_tongues_6.f t182 (wrap64 (Int.tdiv a1 1000))).bind fun t186 => ((word_tongue_small.f k l0_0 l0_1 l0_2 l0_3 a0_4 a0_5 (some 64) (Int.tmod a1 1000)).bind fun t187 => ((word_joined.f t186 (B_ #[32]) t187).bind fun t188 => (some t188)))) else (if a0_6 = some 67 then ((word_tongues_9.f t182 (wrap64 (Int.tdiv a1 1000))).bind fun t189 => ((word_tongue_small.f k l0_0 l0_1 l0_2 l0_3 a0_4 a0_5 (some 67) (Int.tmod a1 1000)).bind fun t190 => ((word_joined.f t189 (B_ #[32]) t190).bind fun t191 => (some t191)))) else (none))))))
theorem word_tongue_text.mono : ∀ a0 a1 a2 a3 a4 a5 a6 a7 k, LeO (word_tongue_text.f k a0 a1 a2 a3 a4 a5 a6 a7) (word_tongue_text.f (k + 1) a0 a1 a2 a3 a4 a5 a6 a7) := by
 intro a0 a1 a2 a3 a4 a5 a6 a7 k
 unfold word_tongue_text.f
 repeat' first
   | (with_reducible exact word_tongue_small.mono _ _ _ _ _ _ _ _ _)
   | (with_reducible exact LeO.refl _)
   | (with_reducible exact LeO.none _)
   | (with_reducible refine LeO.ite ?_ ?_)
   | (with_reducible refine LeO.bind ?_ (fun _ => ?_))
def word_tongue_text.T5 : Bool × List (List Nat × List Nat) := (true, [([], []), ([0], [0]), ([], []), ([], []), ([3], [3]), ([2, 4], [2, 4]), ([], []), ([6], [6]), ([1, 5, 7, 5], [1, 5, 7]), ([], []), ([], []), ([10], [10]), ([9, 11, 8], [9, 11]), ([8, 12, 12], [8, 12]), ([13, 13, 0, 1, 2, 3, 4, 5, 6, 7, 8, 9, 10, 11, 12, 13], [13])])
def word_tongue_text.B5 : List Nat := [0, 1, 0, 0, 8, 28, 0, 64, 255, 0, 0, 1024, 4095, 8191, 16383]
theorem word_tongue_text.tab5 : rtab .any (opsOf Tryd.f43 5) = word_tongue_text.T5 := by kernel_rfl
theorem word_tongue_text.bits5 : waitsOk word_tongue_text.T5.2 word_tongue_text.B5 = true := by kernel_rfl
theorem word_tongue_text.calls (k : Nat) (A0_0 : Option Addr) (c0_0 : Nat) (l0_0 : List ByteArray) (A0_1 : Option Addr) (c0_1 : Nat) (l0_1 : List ByteArray) (A0_2 : Option Addr) (c0_2 : Nat) (l0_2 : List ByteArray) (A0_3 : Option Addr) (c0_3 : Nat) (l0_3 : List ByteArray) (a0_4 : Option Nat) (a0_5 : Option Nat) (a0_6 : Option Nat) (a1 : Int) (r : ByteArray) (w : World) (hr0_0 : Kd.C Kd.string w A0_0 l0_0.length l0_0) (hc0_0 : l0_0.length ≤ c0_0) (hr0_1 : Kd.C Kd.string w A0_1 l0_1.length l0_1) (hc0_1 : l0_1.length ≤ c0_1) (hr0_2 : Kd.C Kd.string w A0_2 l0_2.length l0_2) (hc0_2 : l0_2.length ≤ c0_2) (hr0_3 : Kd.C Kd.string w A0_3 l0_3.length l0_3) (hc0_3 : l0_3.length ≤ c0_3) (h : word_tongue_text.f k l0_0 l0_1 l0_2 l0_3 a0_4 a0_5 a0_6 a1 = some r) :
  Calls Tryd.prog 43 #[.agg #[.slice A0_0 l0_0.length c0_0, .slice A0_1 l0_1.length c0_1, .slice A0_2 l0_2.length c0_2, .slice A0_3 l0_3.length c0_3, fnv a0_4, fnv a0_5, fnv a0_6], .int .i64 a1] w fun e w' => e = .returned (.string r) ∧ Below w.heap.size w w' := by
 have hu59 := Tryd.underlying59; have HR0_0 := am hr0_0; have HC0_0 := am hc0_0; clear hr0_0 hc0_0; have HR0_1 := am hr0_1; have HC0_1 := am hc0_1; clear hr0_1 hc0_1; have HR0_2 := am hr0_2; have HC0_2 := am hc0_2; clear hr0_2 hc0_2; have HR0_3 := am hr0_3; have HC0_3 := am hc0_3; clear hr0_3 hc0_3; have HB := am (Below.refl w.heap.size w)
 have H := h; clear h; unfold word_tongue_text.f at H
 by_cases c3 : a1 = 0
 ·rw [if_pos c3] at H
  have c3b0 := bT c3
  have c3b1 := nF c3; clear c3
  by_cases c4 : 0 < (l0_0.length : Int)
  ·rw [if_pos c4] at H
   have c4b0 := dT c4
   have c4b1 : decide (0 < l0_0.length) = true := decide_eq_true (by omega); clear c4; obtain rfl := Option.some.inj H
   go_enter Tryd.func43, Tryd.ntmps43
   go_wp2_with (first | ((with_reducible refine gate_dst (N := 2) rfl ?_); refine bx 2 #[.slice A0_0 l0_0.length c0_0, .slice A0_1 l0_1.length c0_1, .slice A0_2 l0_2.length c0_2, .slice A0_3 l0_3.length c0_3, fnv a0_4, fnv a0_5, fnv a0_6] 59 ?_; intro gb179 hg w5 hbox hb; have BK179 := am hbox; have GW179 := gwm hg HB; have GE179 := gem hg HB; replace HB := bsp HB hb; clear hb hbox hg; have Z6_0 := z0 BK179.out; have Z6_1 := z1 BK179.out; have Z6_2 := z2 BK179.out; have Z6_3 := z3 BK179.out; have Z6_4 := z4 BK179.out; have Z6_5 := z5 BK179.out; have Z6_6 := z6 BK179.out; have F6_0 := fz BK179.out 0; have F6_1 := fz BK179.out 1; have F6_2 := fz BK179.out 2; have F6_3 := fz BK179.out 3; have F6_4 := fz BK179.out 4; have F6_5 := fz BK179.out 5; have F6_6 := fz BK179.out 6; have p180 : 0 ≤ (0 : Int) := (by omega); have q180 : 0 < (l0_0.length : Int) := of_decide_eq_true (by assumption); obtain ⟨ad180, e180, hx180_0⟩ := Kd.at_string HR0_0.out 0 p180 q180; cases e180; have qi180 : (0 < l0_0.length) = True := eq_true (by omega); (try rw [show ((0 : Int)).toNat = 0 from rfl] at hx180_0); (try rw [Addr.add_zero'] at hx180_0); replace hx180_0 := (HB.out.cell (World.block_lt_of_cell? w _ hx180_0)).trans hx180_0; replace p180 := eq_true p180; replace q180 := eq_true q180))
   go_ret
   exact ⟨er, by exact bes HB.out⟩
  rw [if_neg c4] at H
  exact absurd H (by simp)
 rw [if_neg c3] at H
 have c3b0 := bF c3
 have c3b1 := nT c3
 by_cases c7 : a1 < 1000
 ·rw [if_pos c7] at H
  have c7b0 := dT c7; clear c7; replace H := bm H; obtain ⟨t181, A8, H⟩ := H; replace H : (some t181) = some r := H; replace A8 := am A8; obtain rfl := Option.some.inj H
  go_enter Tryd.func43, Tryd.ntmps43
  go_wp2_with (first | ((with_reducible refine gate_dst (N := 2) rfl ?_); refine bx 2 #[.slice A0_0 l0_0.length c0_0, .slice A0_1 l0_1.length c0_1, .slice A0_2 l0_2.length c0_2, .slice A0_3 l0_3.length c0_3, fnv a0_4, fnv a0_5, fnv a0_6] 59 ?_; intro gb179 hg w9 hbox hb; have BK179 := am hbox; have GW179 := gwm hg HB; have GE179 := gem hg HB; replace HB := bsp HB hb; clear hb hbox hg; have Z10_0 := z0 BK179.out; have Z10_1 := z1 BK179.out; have Z10_2 := z2 BK179.out; have Z10_3 := z3 BK179.out; have Z10_4 := z4 BK179.out; have Z10_5 := z5 BK179.out; have Z10_6 := z6 BK179.out; have F10_0 := fz BK179.out 0; have F10_1 := fz BK179.out 1; have F10_2 := fz BK179.out 2; have F10_3 := fz BK179.out 3; have F10_4 := fz BK179.out 4; have F10_5 := fz BK179.out 5; have F10_6 := fz BK179.out 6) | ((with_reducible refine gate_callee (f := 47) rfl ?_); refine gL (some 15) rfl rfl Tryd.func47 #[.agg #[.slice A0_0 l0_0.length c0_0, .slice A0_1 l0_1.length c0_1, .slice A0_2 l0_2.length c0_2, .slice A0_3 l0_3.length c0_3, fnv a0_4, fnv a0_5, fnv a0_6], .int .i64 a1] ?_; (refine (word_tongue_small.calls k _ _ l0_0 _ _ l0_1 _ _ l0_2 _ _ l0_3 a0_4 a0_5 a0_6 a1 t181 _ ?_ ?_ ?_ ?_ ?_ ?_ ?_ ?_ A8.out).mono ?_); exact C_st (Kd.C_below HR0_0.out HB.out); exact HC0_0.out; exact C_st (Kd.C_below HR0_1.out HB.out); exact HC0_1.out; exact C_st (Kd.C_below HR0_2.out HB.out); exact HC0_2.out; exact C_st (Kd.C_below HR0_3.out HB.out); exact HC0_3.out; rintro e w11 ⟨rfl, hb⟩; refine ⟨_, rfl, ?_⟩; replace BK179 := kb BK179 hb; replace HB := bsp HB hb; (try clear hb)))
  go_ret
  exact ⟨er, by exact bes HB.out⟩
 rw [if_neg c7] at H
 have c7b0 := dF c7; clear c7; replace H := bm H; obtain ⟨t182, A12, H⟩ := H; replace A12 := am A12
 by_cases c13 : a0_6 = some 60
 ·subst c13
  replace H := ip H
  (try simp only [fnv_some]); replace H := bm H; obtain ⟨t183, A14, H⟩ := H; replace A14 := am A14; replace H := bm H; obtain ⟨t184, A15, H⟩ := H; replace A15 := am A15; replace H := bm H; obtain ⟨t185, A16, H⟩ := H; replace H : (some t185) = some r := H; replace A16 := am A16; obtain rfl := Option.some.inj H
  go_enter Tryd.func43, Tryd.ntmps43
  try go_wp2_with (first | ((with_reducible refine gate_dst (N := 2) rfl ?_); refine bx 2 #[.slice A0_0 l0_0.length c0_0, .slice A0_1 l0_1.length c0_1, .slice A0_2 l0_2.length c0_2, .slice A0_3 l0_3.length c0_3, fnv a0_4, fnv a0_5, .func (.func 60) #[] #[]] 59 ?_; intro gb179 hg w17 hbox hb; have BK179 := am hbox; have GW179 := gwm hg HB; have GE179 := gem hg HB; replace HB := bsp HB hb; clear hb hbox hg))
  replace BK179 := am (blk_drew BK179.out); replace HB := am (below_drew1 HB.out)
  refine start_ (n := 15) (S := fun w' => w'.cell? ⟨gb179, 0, none⟩ = some (.slice A0_0 l0_0.length c0_0) ∧ w'.cell? ⟨gb179, 1, none⟩ = some (.slice A0_1 l0_1.length c0_1) ∧ w'.cell? ⟨gb179, 2, none⟩ = some (.slice A0_2 l0_2.length c0_2) ∧ w'.cell? ⟨gb179, 3, none⟩ = some (.slice A0_3 l0_3.length c0_3) ∧ w'.cell? ⟨gb179, 4, none⟩ = some (fnv a0_4) ∧ w'.cell? ⟨gb179, 5, none⟩ = some (fnv a0_5) ∧ w'.cell? ⟨gb179, 6, none⟩ = some (.func (.func 60) #[] #[])) (ds := []) #[ff,ff,ff,ff,ff,ff,ff,ff,ff,ff,ff,ff,ff,ff,ff] (by kernel_rfl) rfl rfl ⟨bc BK179.out 0, bc BK179.out 1, bc BK179.out 2, bc BK179.out 3, bc BK179.out 4, bc BK179.out 5, bc BK179.out 6⟩ (fun hHeld => ?_); refine with_tabW word_tongue_text.tab5 word_tongue_text.bits5 (fun HT_ HW_ => ?_)
  generalize w17.drew = w18 at BK179 HB hHeld ⊢
  refine pv 0 (some 16) HT_.out #[tt,ff,ff,ff,ff,ff,ff,ff,ff,ff,ff,ff,ff,ff,ff] ?_
  refine pv 3 (some 19) HT_.out #[tt,ff,ff,tt,ff,ff,ff,ff,ff,ff,ff,ff,ff,ff,ff] ?_
  refine pv 4 (some 20) HT_.out #[tt,ff,ff,tt,tt,ff,ff,ff,ff,ff,ff,ff,ff,ff,ff] ?_
  refine pv 6 (some 22) HT_.out #[tt,ff,ff,tt,tt,ff,tt,ff,ff,ff,ff,ff,ff,ff,ff] ?_
  refine pv 7 (some 23) HT_.out #[tt,ff,ff,tt,tt,ff,tt,tt,ff,ff,ff,ff,ff,ff,ff] ?_
  refine pv 10 (some 26) HT_.out #[tt,ff,ff,tt,tt,ff,tt,tt,ff,ff,tt,ff,ff,ff,ff] ?_
  refine pv 11 (some 27) HT_.out #[tt,ff,ff,tt,tt,ff,tt,tt,ff,ff,tt,tt,ff,ff,ff] ?_
  refine tu 1 (some 17) ?_ #[tt,tt,ff,tt,tt,ff,tt,tt,ff,ff,tt,tt,ff,ff,ff] rfl rfl (ta HT_.out HW_.out) (fun _ _ _ h => h) (Or.inl ⟨by rfl, ?_⟩) hHeld ?_ ?_ ?_; rotate_left
  ·rintro w' ⟨s0, s1, s2, s3, s4, s5, s6⟩
   go_simp
   with_reducible rfl
  rotate_left; exact sp
  refine tu 2 (some 18) ?_ #[tt,tt,tt,tt,tt,ff,tt,tt,ff,ff,tt,tt,ff,ff,ff] rfl rfl (ta HT_.out HW_.out) (fun _ _ _ h => h) (Or.inl ⟨by rfl, ?_⟩) hHeld ?_ ?_ ?_; rotate_left
  ·rintro w' ⟨s0, s1, s2, s3, s4, s5, s6⟩
   go_simp
   with_reducible rfl
  rotate_left; exact sp
  refine tu 9 (some 25) ?_ #[tt,tt,tt,tt,tt,ff,tt,tt,ff,tt,tt,tt,ff,ff,ff] rfl rfl (ta HT_.out HW_.out) (fun _ _ _ h => h) (Or.inl ⟨by rfl, ?_⟩) hHeld ?_ ?_ ?_; rotate_left
  ·rintro w' ⟨s0, s1, s2, s3, s4, s5, s6⟩
   go_simp
   with_reducible rfl
  rotate_left; exact sp
  refine o1 5 (some 21) HT_.out #[tt,tt,tt,tt,tt,tt,tt,tt,ff,tt,tt,tt,ff,ff,ff] fun K hK => ?_
  refine gV Tryd.func47 #[.agg #[.slice A0_0 l0_0.length c0_0, .slice A0_1 l0_1.length c0_1, .slice A0_2 l0_2.length c0_2, .slice A0_3 l0_3.length c0_3, fnv a0_4, fnv a0_5, .func (.func 60) #[] #[]], .int .i64 (wrap64 (Int.tdiv a1 1000))] ?_
  with_reducible refine (word_tongue_small.calls k _ _ l0_0 _ _ l0_1 _ _ l0_2 _ _ l0_3 a0_4 a0_5 (some 60) (wrap64 (Int.tdiv a1 1000)) t182 _ ?_ ?_ ?_ ?_ ?_ ?_ ?_ ?_ A12.out).mono ?_
  exact C_st (Kd.C_below HR0_0.out HB.out)
  exact HC0_0.out
  exact C_st (Kd.C_below HR0_1.out HB.out)
  exact HC0_1.out
  exact C_st (Kd.C_below HR0_2.out HB.out)
  exact HC0_2.out
  exact C_st (Kd.C_below HR0_3.out HB.out)
  exact HC0_3.out
  rintro e w19 ⟨rfl, hb⟩
  refine ⟨_, rfl, ?_⟩; replace BK179 := kb BK179 hb; replace HB := bsp HB hb
  (try clear hb)
  (try clear hb2)
  (try clear hk)
  (try clear hi)
  refine hK.out _ _ ⟨bc BK179.out 0, bc BK179.out 1, bc BK179.out 2, bc BK179.out 3, bc BK179.out 4, bc BK179.out 5, bc BK179.out 6⟩ (fun hHeld => ?_); clear hK K
  refine norm_ (a' := ?_) ?_ ?_; rotate_left
  ·show Act.put _ (some 21) _ = _
   simp only [Act.put, sa_, s0_, s1_, i64_w, i32_w]
   rfl
  refine o1 8 (some 24) HT_.out #[tt,tt,tt,tt,tt,tt,tt,tt,tt,tt,tt,tt,ff,ff,ff] fun K hK => ?_
  refine gV Tryd.func60 #[.string t182, .int .i64 (wrap64 (Int.tdiv a1 1000))] ?_
  with_reducible refine (word_tongues_3.calls t182 (wrap64 (Int.tdiv a1 1000)) t183 _ A14.out).mono ?_
  rintro e w' ⟨rfl, ⟨nd, rfl⟩⟩
  refine ⟨_, rfl, ?_⟩
  refine hK.out _ _ ⟨bc BK179.out 0, bc BK179.out 1, bc BK179.out 2, bc BK179.out 3, bc BK179.out 4, bc BK179.out 5, bc BK179.out 6⟩ (fun hHeld => ?_); clear hK K
  refine norm_ (a' := ?_) ?_ ?_; rotate_left
  ·show Act.put _ (some 24) _ = _
   simp only [Act.put, sa_, s0_, s1_, i64_w, i32_w]
   rfl
  refine o1 12 (some 28) HT_.out #[tt,tt,tt,tt,tt,tt,tt,tt,tt,tt,tt,tt,tt,ff,ff] fun K hK => ?_
  refine gV Tryd.func47 #[.agg #[.slice A0_0 l0_0.length c0_0, .slice A0_1 l0_1.length c0_1, .slice A0_2 l0_2.length c0_2, .slice A0_3 l0_3.length c0_3, fnv a0_4, fnv a0_5, .func (.func 60) #[] #[]], .int .i64 (Int.tmod a1 1000)] ?_
  with_reducible refine (word_tongue_small.calls k _ _ l0_0 _ _ l0_1 _ _ l0_2 _ _ l0_3 a0_4 a0_5 (some 60) (Int.tmod a1 1000) t184 _ ?_ ?_ ?_ ?_ ?_ ?_ ?_ ?_ A15.out).mono ?_
  exact (Kd.C_below HR0_0.out (bes HB.out))
  exact HC0_0.out
  exact (Kd.C_below HR0_1.out (bes HB.out))
  exact HC0_1.out
  exact (Kd.C_below HR0_2.out (bes HB.out))
  exact HC0_2.out
  exact (Kd.C_below HR0_3.out (bes HB.out))
  exact HC0_3.out
  rintro e w20 ⟨rfl, hb⟩
  refine ⟨_, rfl, ?_⟩; replace BK179 := kb BK179 hb; replace HB := bsp HB hb
  (try clear hb)
  (try clear hb2)
  (try clear hk)
  (try clear hi)
  refine hK.out _ _ ⟨bc BK179.out 0, bc BK179.out 1, bc BK179.out 2, bc BK179.out 3, bc BK179.out 4, bc BK179.out 5, bc BK179.out 6⟩ (fun hHeld => ?_); clear hK K
  refine norm_ (a' := ?_) ?_ ?_; rotate_left
  ·show Act.put _ (some 28) _ = _
   simp only [Act.put, sa_, s0_, s1_, i64_w, i32_w]
   rfl
  refine o1 13 (some 29) HT_.out #[tt,tt,tt,tt,tt,tt,tt,tt,tt,tt,tt,tt,tt,tt,ff] fun K hK => ?_
  refine gV Tryd.func59 #[.string t183, .string (B_ #[32]), .string t184] ?_
  with_reducible refine (word_joined.calls t183 (B_ #[32]) t184 t185 _ A16.out).mono ?_
  rintro e w' ⟨rfl, ⟨nd, rfl⟩⟩
  refine ⟨_, rfl, ?_⟩
  refine hK.out _ _ ⟨bc BK179.out 0, bc BK179.out 1, bc BK179.out 2, bc BK179.out 3, bc BK179.out 4, bc BK179.out 5, bc BK179.out 6⟩ (fun hHeld => ?_); clear hK K
  refine norm_ (a' := ?_) ?_ ?_; rotate_left
  ·show Act.put _ (some 29) _ = _
   simp only [Act.put, sa_, s0_, s1_, i64_w, i32_w]
   rfl
  refine pv 14 (some 4) HT_.out #[tt,tt,tt,tt,tt,tt,tt,tt,tt,tt,tt,tt,tt,tt,tt] ?_
  refine done_ (done_of HT_.out (by kernel_rfl)) ?_
  try go_wp2
  go_ret
  exact ⟨er, by exact bes HB.out⟩
 rw [if_neg c13] at H
 by_cases c21 : a0_6 = some 64
 ·subst c21
  replace H := ip H
  (try simp only [fnv_some]); replace H := bm H; obtain ⟨t186, A22, H⟩ := H; replace A22 := am A22; replace H := bm H; obtain ⟨t187, A23, H⟩ := H; replace A23 := am A23; replace H := bm H; obtain ⟨t188, A24, H⟩ := H; replace H : (some t188) = some r := H; replace A24 := am A24; obtain rfl := Option.some.inj H
  go_enter Tryd.func43, Tryd.ntmps43
  try go_wp2_with (first | ((with_reducible refine gate_dst (N := 2) rfl ?_); refine bx 2 #[.slice A0_0 l0_0.length c0_0, .slice A0_1 l0_1.length c0_1, .slice A0_2 l0_2.length c0_2, .slice A0_3 l0_3.length c0_3, fnv a0_4, fnv a0_5, .func (.func 64) #[] #[]] 59 ?_; intro gb179 hg w25 hbox hb; have BK179 := am hbox; have GW179 := gwm hg HB; have GE179 := gem hg HB; replace HB := bsp HB hb; clear hb hbox hg))
  replace BK179 := am (blk_drew BK179.out); replace HB := am (below_drew1 HB.out)
  refine start_ (n := 15) (S := fun w' => w'.cell? ⟨gb179, 0, none⟩ = some (.slice A0_0 l0_0.length c0_0) ∧ w'.cell? ⟨gb179, 1, none⟩ = some (.slice A0_1 l0_1.length c0_1) ∧ w'.cell? ⟨gb179, 2, none⟩ = some (.slice A0_2 l0_2.length c0_2) ∧ w'.cell? ⟨gb179, 3, none⟩ = some (.slice A0_3 l0_3.length c0_3) ∧ w'.cell? ⟨gb179, 4, none⟩ = some (fnv a0_4) ∧ w'.cell? ⟨gb179, 5, none⟩ = some (fnv a0_5) ∧ w'.cell? ⟨gb179, 6, none⟩ = some (.func (.func 64) #[] #[])) (ds := []) #[ff,ff,ff,ff,ff,ff,ff,ff,ff,ff,ff,ff,ff,ff,ff] (by kernel_rfl) rfl rfl ⟨bc BK179.out 0, bc BK179.out 1, bc BK179.out 2, bc BK179.out 3, bc BK179.out 4, bc BK179.out 5, bc BK179.out 6⟩ (fun hHeld => ?_); refine with_tabW word_tongue_text.tab5 word_tongue_text.bits5 (fun HT_ HW_ => ?_)
  generalize w25.drew = w26 at BK179 HB hHeld ⊢
  refine pv 0 (some 16) HT_.out #[tt,ff,ff,ff,ff,ff,ff,ff,ff,ff,ff,ff,ff,ff,ff] ?_
  refine pv 3 (some 19) HT_.out #[tt,ff,ff,tt,ff,ff,ff,ff,ff,ff,ff,ff,ff,ff,ff] ?_
  refine pv 4 (some 20) HT_.out #[tt,ff,ff,tt,tt,ff,ff,ff,ff,ff,ff,ff,ff,ff,ff] ?_
  refine pv 6 (some 22) HT_.out #[tt,ff,ff,tt,tt,ff,tt,ff,ff,ff,ff,ff,ff,ff,ff] ?_
  refine pv 7 (some 23) HT_.out #[tt,ff,ff,tt,tt,ff,tt,tt,ff,ff,ff,ff,ff,ff,ff] ?_
  refine pv 10 (some 26) HT_.out #[tt,ff,ff,tt,tt,ff,tt,tt,ff,ff,tt,ff,ff,ff,ff] ?_
  refine pv 11 (some 27) HT_.out #[tt,ff,ff,tt,tt,ff,tt,tt,ff,ff,tt,tt,ff,ff,ff] ?_
  refine tu 1 (some 17) ?_ #[tt,tt,ff,tt,tt,ff,tt,tt,ff,ff,tt,tt,ff,ff,ff] rfl rfl (ta HT_.out HW_.out) (fun _ _ _ h => h) (Or.inl ⟨by rfl, ?_⟩) hHeld ?_ ?_ ?_; rotate_left
  ·rintro w' ⟨s0, s1, s2, s3, s4, s5, s6⟩
   go_simp
   with_reducible rfl
  rotate_left; exact sp
  refine tu 2 (some 18) ?_ #[tt,tt,tt,tt,tt,ff,tt,tt,ff,ff,tt,tt,ff,ff,ff] rfl rfl (ta HT_.out HW_.out) (fun _ _ _ h => h) (Or.inl ⟨by rfl, ?_⟩) hHeld ?_ ?_ ?_; rotate_left
  ·rintro w' ⟨s0, s1, s2, s3, s4, s5, s6⟩
   go_simp
   with_reducible rfl
  rotate_left; exact sp
  refine tu 9 (some 25) ?_ #[tt,tt,tt,tt,tt,ff,tt,tt,ff,tt,tt,tt,ff,ff,ff] rfl rfl (ta HT_.out HW_.out) (fun _ _ _ h => h) (Or.inl ⟨by rfl, ?_⟩) hHeld ?_ ?_ ?_; rotate_left
  ·rintro w' ⟨s0, s1, s2, s3, s4, s5, s6⟩
   go_simp
   with_reducible rfl
  rotate_left; exact sp
  refine o1 5 (some 21) HT_.out #[tt,tt,tt,tt,tt,tt,tt,tt,ff,tt,tt,tt,ff,ff,ff] fun K hK => ?_
  refine gV Tryd.func47 #[.agg #[.slice A0_0 l0_0.length c0_0, .slice A0_1 l0_1.length c0_1, .slice A0_2 l0_2.length c0_2, .slice A0_3 l0_3.length c0_3, fnv a0_4, fnv a0_5, .func (.func 64) #[] #[]], .int .i64 (wrap64 (Int.tdiv a1 1000))] ?_
  with_reducible refine (word_tongue_small.calls k _ _ l0_0 _ _ l0_1 _ _ l0_2 _ _ l0_3 a0_4 a0_5 (some 64) (wrap64 (Int.tdiv a1 1000)) t182 _ ?_ ?_ ?_ ?_ ?_ ?_ ?_ ?_ A12.out).mono ?_
  exact C_st (Kd.C_below HR0_0.out HB.out)
  exact HC0_0.out
  exact C_st (Kd.C_below HR0_1.out HB.out)
  exact HC0_1.out
  exact C_st (Kd.C_below HR0_2.out HB.out)
  exact HC0_2.out
  exact C_st (Kd.C_below HR0_3.out HB.out)
  exact HC0_3.out
  rintro e w27 ⟨rfl, hb⟩
  refine ⟨_, rfl, ?_⟩; replace BK179 := kb BK179 hb; replace HB := bsp HB hb
  (try clear hb)
  (try clear hb2)
  (try clear hk)
  (try clear hi)
  refine hK.out _ _ ⟨bc BK179.out 0, bc BK179.out 1, bc BK179.out 2, bc BK179.out 3, bc BK179.out 4, bc BK179.out 5, bc BK179.out 6⟩ (fun hHeld => ?_); clear hK K
  refine norm_ (a' := ?_) ?_ ?_; rotate_left
  ·show Act.put _ (some 21) _ = _
   simp only [Act.put, sa_, s0_, s1_, i64_w, i32_w]
   rfl
  refine o1 8 (some 24) HT_.out #[tt,tt,tt,tt,tt,tt,tt,tt,tt,tt,tt,tt,ff,ff,ff] fun K hK => ?_
  refine gV Tryd.func64 #[.string t182, .int .i64 (wrap64 (Int.tdiv a1 1000))] ?_
  with_reducible refine (word_tongues_6.calls t182 (wrap64 (Int.tdiv a1 1000)) t186 _ A22.out).mono ?_
  rintro e w' ⟨rfl, ⟨nd, rfl⟩⟩
  refine ⟨_, rfl, ?_⟩
  refine hK.out _ _ ⟨bc BK179.out 0, bc BK179.out 1, bc BK179.out 2, bc BK179.out 3, bc BK179.out 4, bc BK179.out 5, bc BK179.out 6⟩ (fun hHeld => ?_); clear hK K
  refine norm_ (a' := ?_) ?_ ?_; rotate_left
  ·show Act.put _ (some 24) _ = _
   simp only [Act.put, sa_, s0_, s1_, i64_w, i32_w]
   rfl
  refine o1 12 (some 28) HT_.out #[tt,tt,tt,tt,tt,tt,tt,tt,tt,tt,tt,tt,tt,ff,ff] fun K hK => ?_
  refine gV Tryd.func47 #[.agg #[.slice A0_0 l0_0.length c0_0, .slice A0_1 l0_1.length c0_1, .slice A0_2 l0_2.length c0_2, .slice A0_3 l0_3.length c0_3, fnv a0_4, fnv a0_5, .func (.func 64) #[] #[]], .int .i64 (Int.tmod a1 1000)] ?_
  with_reducible refine (word_tongue_small.calls k _ _ l0_0 _ _ l0_1 _ _ l0_2 _ _ l0_3 a0_4 a0_5 (some 64) (Int.tmod a1 1000) t187 _ ?_ ?_ ?_ ?_ ?_ ?_ ?_ ?_ A23.out).mono ?_
  exact (Kd.C_below HR0_0.out (bes HB.out))
  exact HC0_0.out
  exact (Kd.C_below HR0_1.out (bes HB.out))
  exact HC0_1.out
  exact (Kd.C_below HR0_2.out (bes HB.out))
  exact HC0_2.out
  exact (Kd.C_below HR0_3.out (bes HB.out))
  exact HC0_3.out
  rintro e w28 ⟨rfl, hb⟩
  refine ⟨_, rfl, ?_⟩; replace BK179 := kb BK179 hb; replace HB := bsp HB hb
  (try clear hb)
  (try clear hb2)
  (try clear hk)
  (try clear hi)
  refine hK.out _ _ ⟨bc BK179.out 0, bc BK179.out 1, bc BK179.out 2, bc BK179.out 3, bc BK179.out 4, bc BK179.out 5, bc BK179.out 6⟩ (fun hHeld => ?_); clear hK K
  refine norm_ (a' := ?_) ?_ ?_; rotate_left
  ·show Act.put _ (some 28) _ = _
   simp only [Act.put, sa_, s0_, s1_, i64_w, i32_w]
   rfl
  refine o1 13 (some 29) HT_.out #[tt,tt,tt,tt,tt,tt,tt,tt,tt,tt,tt,tt,tt,tt,ff] fun K hK => ?_
  refine gV Tryd.func59 #[.string t186, .string (B_ #[32]), .string t187] ?_
  with_reducible refine (word_joined.calls t186 (B_ #[32]) t187 t188 _ A24.out).mono ?_
  rintro e w' ⟨rfl, ⟨nd, rfl⟩⟩
  refine ⟨_, rfl, ?_⟩
  refine hK.out _ _ ⟨bc BK179.out 0, bc BK179.out 1, bc BK179.out 2, bc BK179.out 3, bc BK179.out 4, bc BK179.out 5, bc BK179.out 6⟩ (fun hHeld => ?_); clear hK K
  refine norm_ (a' := ?_) ?_ ?_; rotate_left
  ·show Act.put _ (some 29) _ = _
   simp only [Act.put, sa_, s0_, s1_, i64_w, i32_w]
   rfl
  refine pv 14 (some 4) HT_.out #[tt,tt,tt,tt,tt,tt,tt,tt,tt,tt,tt,tt,tt,tt,tt] ?_
  refine done_ (done_of HT_.out (by kernel_rfl)) ?_
  try go_wp2
  go_ret
  exact ⟨er, by exact bes HB.out⟩
 rw [if_neg c21] at H
 by_cases c29 : a0_6 = some 67; rotate_left
 ·rw [if_neg c29] at H
  exact absurd H (by simp)
 subst c29; replace H := ip H
 (try simp only [fnv_some]); replace H := bm H; obtain ⟨t189, A30, H⟩ := H; replace A30 := am A30; replace H := bm H; obtain ⟨t190, A31, H⟩ := H; replace A31 := am A31; replace H := bm H; obtain ⟨t191, A32, H⟩ := H; replace H : (some t191) = some r := H; replace A32 := am A32; obtain rfl := Option.some.inj H
 go_enter Tryd.func43, Tryd.ntmps43
 try go_wp2_with (first | ((with_reducible refine gate_dst (N := 2) rfl ?_); refine bx 2 #[.slice A0_0 l0_0.length c0_0, .slice A0_1 l0_1.length c0_1, .slice A0_2 l0_2.length c0_2, .slice A0_3 l0_3.length c0_3, fnv a0_4, fnv a0_5, .func (.func 67) #[] #[]] 59 ?_; intro gb179 hg w33 hbox hb; have BK179 := am hbox; have GW179 := gwm hg HB; have GE179 := gem hg HB; replace HB := bsp HB hb; clear hb hbox hg))
 replace BK179 := am (blk_drew BK179.out); replace HB := am (below_drew1 HB.out)
 refine start_ (n := 15) (S := fun w' => w'.cell? ⟨gb179, 0, none⟩ = some (.slice A0_0 l0_0.length c0_0) ∧ w'.cell? ⟨gb179, 1, none⟩ = some (.slice A0_1 l0_1.length c0_1) ∧ w'.cell? ⟨gb179, 2, none⟩ = some (.slice A0_2 l0_2.length c0_2) ∧ w'.cell? ⟨gb179, 3, none⟩ = some (.slice A0_3 l0_3.length c0_3) ∧ w'.cell? ⟨gb179, 4, none⟩ = some (fnv a0_4) ∧ w'.cell? ⟨gb179, 5, none⟩ = some (fnv a0_5) ∧ w'.cell? ⟨gb179, 6, none⟩ = some (.func (.func 67) #[] #[])) (ds := []) #[ff,ff,ff,ff,ff,ff,ff,ff,ff,ff,ff,ff,ff,ff,ff] (by kernel_rfl) rfl rfl ⟨bc BK179.out 0, bc BK179.out 1, bc BK179.out 2, bc BK179.out 3, bc BK179.out 4, bc BK179.out 5, bc BK179.out 6⟩ (fun hHeld => ?_); refine with_tabW word_tongue_text.tab5 word_tongue_text.bits5 (fun HT_ HW_ => ?_)
 generalize w33.drew = w34 at BK179 HB hHeld ⊢
 refine pv 0 (some 16) HT_.out #[tt,ff,ff,ff,ff,ff,ff,ff,ff,ff,ff,ff,ff,ff,ff] ?_
 refine pv 3 (some 19) HT_.out #[tt,ff,ff,tt,ff,ff,ff,ff,ff,ff,ff,ff,ff,ff,ff] ?_
 refine pv 4 (some 20) HT_.out #[tt,ff,ff,tt,tt,ff,ff,ff,ff,ff,ff,ff,ff,ff,ff] ?_
 refine pv 6 (some 22) HT_.out #[tt,ff,ff,tt,tt,ff,tt,ff,ff,ff,ff,ff,ff,ff,ff] ?_
 refine pv 7 (some 23) HT_.out #[tt,ff,ff,tt,tt,ff,tt,tt,ff,ff,ff,ff,ff,ff,ff] ?_
 refine pv 10 (some 26) HT_.out #[tt,ff,ff,tt,tt,ff,tt,tt,ff,ff,tt,ff,ff,ff,ff] ?_
 refine pv 11 (some 27) HT_.out #[tt,ff,ff,tt,tt,ff,tt,tt,ff,ff,tt,tt,ff,ff,ff] ?_
 refine tu 1 (some 17) ?_ #[tt,tt,ff,tt,tt,ff,tt,tt,ff,ff,tt,tt,ff,ff,ff] rfl rfl (ta HT_.out HW_.out) (fun _ _ _ h => h) (Or.inl ⟨by rfl, ?_⟩) hHeld ?_ ?_ ?_; rotate_left
 ·rintro w' ⟨s0, s1, s2, s3, s4, s5, s6⟩
  go_simp
  with_reducible rfl
 rotate_left; exact sp
 refine tu 2 (some 18) ?_ #[tt,tt,tt,tt,tt,ff,tt,tt,ff,ff,tt,tt,ff,ff,ff] rfl rfl (ta HT_.out HW_.out) (fun _ _ _ h => h) (Or.inl ⟨by rfl, ?_⟩) hHeld ?_ ?_ ?_; rotate_left
 ·rintro w' ⟨s0, s1, s2, s3, s4, s5, s6⟩
  go_simp
  with_reducible rfl
 rotate_left; exact sp
 refine tu 9 (some 25) ?_ #[tt,tt,tt,tt,tt,ff,tt,tt,ff,tt,tt,tt,ff,ff,ff] rfl rfl (ta HT_.out HW_.out) (fun _ _ _ h => h) (Or.inl ⟨by rfl, ?_⟩) hHeld ?_ ?_ ?_; rotate_left
 ·rintro w' ⟨s0, s1, s2, s3, s4, s5, s6⟩
  go_simp
  with_reducible rfl
 rotate_left; exact sp
 refine o1 5 (some 21) HT_.out #[tt,tt,tt,tt,tt,tt,tt,tt,ff,tt,tt,tt,ff,ff,ff] fun K hK => ?_
 refine gV Tryd.func47 #[.agg #[.slice A0_0 l0_0.length c0_0, .slice A0_1 l0_1.length c0_1, .slice A0_2 l0_2.length c0_2, .slice A0_3 l0_3.length c0_3, fnv a0_4, fnv a0_5, .func (.func 67) #[] #[]], .int .i64 (wrap64 (Int.tdiv a1 1000))] ?_
 with_reducible refine (word_tongue_small.calls k _ _ l0_0 _ _ l0_1 _ _ l0_2 _ _ l0_3 a0_4 a0_5 (some 67) (wrap64 (Int.tdiv a1 1000)) t182 _ ?_ ?_ ?_ ?_ ?_ ?_ ?_ ?_ A12.out).mono ?_
 exact C_st (Kd.C_below HR0_0.out HB.out)
 exact HC0_0.out
 exact C_st (Kd.C_below HR0_1.out HB.out)
 exact HC0_1.out
 exact C_st (Kd.C_below HR0_2.out HB.out)
 exact HC0_2.out
 exact C_st (Kd.C_below HR0_3.out HB.out)
 exact HC0_3.out
 rintro e w35 ⟨rfl, hb⟩
 refine ⟨_, rfl, ?_⟩; replace BK179 := kb BK179 hb; replace HB := bsp HB hb
 (try clear hb)
 (try clear hb2)
 (try clear hk)
 (try clear hi)
 refine hK.out _ _ ⟨bc BK179.out 0, bc BK179.out 1, bc BK179.out 2, bc BK179.out 3, bc BK179.out 4, bc BK179.out 5, bc BK179.out 6⟩ (fun hHeld => ?_); clear hK K
 refine norm_ (a' := ?_) ?_ ?_; rotate_left
 ·show Act.put _ (some 21) _ = _
  simp only [Act.put, sa_, s0_, s1_, i64_w, i32_w]
  rfl
 refine o1 8 (some 24) HT_.out #[tt,tt,tt,tt,tt,tt,tt,tt,tt,tt,tt,tt,ff,ff,ff] fun K hK => ?_
 refine gV Tryd.func67 #[.string t182, .int .i64 (wrap64 (Int.tdiv a1 1000))] ?_
 with_reducible refine (word_tongues_9.calls t182 (wrap64 (Int.tdiv a1 1000)) t189 _ A30.out).mono ?_
 rintro e w' ⟨rfl, ⟨nd, rfl⟩⟩
 refine ⟨_, rfl, ?_⟩
 refine hK.out _ _ ⟨bc BK179.out 0, bc BK179.out 1, bc BK179.out 2, bc BK179.out 3, bc BK179.out 4, bc BK179.out 5, bc BK179.out 6⟩ (fun hHeld => ?_); clear hK K
 refine norm_ (a' := ?_) ?_ ?_; rotate_left
 ·show Act.put _ (some 24) _ = _
  simp only [Act.put, sa_, s0_, s1_, i64_w, i32_w]
  rfl
 refine o1 12 (some 28) HT_.out #[tt,tt,tt,tt,tt,tt,tt,tt,tt,tt,tt,tt,tt,ff,ff] fun K hK => ?_
 refine gV Tryd.func47 #[.agg #[.slice A0_0 l0_0.length c0_0, .slice A0_1 l0_1.length c0_1, .slice A0_2 l0_2.length c0_2, .slice A0_3 l0_3.length c0_3, fnv a0_4, fnv a0_5, .func (.func 67) #[] #[]], .int .i64 (Int.tmod a1 1000)] ?_
 with_reducible refine (word_tongue_small.calls k _ _ l0_0 _ _ l0_1 _ _ l0_2 _ _ l0_3 a0_4 a0_5 (some 67) (Int.tmod a1 1000) t190 _ ?_ ?_ ?_ ?_ ?_ ?_ ?_ ?_ A31.out).mono ?_
 exact (Kd.C_below HR0_0.out (bes HB.out))
 exact HC0_0.out
 exact (Kd.C_below HR0_1.out (bes HB.out))
 exact HC0_1.out
 exact (Kd.C_below HR0_2.out (bes HB.out))
 exact HC0_2.out
 exact (Kd.C_below HR0_3.out (bes HB.out))
 exact HC0_3.out
 rintro e w36 ⟨rfl, hb⟩
 refine ⟨_, rfl, ?_⟩; replace BK179 := kb BK179 hb; replace HB := bsp HB hb
 (try clear hb)
 (try clear hb2)
 (try clear hk)
 (try clear hi)
 refine hK.out _ _ ⟨bc BK179.out 0, bc BK179.out 1, bc BK179.out 2, bc BK179.out 3, bc BK179.out 4, bc BK179.out 5, bc BK179.out 6⟩ (fun hHeld => ?_); clear hK K
 refine norm_ (a' := ?_) ?_ ?_; rotate_left
 ·show Act.put _ (some 28) _ = _
  simp only [Act.put, sa_, s0_, s1_, i64_w, i32_w]
  rfl
 refine o1 13 (some 29) HT_.out #[tt,tt,tt,tt,tt,tt,tt,tt,tt,tt,tt,tt,tt,tt,ff] fun K hK => ?_
 refine gV Tryd.func59 #[.string t189, .string (B_ #[32]), .string t190] ?_
 with_reducible refine (word_joined.calls t189 (B_ #[32]) t190 t191 _ A32.out).mono ?_
 rintro e w' ⟨rfl, ⟨nd, rfl⟩⟩
 refine ⟨_, rfl, ?_⟩
 refine hK.out _ _ ⟨bc BK179.out 0, bc BK179.out 1, bc BK179.out 2, bc BK179.out 3, bc BK179.out 4, bc BK179.out 5, bc BK179.out 6⟩ (fun hHeld => ?_); clear hK K
 refine norm_ (a' := ?_) ?_ ?_; rotate_left
 ·show Act.put _ (some 29) _ = _
  simp only [Act.put, sa_, s0_, s1_, i64_w, i32_w]
  rfl
 refine pv 14 (some 4) HT_.out #[tt,tt,tt,tt,tt,tt,tt,tt,tt,tt,tt,tt,tt,tt,tt] ?_
 refine done_ (done_of HT_.out (by kernel_rfl)) ?_
 try go_wp2
 go_ret
 exact ⟨er, by exact bes HB.out⟩

/-! ### word_Words: function 18 -/
def word_Words.j0 : Nat → Int → Int → Bool → Option (List ByteArray × Int)
 | 0, _, _, _ => none
 | k + 1, x0, x1, x16 => if x16 = true then (some (([] : List ByteArray), 110)) else ((word_tongues.f x0).bind fun bt193 => ((word_tongue_text.f k bt193.1 bt193.2.1 bt193.2.2.1 bt193.2.2.2.1 bt193.2.2.2.2.1 bt193.2.2.2.2.2.1 bt193.2.2.2.2.2.2 x1).bind fun t208 => ((strings_Fields.f t208).bind fun t209 => (some (t209, 0)))))
def word_Words.f (k : Nat) (a0 : Int) (a1 : Int) : Option (List ByteArray × Int) := (word_known.f a0).bind fun t192 => (if t192 = true then (if a1 < 0 then (word_Words.j0 k a0 a1 true) else (word_Words.j0 k a0 a1 (decide (a1 > 999999)))) else (word_Words.j0 k a0 a1 true))
theorem word_Words.mono_l : ∀ k, (∀ y0 y1 y2, LeO (word_Words.j0 k y0 y1 y2) (word_Words.j0 (k + 1) y0 y1 y2))
 | 0 => fun _ _ _ r h => by simp [word_Words.j0] at h
 | k + 1 => by
  have ih0 := word_Words.mono_l k
  intro y0 y1 y2
  unfold word_Words.j0
  repeat' first
  | (with_reducible exact ih0 _ _ _)
  | (with_reducible exact word_tongue_text.mono _ _ _ _ _ _ _ _ _)
  | (with_reducible exact LeO.refl _)
  | (with_reducible exact LeO.none _)
  | (with_reducible refine LeO.ite ?_ ?_)
  | (with_reducible refine LeO.bind ?_ (fun _ => ?_))
theorem word_Words.mono : ∀ a0 a1 k, LeO (word_Words.f k a0 a1) (word_Words.f (k + 1) a0 a1) := by
 intro a0 a1 k; have ih0 := word_Words.mono_l k
 unfold word_Words.f
 repeat' first
   | (with_reducible exact ih0 _ _ _)
   | (with_reducible exact word_tongue_text.mono _ _ _ _ _ _ _ _ _)
   | (with_reducible exact LeO.refl _)
   | (with_reducible exact LeO.none _)
   | (with_reducible refine LeO.ite ?_ ?_)
   | (with_reducible refine LeO.bind ?_ (fun _ => ?_))
theorem word_Words.calls (k : Nat) (a0 : Int) (a1 : Int) (r1 : List ByteArray) (r2 : Int) (w : World) (hL_ : LW w) (h : word_Words.f k a0 a1 = some (r1, r2)) :
  Calls Tryd.prog 18 #[.int .i64 a0, .int .i64 a1] w fun e w' => ∃ v0_ : Value, e = .returned (.tuple #[v0_, .int .i64 r2]) ∧ Kd.R Kd.string 9 w' w.heap.size (fun _ => True) v0_ r1 ∧ Below w.heap.size w w' := by
 have HLW := am hL_; clear hL_; have HB := am (Below.refl w.heap.size w)
 have H := h; clear h; unfold word_Words.f at H; have HC3 := am H; clear H
 go_enter Tryd.func18, Tryd.ntmps18
 go_upto_region 1 with (fail)
 go_cut [16] (fun v16 wc => ∃ (kq : Nat) (x16_2 : Bool), v16 = .bool x16_2 ∧ Aside0 (word_Words.j0 kq a0 a1 x16_2 = some (r1, r2)) ∧ Aside0 (kq ≤ k) ∧ Aside0 (Below w.heap.size w wc))
 case first =>
  have H := HC3.out; clear HC3; replace H := bm H; obtain ⟨t192, A4, H⟩ := H; replace A4 := am A4
  by_cases c5 : t192 = true; rotate_left
  ·replace c5 := Bool.eq_false_iff.mpr c5
   subst c5; replace H := inn H
   have H' := am H; clear H
   go_wp2_with (first | ((with_reducible refine gate_callee (f := 35) rfl ?_); refine gL (some 7) rfl rfl Tryd.func35 #[.int .i64 a0] ?_; (refine (word_known.calls a0 false _ A4.out).mono ?_); rintro e w' ⟨rfl, ⟨nd, rfl⟩⟩; refine ⟨_, rfl, ?_⟩))
   go_meet
   case rel => exact ⟨_, (true), cd, H', ⟨om⟩, ⟨by exact bes HB.out⟩⟩
  subst c5; replace H := ip H
  by_cases c6 : a1 < 0
  ·rw [if_pos c6] at H
   have c6b0 := dT c6; clear c6
   (first | rw [c6b0] | (simp only [i64_w, i32_w]; rw [c6b0]) | skip)
   have H' := am H; clear H
   go_wp2_with (first | ((with_reducible refine gate_callee (f := 35) rfl ?_); refine gL (some 7) rfl rfl Tryd.func35 #[.int .i64 a0] ?_; (refine (word_known.calls a0 true _ A4.out).mono ?_); rintro e w' ⟨rfl, ⟨nd, rfl⟩⟩; refine ⟨_, rfl, ?_⟩))
   go_meet
   case rel => exact ⟨_, (true), cd, H', ⟨om⟩, ⟨by exact bes HB.out⟩⟩
  rw [if_neg c6] at H
  have c6b0 := dF c6; clear c6
  (first | rw [c6b0] | (simp only [i64_w, i32_w]; rw [c6b0]) | skip)
  have H' := am H; clear H
  go_wp2_with (first | ((with_reducible refine gate_callee (f := 35) rfl ?_); refine gL (some 7) rfl rfl Tryd.func35 #[.int .i64 a0] ?_; (refine (word_known.calls a0 true _ A4.out).mono ?_); rintro e w' ⟨rfl, ⟨nd, rfl⟩⟩; refine ⟨_, rfl, ?_⟩))
  go_meet
  case rel => exact ⟨_, (decide (a1 > 999999)), cd, H', ⟨om⟩, ⟨by exact bes HB.out⟩⟩
 clear HC3
 try clear c1
 try clear p2
 try clear c3
 try clear c5
 try clear c6
 try clear c6b0
 obtain ⟨kq, x16_2, rfl, HA, HJ2, HB⟩ := hcut
 cases kq with
 | zero => exact absurd HA.out (by simp [word_Words.j0])
 | succ kj2 =>
  have H := HA.out; clear HA; simp only [word_Words.j0] at H
  by_cases c7 : x16_2 = true
  ·subst c7
   replace H := ip H
   simp only [Option.some.injEq, Prod.mk.injEq] at H; obtain ⟨rfl, rfl⟩ := H
   go_wp2
   go_ret2
   exact ⟨_, er, nil0, by exact bes HB.out⟩
  replace c7 := Bool.eq_false_iff.mpr c7; subst c7; replace H := inn H
  replace H := bm H; obtain ⟨⟨t193, t196, t199, t202, t205, t206, t207⟩, A80, H⟩ := H; replace H : ((word_tongue_text.f kj2 t193 t196 t199 t202 t205 t206 t207 a1).bind fun t208 => ((strings_Fields.f t208).bind fun t209 => (some (t209, 0)))) = some (r1, r2) := H; have A8 := am A80; clear A80; replace H := bm H; obtain ⟨t208, A9, H⟩ := H; replace A9 := am A9; replace H := bm H; obtain ⟨t209, A10, H⟩ := H; replace A10 := am A10; simp only [Option.some.injEq, Prod.mk.injEq] at H; obtain ⟨rfl, rfl⟩ := H
  go_wp2_with (first | ((with_reducible refine gate_callee (f := 36) rfl ?_); refine gL (some 18) rfl rfl Tryd.func36 #[.int .i64 a0] ?_; (refine (word_tongues.calls a0 t193 t196 t199 t202 t205 t206 t207 _ A8.out).mono ?_); rintro e w11 ⟨v194, v197, v200, v203, rfl, ho0, ho1, ho2, ho3, hb⟩; refine ⟨_, rfl, ?_⟩; have HO195 := am (Kd.R_lower ho0 (below_size (bes HB.out))); have HO198 := am (Kd.R_lower ho1 (below_size (bes HB.out))); have HO201 := am (Kd.R_lower ho2 (below_size (bes HB.out))); have HO204 := am (Kd.R_lower ho3 (below_size (bes HB.out))); replace HB := bsp HB hb; (try clear hb); (try clear ho0); (try clear ho1); (try clear ho2); (try clear ho3); obtain ⟨Ao12, co12, eo12⟩ := Kd.R_slice HO195.out; subst eo12; obtain ⟨Ao13, co13, eo13⟩ := Kd.R_slice HO198.out; subst eo13; obtain ⟨Ao14, co14, eo14⟩ := Kd.R_slice HO201.out; subst eo14; obtain ⟨Ao15, co15, eo15⟩ := Kd.R_slice HO204.out; subst eo15) | ((with_reducible refine gate_callee (f := 43) rfl ?_); refine gL (some 20) rfl rfl Tryd.func43 #[.agg #[.slice Ao12 t193.length co12, .slice Ao13 t196.length co13, .slice Ao14 t199.length co14, .slice Ao15 t202.length co15, fnv t205, fnv t206, fnv t207], .int .i64 a1] ?_; (refine (word_tongue_text.calls kj2 _ _ t193 _ _ t196 _ _ t199 _ _ t202 t205 t206 t207 a1 t208 _ ?_ ?_ ?_ ?_ ?_ ?_ ?_ ?_ A9.out).mono ?_); exact C_st ((Kd.R_reads' HO195.out).2.2); exact (Kd.R_reads' HO195.out).2.1; exact C_st ((Kd.R_reads' HO198.out).2.2); exact (Kd.R_reads' HO198.out).2.1; exact C_st ((Kd.R_reads' HO201.out).2.2); exact (Kd.R_reads' HO201.out).2.1; exact C_st ((Kd.R_reads' HO204.out).2.2); exact (Kd.R_reads' HO204.out).2.1; rintro e w16 ⟨rfl, hb⟩; refine ⟨_, rfl, ?_⟩; replace HO195 := rb HO195 hb; replace HO198 := rb HO198 hb; replace HO201 := rb HO201 hb; replace HO204 := rb HO204 hb; replace HB := bsp HB hb; (try clear hb)) | ((with_reducible refine gate_callee (f := 42) rfl ?_); refine gL (some 21) rfl rfl Tryd.func42 #[.string t208] ?_; (refine (strings_Fields.calls t208 t209 _ ?_ A10.out).mono ?_); exact LW.below HLW.out (bes HB.out); rintro e w17 ⟨v210, rfl, ho0, hb⟩; refine ⟨_, rfl, ?_⟩; have HO211 := am (Kd.R_lower (Kd.R_new' (Kd.R_new' (Kd.R_new' (Kd.R_new' ho0 (Kd.R_lt (R_st HO195.out))) (Kd.R_lt (R_st HO198.out))) (Kd.R_lt (R_st HO201.out))) (Kd.R_lt (R_st HO204.out))) (below_size (bes HB.out))); replace HO195 := am (Kd.R_elder' (R_st HO195.out) (Kd.R_base ho0) hb); replace HO198 := am (Kd.R_elder' (R_st HO198.out) (Kd.R_base ho0) hb); replace HO201 := am (Kd.R_elder' (R_st HO201.out) (Kd.R_base ho0) hb); replace HO204 := am (Kd.R_elder' (R_st HO204.out) (Kd.R_base ho0) hb); replace HB := bsp HB hb; (try clear hb); (try clear ho0)))
  go_ret2
  exact ⟨_, er, by exact R_st (Kd.R_mono HO211.out (fun _ hk => trivial)), by exact bes HB.out⟩

/-! ### stringslite_CutSuffix: function 80 -/
def stringslite_CutSuffix.f (a0 : ByteArray) (a1 : ByteArray) : Option (ByteArray × Bool) := (stringslite_HasSuffix.f a0 a1).bind fun t212 => (if t212 = true then (if 0 ≤ (wrap64 ((a0.size : Int) - (a1.size : Int))) then (if (wrap64 ((a0.size : Int) - (a1.size : Int))) ≤ (a0.size : Int) then (some (a0.extract 0 ((wrap64 ((a0.size : Int) - (a1.size : Int))) : Int).toNat, true)) else (none)) else (none)) else (some (a0, false)))
theorem stringslite_CutSuffix.calls (a0 : ByteArray) (a1 : ByteArray) (r1 : ByteArray) (r2 : Bool) (w : World) (h : stringslite_CutSuffix.f a0 a1 = some (r1, r2)) :
  Calls Tryd.prog 80 #[.string a0, .string a1] w fun e w' => e = .returned (.tuple #[.string r1, .bool r2]) ∧ Drawn0 w w' := by
 have H := h; clear h; unfold stringslite_CutSuffix.f at H; replace H := bm H; obtain ⟨t212, A3, H⟩ := H; replace A3 := am A3
 by_cases c4 : t212 = true; rotate_left
 ·replace c4 := Bool.eq_false_iff.mpr c4
  subst c4; replace H := inn H
  simp only [Option.some.injEq, Prod.mk.injEq] at H; obtain ⟨rfl, rfl⟩ := H
  go_enter Tryd.func80, Tryd.ntmps80
  go_wp2_with (first | ((with_reducible refine gate_callee (f := 86) rfl ?_); refine gL (some 8) rfl rfl Tryd.func86 #[.string a0, .string a1] ?_; (refine (stringslite_HasSuffix.calls a0 a1 false _ A3.out).mono ?_); rintro e w' ⟨rfl, ⟨nd, rfl⟩⟩; refine ⟨_, rfl, ?_⟩))
  go_ret2
  exact ⟨by first | rfl | (simp; done) | (simp [*]; done), by repeat (first | exact Drawn0.refl _ | apply Drawn0.step)⟩
 subst c4; replace H := ip H
 obtain ⟨ji5, hji5⟩ : ∃ j_ : Int, (wrap64 ((a0.size : Int) - (a1.size : Int))) = j_ := ⟨_, rfl⟩; replace H : (if 0 ≤ (ji5) then (if (ji5) ≤ (a0.size : Int) then (some (a0.extract 0 ((ji5) : Int).toNat, true)) else (none)) else (none)) = some (r1, r2) := by first | (rw [hji5] at H; exact H) | (simp only [hji5] at H ⊢; exact H)
 (try rw [hji5] at A3)
 have hji5w : (IntKind.i64.wrap ((a0.size : Int) - (a1.size : Int))) = ji5 := (i64_w _).trans hji5
 by_cases c6 : 0 ≤ (ji5); rotate_left
 ·rw [if_neg c6] at H
  exact absurd H (by simp)
 rw [if_pos c6] at H; have c6b0 := eq_true c6
 have c6b1 := dT c6; clear c6
 by_cases c7 : (ji5) ≤ (a0.size : Int)
 ·rw [if_pos c7] at H
  have c7b0 := eq_true c7
  have c7b1 := dT c7; clear c7; simp only [Option.some.injEq, Prod.mk.injEq] at H; obtain ⟨rfl, rfl⟩ := H
  go_enter Tryd.func80, Tryd.ntmps80
  go_wp2_with (first | ((with_reducible refine gate_callee (f := 86) rfl ?_); refine gL (some 8) rfl rfl Tryd.func86 #[.string a0, .string a1] ?_; (refine (stringslite_HasSuffix.calls a0 a1 true _ A3.out).mono ?_); rintro e w' ⟨rfl, ⟨nd, rfl⟩⟩; refine ⟨_, rfl, ?_⟩))
  go_ret2
  exact ⟨by first | rfl | (simp; done) | (simp only [← hji5] <;> (first | rfl | simp)) | (simp [*]; done), by repeat (first | exact Drawn0.refl _ | apply Drawn0.step)⟩
 rw [if_neg c7] at H
 exact absurd H (by simp)

/-! ### strings_CutSuffix: function 68 -/
def strings_CutSuffix.f (a0 : ByteArray) (a1 : ByteArray) : Option (ByteArray × Bool) := (stringslite_CutSuffix.f a0 a1).bind fun bt213 => (some (bt213.1, bt213.2))
theorem strings_CutSuffix.calls (a0 : ByteArray) (a1 : ByteArray) (r1 : ByteArray) (r2 : Bool) (w : World) (h : strings_CutSuffix.f a0 a1 = some (r1, r2)) :
  Calls Tryd.prog 68 #[.string a0, .string a1] w fun e w' => e = .returned (.tuple #[.string r1, .bool r2]) ∧ Drawn0 w w' := by
 have H := h; clear h; unfold strings_CutSuffix.f at H; replace H := bm H; obtain ⟨⟨t213, t214⟩, A30, H⟩ := H; replace H : (some (t213, t214)) = some (r1, r2) := H; have A3 := am A30; clear A30; simp only [Option.some.injEq, Prod.mk.injEq] at H; obtain ⟨rfl, rfl⟩ := H
 go_enter Tryd.func68, Tryd.ntmps68
 go_wp2_with (first | ((with_reducible refine gate_callee (f := 80) rfl ?_); refine gL (some 8) rfl rfl Tryd.func80 #[.string a0, .string a1] ?_; (refine (stringslite_CutSuffix.calls a0 a1 t213 t214 _ A3.out).mono ?_); rintro e w' ⟨rfl, ⟨nd, rfl⟩⟩; refine ⟨_, rfl, ?_⟩))
 go_ret2
 exact ⟨by first | rfl | (simp; done) | (simp [*]; done), by repeat (first | exact Drawn0.refl _ | apply Drawn0.step)⟩

/-! ### word_tongue_rest: function 72 -/
mutual
def word_tongue_rest.l0 : Nat → ByteArray → Int → Int → List ByteArray → List ByteArray → List ByteArray → List ByteArray → Option Nat → Option Nat → Option Nat → Option (Int × Bool)
 | 0, _, _, _, _, _, _, _, _, _, _ => none
 | k + 1, x1, x28, x29, a, b, c, d, e, f, g => if x29 < x28 then (word_tongue_rest.l1 k x1 x29 1 x28 x29 a b c d e f g) else (some (0, false))
def word_tongue_rest.l1 : Nat → ByteArray → Int → Int → Int → Int → List ByteArray → List ByteArray → List ByteArray → List ByteArray → Option Nat → Option Nat → Option Nat → Option (Int × Bool)
 | 0, _, _, _, _, _, _, _, _, _, _, _, _ => none
 | k + 1, x1, x8, x9, x28, x29, a, b, c, d, e, g, h => if x9 < 10 then (if e = some 57 then ((word_tongues_1.f a b c d (some 57) g h x8 x9).bind fun t218 => (word_tongue_rest.j2 k x1 x8 x9 x28 x29 (t218.toList == x1.toList) a b c d (some 57) g h)) else (if e = some 61 then ((word_tongues_4.f a b c d (some 61) g h x8 x9).bind fun t219 => (word_tongue_rest.j2 k x1 x8 x9 x28 x29 (t219.toList == x1.toList) a b c d (some 61) g h)) else (if e = some 65 then ((word_tongues_7.f a b c d (some 65) g h x8 x9).bind fun t220 => (word_tongue_rest.j2 k x1 x8 x9 x28 x29 (t220.toList == x1.toList) a b c d (some 65) g h)) else (none)))) else (word_tongue_rest.l0 k x1 x28 (wrap64 (x29 + 1)) a b c d e g h)
def word_tongue_rest.j2 : Nat → ByteArray → Int → Int → Int → Int → Bool → List ByteArray → List ByteArray → List ByteArray → List ByteArray → Option Nat → Option Nat → Option Nat → Option (Int × Bool)
 | 0, _, _, _, _, _, _, _, _, _, _, _, _, _ => none
 | k + 1, x1, x8, x9, x28, x29, x43, a, b, c, d, e, f, g => if x43 = true then (some (wrap64 ((wrap64 (20 + (wrap64 (10 * x8)))) + x9), true)) else (word_tongue_rest.l1 k x1 x8 (wrap64 (x9 + 1)) x28 x29 a b c d e f g)
end
def word_tongue_rest.f (k : Nat) (l0_0 : List ByteArray) (l0_1 : List ByteArray) (l0_2 : List ByteArray) (l0_3 : List ByteArray) (a0_4 : Option Nat) (a0_5 : Option Nat) (a0_6 : Option Nat) (a1 : ByteArray) : Option (Int × Bool) := (XL.slices_Index_string_string.f k l0_0 a1).bind fun t216 => (if t216 > 0 then (some (t216, true)) else ((XL.slices_Index_string_string.f k l0_1 a1).bind fun t217 => (if t217 ≥ 0 then (some (wrap64 (20 + (wrap64 (10 * t217))), true)) else (word_tongue_rest.l0 k a1 (l0_1.length : Int) 0 l0_0 l0_1 l0_2 l0_3 a0_4 a0_5 a0_6))))
theorem word_tongue_rest.mono_l : ∀ k, (∀ y0 y1 y2 y3 y4 y5 y6 y7 y8 y9, LeO (word_tongue_rest.l0 k y0 y1 y2 y3 y4 y5 y6 y7 y8 y9) (word_tongue_rest.l0 (k + 1) y0 y1 y2 y3 y4 y5 y6 y7 y8 y9)) ∧ (∀ y0 y1 y2 y3 y4 y5 y6 y7 y8 y9 y10 y11, LeO (word_tongue_rest.l1 k y0 y1 y2 y3 y4 y5 y6 y7 y8 y9 y10 y11) (word_tongue_rest.l1 (k + 1) y0 y1 y2 y3 y4 y5 y6 y7 y8 y9 y10 y11)) ∧ (∀ y0 y1 y2 y3 y4 y5 y6 y7 y8 y9 y10 y11 y12, LeO (word_tongue_rest.j2 k y0 y1 y2 y3 y4 y5 y6 y7 y8 y9 y10 y11 y12) (word_tongue_rest.j2 (k + 1) y0 y1 y2 y3 y4 y5 y6 y7 y8 y9 y10 y11 y12))
 | 0 => ⟨fun _ _ _ _ _ _ _ _ _ _ r h => by simp [word_tongue_rest.l0] at h, fun _ _ _ _ _ _ _ _ _ _ _ _ r h => by simp [word_tongue_rest.l1] at h, fun _ _ _ _ _ _ _ _ _ _ _ _ _ r h => by simp [word_tongue_rest.j2] at h⟩
 | k + 1 => by
  obtain ⟨ih0, ih1, ih2⟩ := word_tongue_rest.mono_l k
  refine ⟨?_, ?_, ?_⟩
  all_goals
   intros; first | unfold word_tongue_rest.l0 | unfold word_tongue_rest.l1 | unfold word_tongue_rest.j2
   repeat' first
   | (with_reducible exact ih0 _ _ _ _ _ _ _ _ _ _)
   | (with_reducible exact ih1 _ _ _ _ _ _ _ _ _ _ _ _)
   | (with_reducible exact ih2 _ _ _ _ _ _ _ _ _ _ _ _ _)
   | (with_reducible exact XL.slices_Index_string_string.mono _ _ _)
   | (with_reducible exact LeO.refl _)
   | (with_reducible exact LeO.none _)
   | (with_reducible refine LeO.ite ?_ ?_)
   | (with_reducible refine LeO.bind ?_ (fun _ => ?_))
theorem word_tongue_rest.mono : ∀ a0 a1 a2 a3 a4 a5 a6 a7 k, LeO (word_tongue_rest.f k a0 a1 a2 a3 a4 a5 a6 a7) (word_tongue_rest.f (k + 1) a0 a1 a2 a3 a4 a5 a6 a7) := by
 intro a0 a1 a2 a3 a4 a5 a6 a7 k; obtain ⟨ih0, ih1, ih2⟩ := word_tongue_rest.mono_l k
 unfold word_tongue_rest.f
 repeat' first
   | (with_reducible exact ih0 _ _ _ _ _ _ _ _ _ _)
   | (with_reducible exact ih1 _ _ _ _ _ _ _ _ _ _ _ _)
   | (with_reducible exact ih2 _ _ _ _ _ _ _ _ _ _ _ _ _)
   | (with_reducible exact XL.slices_Index_string_string.mono _ _ _)
   | (with_reducible exact LeO.refl _)
   | (with_reducible exact LeO.none _)
   | (with_reducible refine LeO.ite ?_ ?_)
   | (with_reducible refine LeO.bind ?_ (fun _ => ?_))
theorem word_tongue_rest.calls (k : Nat) (A0_0 : Option Addr) (c0_0 : Nat) (l0_0 : List ByteArray) (A0_1 : Option Addr) (c0_1 : Nat) (l0_1 : List ByteArray) (A0_2 : Option Addr) (c0_2 : Nat) (l0_2 : List ByteArray) (A0_3 : Option Addr) (c0_3 : Nat) (l0_3 : List ByteArray) (a0_4 : Option Nat) (a0_5 : Option Nat) (a0_6 : Option Nat) (a1 : ByteArray) (r1 : Int) (r2 : Bool) (w : World) (hr0_0 : Kd.C Kd.string w A0_0 l0_0.length l0_0) (hc0_0 : l0_0.length ≤ c0_0) (hr0_1 : Kd.C Kd.string w A0_1 l0_1.length l0_1) (hc0_1 : l0_1.length ≤ c0_1) (hr0_2 : Kd.C Kd.string w A0_2 l0_2.length l0_2) (hc0_2 : l0_2.length ≤ c0_2) (hr0_3 : Kd.C Kd.string w A0_3 l0_3.length l0_3) (hc0_3 : l0_3.length ≤ c0_3) (h : word_tongue_rest.f k l0_0 l0_1 l0_2 l0_3 a0_4 a0_5 a0_6 a1 = some (r1, r2)) :
  Calls Tryd.prog 72 #[.agg #[.slice A0_0 l0_0.length c0_0, .slice A0_1 l0_1.length c0_1, .slice A0_2 l0_2.length c0_2, .slice A0_3 l0_3.length c0_3, fnv a0_4, fnv a0_5, fnv a0_6], .string a1] w fun e w' => e = .returned (.tuple #[.int .i64 r1, .bool r2]) ∧ Below w.heap.size w w' := by
 have hu59 := Tryd.underlying59; have HR0_0 := am hr0_0; have HC0_0 := am hc0_0; clear hr0_0 hc0_0; have HR0_1 := am hr0_1; have HC0_1 := am hc0_1; clear hr0_1 hc0_1; have HR0_2 := am hr0_2; have HC0_2 := am hc0_2; clear hr0_2 hc0_2; have HR0_3 := am hr0_3; have HC0_3 := am hc0_3; clear hr0_3 hc0_3; have HB := am (Below.refl w.heap.size w)
 have H := h; clear h; unfold word_tongue_rest.f at H; replace H := bm H; obtain ⟨t216, A3, H⟩ := H; replace A3 := am A3
 by_cases c4 : t216 > 0
 ·rw [if_pos c4] at H
  have c4b0 := dT c4; clear c4; simp only [Option.some.injEq, Prod.mk.injEq] at H; obtain ⟨rfl, rfl⟩ := H
  go_enter Tryd.func72, Tryd.ntmps72
  go_wp2_with (first | ((with_reducible refine gate_dst (N := 2) rfl ?_); refine bx 2 #[.slice A0_0 l0_0.length c0_0, .slice A0_1 l0_1.length c0_1, .slice A0_2 l0_2.length c0_2, .slice A0_3 l0_3.length c0_3, fnv a0_4, fnv a0_5, fnv a0_6] 59 ?_; intro gb215 hg w5 hbox hb; have BK215 := am hbox; have GW215 := gwm hg HB; have GE215 := gem hg HB; replace HB := bsp HB hb; clear hb hbox hg; have Z6_0 := z0 BK215.out; have Z6_1 := z1 BK215.out; have Z6_2 := z2 BK215.out; have Z6_3 := z3 BK215.out; have Z6_4 := z4 BK215.out; have Z6_5 := z5 BK215.out; have Z6_6 := z6 BK215.out; have F6_0 := fz BK215.out 0; have F6_1 := fz BK215.out 1; have F6_2 := fz BK215.out 2; have F6_3 := fz BK215.out 3; have F6_4 := fz BK215.out 4; have F6_5 := fz BK215.out 5; have F6_6 := fz BK215.out 6) | ((with_reducible refine gate_callee (f := 77) rfl ?_); refine gL (some 13) rfl rfl Tryd.func77 #[.slice A0_0 l0_0.length c0_0, .string a1] ?_; (refine (XL.slices_Index_string_string.calls k _ _ l0_0 a1 t216 _ ?_ ?_ A3.out).mono ?_); exact C_st (Kd.C_below HR0_0.out HB.out); exact HC0_0.out; rintro e w' ⟨rfl, ⟨nd, rfl⟩⟩; refine ⟨_, rfl, ?_⟩))
  go_ret2
  exact ⟨er, by exact bes HB.out⟩
 rw [if_neg c4] at H
 have c4b0 := dF c4; clear c4; replace H := bm H; obtain ⟨t217, A7, H⟩ := H; replace A7 := am A7
 by_cases c8 : t217 ≥ 0
 ·rw [if_pos c8] at H
  have c8b0 := dT c8; clear c8; simp only [Option.some.injEq, Prod.mk.injEq] at H; obtain ⟨rfl, rfl⟩ := H
  go_enter Tryd.func72, Tryd.ntmps72
  go_wp2_with (first | ((with_reducible refine gate_dst (N := 2) rfl ?_); refine bx 2 #[.slice A0_0 l0_0.length c0_0, .slice A0_1 l0_1.length c0_1, .slice A0_2 l0_2.length c0_2, .slice A0_3 l0_3.length c0_3, fnv a0_4, fnv a0_5, fnv a0_6] 59 ?_; intro gb215 hg w9 hbox hb; have BK215 := am hbox; have GW215 := gwm hg HB; have GE215 := gem hg HB; replace HB := bsp HB hb; clear hb hbox hg; have Z10_0 := z0 BK215.out; have Z10_1 := z1 BK215.out; have Z10_2 := z2 BK215.out; have Z10_3 := z3 BK215.out; have Z10_4 := z4 BK215.out; have Z10_5 := z5 BK215.out; have Z10_6 := z6 BK215.out; have F10_0 := fz BK215.out 0; have F10_1 := fz BK215.out 1; have F10_2 := fz BK215.out 2; have F10_3 := fz BK215.out 3; have F10_4 := fz BK215.out 4; have F10_5 := fz BK215.out 5; have F10_6 := fz BK215.out 6) | ((with_reducible refine gate_callee (f := 77) rfl ?_); refine gL (some 13) rfl rfl Tryd.func77 #[.slice A0_0 l0_0.length c0_0, .string a1] ?_; (with_reducible refine (XL.slices_Index_string_string.calls k _ _ l0_0 a1 t216 _ ?_ ?_ A3.out).mono ?_); exact C_st (Kd.C_below HR0_0.out HB.out); exact HC0_0.out; rintro e w' ⟨rfl, ⟨nd, rfl⟩⟩; refine ⟨_, rfl, ?_⟩) | ((with_reducible refine gate_callee (f := 77) rfl ?_); refine gL (some 20) rfl rfl Tryd.func77 #[.slice A0_1 l0_1.length c0_1, .string a1] ?_; (with_reducible refine (XL.slices_Index_string_string.calls k _ _ l0_1 a1 t217 _ ?_ ?_ A7.out).mono ?_); exact (Kd.C_below HR0_1.out (bes HB.out)); exact HC0_1.out; rintro e w' ⟨rfl, ⟨nd, rfl⟩⟩; refine ⟨_, rfl, ?_⟩))
  go_ret2
  exact ⟨er, by exact bes HB.out⟩
 rw [if_neg c8] at H
 have c8b0 := dF c8; clear c8
 have H' := am H; clear H
 go_enter Tryd.func72, Tryd.ntmps72
 go_wp2_with (first | ((with_reducible refine gate_dst (N := 2) rfl ?_); refine bx 2 #[.slice A0_0 l0_0.length c0_0, .slice A0_1 l0_1.length c0_1, .slice A0_2 l0_2.length c0_2, .slice A0_3 l0_3.length c0_3, fnv a0_4, fnv a0_5, fnv a0_6] 59 ?_; intro gb215 hg w11 hbox hb; have BK215 := am hbox; have GW215 := gwm hg HB; have GE215 := gem hg HB; replace HB := bsp HB hb; clear hb hbox hg; have Z12_0 := z0 BK215.out; have Z12_1 := z1 BK215.out; have Z12_2 := z2 BK215.out; have Z12_3 := z3 BK215.out; have Z12_4 := z4 BK215.out; have Z12_5 := z5 BK215.out; have Z12_6 := z6 BK215.out; have F12_0 := fz BK215.out 0; have F12_1 := fz BK215.out 1; have F12_2 := fz BK215.out 2; have F12_3 := fz BK215.out 3; have F12_4 := fz BK215.out 4; have F12_5 := fz BK215.out 5; have F12_6 := fz BK215.out 6) | ((with_reducible refine gate_callee (f := 77) rfl ?_); refine gL (some 13) rfl rfl Tryd.func77 #[.slice A0_0 l0_0.length c0_0, .string a1] ?_; (with_reducible refine (XL.slices_Index_string_string.calls k _ _ l0_0 a1 t216 _ ?_ ?_ A3.out).mono ?_); exact C_st (Kd.C_below HR0_0.out HB.out); exact HC0_0.out; rintro e w' ⟨rfl, ⟨nd, rfl⟩⟩; refine ⟨_, rfl, ?_⟩) | ((with_reducible refine gate_callee (f := 77) rfl ?_); refine gL (some 20) rfl rfl Tryd.func77 #[.slice A0_1 l0_1.length c0_1, .string a1] ?_; (with_reducible refine (XL.slices_Index_string_string.calls k _ _ l0_1 a1 t217 _ ?_ ?_ A7.out).mono ?_); exact (Kd.C_below HR0_1.out (bes HB.out)); exact HC0_1.out; rintro e w' ⟨rfl, ⟨nd, rfl⟩⟩; refine ⟨_, rfl, ?_⟩))
 go_loopg [29] k (fun kq v29 w' => ∃ (x29_1 : Int), v29 = .int .i64 x29_1 ∧ Aside0 (word_tongue_rest.l0 kq a1 (l0_1.length : Int) x29_1 l0_0 l0_1 l0_2 l0_3 a0_4 a0_5 a0_6 = some (r1, r2)) ∧ Aside0 (kq ≤ k) ∧ Aside0 (w'.heap[gb215]? = some (.cells #[(.slice A0_0 l0_0.length c0_0), (.slice A0_1 l0_1.length c0_1), (.slice A0_2 l0_2.length c0_2), (.slice A0_3 l0_3.length c0_3), fnv a0_4, fnv a0_5, fnv a0_6] 59 (0, 0))) ∧ Aside0 (Below w.heap.size w w'))
 case atStart => exact ⟨(0), cd, H', ⟨Nat.le_refl _⟩, ⟨by exact blk_st BK215.out⟩, ⟨by exact bes HB.out⟩⟩
 clear H'
 try clear p2
 try clear c4
 try clear c4b0
 try clear p6
 try clear c7
 try clear c8
 try clear c8b0
 try clear Z10_0 Z10_1 Z10_2 Z10_3 Z10_4 Z10_5 Z10_6
 try clear Z12_0 Z12_1 Z12_2 Z12_3 Z12_4 Z12_5 Z12_6
 try clear Z6_0 Z6_1 Z6_2 Z6_3 Z6_4 Z6_5 Z6_6
 try clear F10_0 F10_1 F10_2 F10_3 F10_4 F10_5 F10_6
 try clear F12_0 F12_1 F12_2 F12_3 F12_4 F12_5 F12_6
 try clear F6_0 F6_1 F6_2 F6_3 F6_4 F6_5 F6_6
 obtain ⟨x29_1, rfl, HA, HK1, BK215, HB⟩ := hrel
 cases gk with
 | zero => exact absurd HA.out (by simp [word_tongue_rest.l0])
 | succ k1 =>
  have H := HA.out; clear HA; simp only [word_tongue_rest.l0] at H
  by_cases c13 : x29_1 < (l0_1.length : Int); rotate_left
  ·rw [if_neg c13] at H
   have c13b0 := dF c13; clear c13; simp only [Option.some.injEq, Prod.mk.injEq] at H; obtain ⟨rfl, rfl⟩ := H
   go_wp2
   go_ret2
   exact ⟨er, by exact bes HB.out⟩
  rw [if_pos c13] at H
  have c13b0 := dT c13; clear c13
  have H' := am H; clear H
  go_wp2
  go_loopg [9] k1 (fun kq v9 w' => ∃ (x9_2 : Int), v9 = .int .i64 x9_2 ∧ Aside0 (word_tongue_rest.l1 kq a1 x29_1 x9_2 (l0_1.length : Int) x29_1 l0_0 l0_1 l0_2 l0_3 a0_4 a0_5 a0_6 = some (r1, r2)) ∧ Aside0 (kq ≤ k1) ∧ Aside0 (w'.heap[gb215]? = some (.cells #[(.slice A0_0 l0_0.length c0_0), (.slice A0_1 l0_1.length c0_1), (.slice A0_2 l0_2.length c0_2), (.slice A0_3 l0_3.length c0_3), fnv a0_4, fnv a0_5, fnv a0_6] 59 (0, 0))) ∧ Aside0 (Below w.heap.size w w'))
  case atStart => exact ⟨(1), cd, H', ⟨Nat.le_refl _⟩, ⟨by exact blk_st BK215.out⟩, ⟨by exact bes HB.out⟩⟩
  clear H'
  try clear c1
  try clear p2
  try clear c4
  try clear c4b0
  try clear p6
  try clear c7
  try clear c8
  try clear c8b0
  try clear c13
  try clear c13b0
  try clear Z10_0 Z10_1 Z10_2 Z10_3 Z10_4 Z10_5 Z10_6
  try clear Z12_0 Z12_1 Z12_2 Z12_3 Z12_4 Z12_5 Z12_6
  try clear Z6_0 Z6_1 Z6_2 Z6_3 Z6_4 Z6_5 Z6_6
  try clear F10_0 F10_1 F10_2 F10_3 F10_4 F10_5 F10_6
  try clear F12_0 F12_1 F12_2 F12_3 F12_4 F12_5 F12_6
  try clear F6_0 F6_1 F6_2 F6_3 F6_4 F6_5 F6_6
  try clear p2
  try clear p6
  obtain ⟨x9_2, rfl, HA, HK2, BK215, HB⟩ := hrel
  cases gk with
  | zero => exact absurd HA.out (by simp [word_tongue_rest.l1])
  | succ k2 =>
   have H := HA.out; clear HA; simp only [word_tongue_rest.l1] at H
   by_cases c14 : x9_2 < 10; rotate_left
   ·rw [if_neg c14] at H
    have c14b0 := dF c14; clear c14
    have H' := am H; clear H
    go_wp2
    go_roundg k2
    case measure => have := HK1.out; have := HK2.out; omega
    case rel => exact ⟨(wrap64 (x29_1 + 1)), cd, H', ⟨by have := HK1.out; have := HK2.out; omega⟩, ⟨by exact blk_st BK215.out⟩, ⟨by exact bes HB.out⟩⟩
   rw [if_pos c14] at H
   have c14b0 := dT c14; clear c14; have HC15 := am H; clear H
   go_upto_region 13 with (fail)
   go_cut [43] (fun v43 wc => ∃ (kq : Nat) (x43_14 : Bool), v43 = .bool x43_14 ∧ Aside0 (word_tongue_rest.j2 kq a1 x29_1 x9_2 (l0_1.length : Int) x29_1 x43_14 l0_0 l0_1 l0_2 l0_3 a0_4 a0_5 a0_6 = some (r1, r2)) ∧ Aside0 (kq ≤ k2) ∧ Aside0 (wc.heap[gb215]? = some (.cells #[(.slice A0_0 l0_0.length c0_0), (.slice A0_1 l0_1.length c0_1), (.slice A0_2 l0_2.length c0_2), (.slice A0_3 l0_3.length c0_3), fnv a0_4, fnv a0_5, fnv a0_6] 59 (0, 0))) ∧ Aside0 (Below w.heap.size w wc))
   case first =>
    have H := HC15.out; clear HC15
    by_cases c16 : a0_4 = some 57
    ·subst c16
     replace H := ip H
     (try simp only [fnv_some]); replace H := bm H; obtain ⟨t218, A17, H⟩ := H; replace A17 := am A17
     have H' := am H; clear H
     have Z18_0 := z0 BK215.out
     have Z18_1 := z1 BK215.out
     have Z18_2 := z2 BK215.out
     have Z18_3 := z3 BK215.out
     have Z18_4 := z4 BK215.out
     have Z18_5 := z5 BK215.out
     have Z18_6 := z6 BK215.out; have F18_0 := fz BK215.out 0; have F18_1 := fz BK215.out 1; have F18_2 := fz BK215.out 2; have F18_3 := fz BK215.out 3; have F18_4 := fz BK215.out 4; have F18_5 := fz BK215.out 5; have F18_6 := fz BK215.out 6
     go_wp2_with (first | (go_at_call 57; (refine (word_tongues_1.calls _ _ l0_0 _ _ l0_1 _ _ l0_2 _ _ l0_3 (some 57) a0_5 a0_6 x29_1 x9_2 t218 _ ?_ ?_ ?_ ?_ ?_ ?_ ?_ ?_ A17.out).mono ?_); exact C_st (Kd.C_below HR0_0.out HB.out); exact HC0_0.out; exact C_st (Kd.C_below HR0_1.out HB.out); exact HC0_1.out; exact C_st (Kd.C_below HR0_2.out HB.out); exact HC0_2.out; exact C_st (Kd.C_below HR0_3.out HB.out); exact HC0_3.out; rintro e w19 ⟨rfl, hb⟩; replace BK215 := kb BK215 hb; replace HB := bsp HB hb; (try clear hb)))
     go_meet
     case rel => exact ⟨_, ((t218.toList == a1.toList)), cd, H', ⟨by have := HK1.out; have := HK2.out; first | omega | exact Nat.le_refl _⟩, ⟨by exact blk_st BK215.out⟩, ⟨by exact bes HB.out⟩⟩
    rw [if_neg c16] at H
    by_cases c20 : a0_4 = some 61
    ·subst c20
     replace H := ip H
     (try simp only [fnv_some]); replace H := bm H; obtain ⟨t219, A21, H⟩ := H; replace A21 := am A21
     have H' := am H; clear H
     have Z22_0 := z0 BK215.out
     have Z22_1 := z1 BK215.out
     have Z22_2 := z2 BK215.out
     have Z22_3 := z3 BK215.out
     have Z22_4 := z4 BK215.out
     have Z22_5 := z5 BK215.out
     have Z22_6 := z6 BK215.out; have F22_0 := fz BK215.out 0; have F22_1 := fz BK215.out 1; have F22_2 := fz BK215.out 2; have F22_3 := fz BK215.out 3; have F22_4 := fz BK215.out 4; have F22_5 := fz BK215.out 5; have F22_6 := fz BK215.out 6
     go_wp2_with (first | (go_at_call 61; (refine (word_tongues_4.calls _ _ l0_0 _ _ l0_1 _ _ l0_2 _ _ l0_3 (some 61) a0_5 a0_6 x29_1 x9_2 t219 _ ?_ ?_ ?_ ?_ ?_ ?_ ?_ ?_ A21.out).mono ?_); exact C_st (Kd.C_below HR0_0.out HB.out); exact HC0_0.out; exact C_st (Kd.C_below HR0_1.out HB.out); exact HC0_1.out; exact C_st (Kd.C_below HR0_2.out HB.out); exact HC0_2.out; exact C_st (Kd.C_below HR0_3.out HB.out); exact HC0_3.out; rintro e w23 ⟨rfl, hb⟩; replace BK215 := kb BK215 hb; replace HB := bsp HB hb; (try clear hb)))
     go_meet
     case rel => exact ⟨_, ((t219.toList == a1.toList)), cd, H', ⟨by have := HK1.out; have := HK2.out; first | omega | exact Nat.le_refl _⟩, ⟨by exact blk_st BK215.out⟩, ⟨by exact bes HB.out⟩⟩
    rw [if_neg c20] at H
    by_cases c24 : a0_4 = some 65; rotate_left
    ·rw [if_neg c24] at H
     exact absurd H (by simp)
    subst c24; replace H := ip H
    (try simp only [fnv_some]); replace H := bm H; obtain ⟨t220, A25, H⟩ := H; replace A25 := am A25
    have H' := am H; clear H
    have Z26_0 := z0 BK215.out
    have Z26_1 := z1 BK215.out
    have Z26_2 := z2 BK215.out
    have Z26_3 := z3 BK215.out
    have Z26_4 := z4 BK215.out
    have Z26_5 := z5 BK215.out
    have Z26_6 := z6 BK215.out; have F26_0 := fz BK215.out 0; have F26_1 := fz BK215.out 1; have F26_2 := fz BK215.out 2; have F26_3 := fz BK215.out 3; have F26_4 := fz BK215.out 4; have F26_5 := fz BK215.out 5; have F26_6 := fz BK215.out 6
    go_wp2_with (first | (go_at_call 65; (refine (word_tongues_7.calls _ _ l0_0 _ _ l0_1 _ _ l0_2 _ _ l0_3 (some 65) a0_5 a0_6 x29_1 x9_2 t220 _ ?_ ?_ ?_ ?_ ?_ ?_ ?_ ?_ A25.out).mono ?_); exact C_st (Kd.C_below HR0_0.out HB.out); exact HC0_0.out; exact C_st (Kd.C_below HR0_1.out HB.out); exact HC0_1.out; exact C_st (Kd.C_below HR0_2.out HB.out); exact HC0_2.out; exact C_st (Kd.C_below HR0_3.out HB.out); exact HC0_3.out; rintro e w27 ⟨rfl, hb⟩; replace BK215 := kb BK215 hb; replace HB := bsp HB hb; (try clear hb)))
    go_meet
    case rel => exact ⟨_, ((t220.toList == a1.toList)), cd, H', ⟨by have := HK1.out; have := HK2.out; first | omega | exact Nat.le_refl _⟩, ⟨by exact blk_st BK215.out⟩, ⟨by exact bes HB.out⟩⟩
   clear HC15
   try clear c1
   try clear c2
   try clear p2
   try clear c4
   try clear c4b0
   try clear p6
   try clear c7
   try clear c8
   try clear c8b0
   try clear c13
   try clear c13b0
   try clear c14
   try clear c14b0
   try clear c16
   try clear c20
   try clear c24
   try clear Z10_0 Z10_1 Z10_2 Z10_3 Z10_4 Z10_5 Z10_6
   try clear Z12_0 Z12_1 Z12_2 Z12_3 Z12_4 Z12_5 Z12_6
   try clear Z18_0 Z18_1 Z18_2 Z18_3 Z18_4 Z18_5 Z18_6
   try clear Z22_0 Z22_1 Z22_2 Z22_3 Z22_4 Z22_5 Z22_6
   try clear Z26_0 Z26_1 Z26_2 Z26_3 Z26_4 Z26_5 Z26_6
   try clear Z6_0 Z6_1 Z6_2 Z6_3 Z6_4 Z6_5 Z6_6
   try clear F10_0 F10_1 F10_2 F10_3 F10_4 F10_5 F10_6
   try clear F12_0 F12_1 F12_2 F12_3 F12_4 F12_5 F12_6
   try clear F18_0 F18_1 F18_2 F18_3 F18_4 F18_5 F18_6
   try clear F22_0 F22_1 F22_2 F22_3 F22_4 F22_5 F22_6
   try clear F26_0 F26_1 F26_2 F26_3 F26_4 F26_5 F26_6
   try clear F6_0 F6_1 F6_2 F6_3 F6_4 F6_5 F6_6
   try clear p2
   try clear p6
   obtain ⟨kq, x43_14, rfl, HA, HJ14, BK215, HB⟩ := hcut
   cases kq with
   | zero => exact absurd HA.out (by simp [word_tongue_rest.j2])
   | succ kj14 =>
    have H := HA.out; clear HA; simp only [word_tongue_rest.j2] at H
    by_cases c28 : x43_14 = true
    ·subst c28
     replace H := ip H
     simp only [Option.some.injEq, Prod.mk.injEq] at H; obtain ⟨rfl, rfl⟩ := H
     go_wp2
     go_ret2
     exact ⟨er, by exact bes HB.out⟩
    replace c28 := Bool.eq_false_iff.mpr c28; subst c28; replace H := inn H
    have H' := am H; clear H
    go_wp2
    go_roundg kj14
    case measure => have := HK1.out; have := HK2.out; have := HJ14.out; omega
    case rel => exact ⟨(wrap64 (x9_2 + 1)), cd, H', ⟨by have := HK1.out; have := HK2.out; have := HJ14.out; omega⟩, ⟨by exact blk_st BK215.out⟩, ⟨by exact bes HB.out⟩⟩

end Go.Proofs.YtjgobfbjmlacjaaDoor.XA
