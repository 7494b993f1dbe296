-- Written by wip/xprint.py (a driver of mine over the kit's printer) for this claim.
import Derived.Test.YtjgobfbjmlacjaaDoorXA0
namespace Go.Proofs.YtjgobfbjmlacjaaDoor.XA
open Go.RowKit Go.Proofs.YtjgobfbjmlacjaaDoorW.PrintWords Go.Proofs.YtjgobfbjmlacjaaDoorW.PrintLast Go.Proofs.YtjgobfbjmlacjaaDoorW.PrintMore
open Bool renaming true → tt, false → ff
open _root_.ByteArray renaming mk → B_
attribute [local go_sem] max2_int min2_int max_two min_two max_three min_three max_four min_four   -- for this text's walks alone
set_option maxHeartbeats 8000000
set_option maxRecDepth 100000
set_option linter.unusedVariables false
set_option linter.unusedSimpArgs false

/-! ### word_known: function 35 -/
def word_known.f (a0 : Int) : Option (Bool) := if a0 ≥ 1 then (some (decide (a0 ≤ 3))) else (some false)
theorem word_known.calls (a0 : Int) (r : Bool) (w : World) (h : word_known.f a0 = some r) :
  Calls Tryd.prog 35 #[.int .i64 a0] w fun e w' => e = .returned (.bool r) ∧ Drawn0 w w' := by
 have H := h; clear h; unfold word_known.f at H
 by_cases c2 : a0 ≥ 1
 ·rw [if_pos c2] at H
  have c2b0 := dT c2; clear c2; obtain rfl := Option.some.inj H
  go_enter Tryd.func35, Tryd.ntmps35
  go_wp2
  go_ret
  exact ⟨by first | rfl | (simp; done) | (simp [*]; done), by repeat (first | exact Drawn0.refl _ | apply Drawn0.step)⟩
 rw [if_neg c2] at H
 have c2b0 := dF c2; clear c2; obtain rfl := Option.some.inj H
 go_enter Tryd.func35, Tryd.ntmps35
 go_wp2
 go_ret
 exact ⟨by first | rfl | (simp; done) | (simp [*]; done), by repeat (first | exact Drawn0.refl _ | apply Drawn0.step)⟩

/-! ### word_tongues: function 36 -/
def word_tongues.f (a0 : Int) : Option (List ByteArray × List ByteArray × List ByteArray × List ByteArray × Option Nat × Option Nat × Option Nat) := if a0 = 1 then (some ((([(B_ #[122,101,114,111]), (B_ #[111,110,101]), (B_ #[116,119,111]), (B_ #[116,104,114,101,101]), (B_ #[102,111,117,114]), (B_ #[102,105,118,101]), (B_ #[115,105,120]), (B_ #[115,101,118,101,110]), (B_ #[101,105,103,104,116]), (B_ #[110,105,110,101]), (B_ #[116,101,110]), (B_ #[101,108,101,118,101,110]), (B_ #[116,119,101,108,118,101]), (B_ #[116,104,105,114,116,101,101,110]), (B_ #[102,111,117,114,116,101,101,110]), (B_ #[102,105,102,116,101,101,110]), (B_ #[115,105,120,116,101,101,110]), (B_ #[115,101,118,101,110,116,101,101,110]), (B_ #[101,105,103,104,116,101,101,110]), (B_ #[110,105,110,101,116,101,101,110])] : List ByteArray)), (([(B_ #[116,119,101,110,116,121]), (B_ #[116,104,105,114,116,121]), (B_ #[102,111,114,116,121]), (B_ #[102,105,102,116,121]), (B_ #[115,105,120,116,121]), (B_ #[115,101,118,101,110,116,121]), (B_ #[101,105,103,104,116,121]), (B_ #[110,105,110,101,116,121])] : List ByteArray)), (([(B_ #[106,97,110,117,97,114,121]), (B_ #[102,101,98,114,117,97,114,121]), (B_ #[109,97,114,99,104]), (B_ #[97,112,114,105,108]), (B_ #[109,97,121]), (B_ #[106,117,110,101]), (B_ #[106,117,108,121]), (B_ #[97,117,103,117,115,116]), (B_ #[115,101,112,116,101,109,98,101,114]), (B_ #[111,99,116,111,98,101,114]), (B_ #[110,111,118,101,109,98,101,114]), (B_ #[100,101,99,101,109,98,101,114])] : List ByteArray)), (([(B_ #[109,111,110,100,97,121]), (B_ #[116,117,101,115,100,97,121]), (B_ #[119,101,100,110,101,115,100,97,121]), (B_ #[116,104,117,114,115,100,97,121]), (B_ #[102,114,105,100,97,121]), (B_ #[115,97,116,117,114,100,97,121]), (B_ #[115,117,110,100,97,121])] : List ByteArray)), (some 57), (some 58), (some 60))) else (if a0 = 2 then (some ((([(B_ #[110,117,108,108]), (B_ #[101,105,110,115]), (B_ #[122,119,101,105]), (B_ #[100,114,101,105]), (B_ #[118,105,101,114]), (B_ #[102,117,101,110,102]), (B_ #[115,101,99,104,115]), (B_ #[115,105,101,98,101,110]), (B_ #[97,99,104,116]), (B_ #[110,101,117,110]), (B_ #[122,101,104,110]), (B_ #[101,108,102]), (B_ #[122,119,111,101,108,102]), (B_ #[100,114,101,105,122,101,104,110]), (B_ #[118,105,101,114,122,101,104,110]), (B_ #[102,117,101,110,102,122,101,104,110]), (B_ #[115,101,99,104,122,101,104,110]), (B_ #[115,105,101,98,122,101,104,110]), (B_ #[97,99,104,116,122,101,104,110]), (B_ #[110,101,117,110,122,101,104,110])] : List ByteArray)), (([(B_ #[122,119,97,110,122,105,103]), (B_ #[100,114,101,105,115,115,105,103]), (B_ #[118,105,101,114,122,105,103]), (B_ #[102,117,101,110,102,122,105,103]), (B_ #[115,101,99,104,122,105,103]), (B_ #[115,105,101,98,122,105,103]), (B_ #[97,99,104,116,122,105,103]), (B_ #[110,101,117,110,122,105,103])] : List ByteArray)), (([(B_ #[106,97,110,117,97,114]), (B_ #[102,101,98,114,117,97,114]), (B_ #[109,97,101,114,122]), (B_ #[97,112,114,105,108]), (B_ #[109,97,105]), (B_ #[106,117,110,105]), (B_ #[106,117,108,105]), (B_ #[97,117,103,117,115,116]), (B_ #[115,101,112,116,101,109,98,101,114]), (B_ #[111,107,116,111,98,101,114]), (B_ #[110,111,118,101,109,98,101,114]), (B_ #[100,101,122,101,109,98,101,114])] : List ByteArray)), (([(B_ #[109,111,110,116,97,103]), (B_ #[100,105,101,110,115,116,97,103]), (B_ #[109,105,116,116,119,111,99,104]), (B_ #[100,111,110,110,101,114,115,116,97,103]), (B_ #[102,114,101,105,116,97,103]), (B_ #[115,97,109,115,116,97,103]), (B_ #[115,111,110,110,116,97,103])] : List ByteArray)), (some 61), (some 63), (some 64))) else (if a0 = 3 then (some ((([(B_ #[99,101,114,111]), (B_ #[117,110,111]), (B_ #[100,111,115]), (B_ #[116,114,101,115]), (B_ #[99,117,97,116,114,111]), (B_ #[99,105,110,99,111]), (B_ #[115,101,105,115]), (B_ #[115,105,101,116,101]), (B_ #[111,99,104,111]), (B_ #[110,117,101,118,101]), (B_ #[100,105,101,122]), (B_ #[111,110,99,101]), (B_ #[100,111,99,101]), (B_ #[116,114,101,99,101]), (B_ #[99,97,116,111,114,99,101]), (B_ #[113,117,105,110,99,101]), (B_ #[100,105,101,99,105,115,101,105,115]), (B_ #[100,105,101,99,105,115,105,101,116,101]), (B_ #[100,105,101,99,105,111,99,104,111]), (B_ #[100,105,101,99,105,110,117,101,118,101])] : List ByteArray)), (([(B_ #[118,101,105,110,116,101]), (B_ #[116,114,101,105,110,116,97]), (B_ #[99,117,97,114,101,110,116,97]), (B_ #[99,105,110,99,117,101,110,116,97]), (B_ #[115,101,115,101,110,116,97]), (B_ #[115,101,116,101,110,116,97]), (B_ #[111,99,104,101,110,116,97]), (B_ #[110,111,118,101,110,116,97])] : List ByteArray)), (([(B_ #[101,110,101,114,111]), (B_ #[102,101,98,114,101,114,111]), (B_ #[109,97,114,122,111]), (B_ #[97,98,114,105,108]), (B_ #[109,97,121,111]), (B_ #[106,117,110,105,111]), (B_ #[106,117,108,105,111]), (B_ #[97,103,111,115,116,111]), (B_ #[115,101,112,116,105,101,109,98,114,101]), (B_ #[111,99,116,117,98,114,101]), (B_ #[110,111,118,105,101,109,98,114,101]), (B_ #[100,105,99,105,101,109,98,114,101])] : List ByteArray)), (([(B_ #[108,117,110,101,115]), (B_ #[109,97,114,116,101,115]), (B_ #[109,105,101,114,99,111,108,101,115]), (B_ #[106,117,101,118,101,115]), (B_ #[118,105,101,114,110,101,115]), (B_ #[115,97,98,97,100,111]), (B_ #[100,111,109,105,110,103,111])] : List ByteArray)), (some 65), (some 66), (some 67))) else (some (([] : List ByteArray), ([] : List ByteArray), ([] : List ByteArray), ([] : List ByteArray), none, none, none))))
theorem word_tongues.calls (a0 : Int) (r1 : List ByteArray) (r2 : List ByteArray) (r3 : List ByteArray) (r4 : List ByteArray) (r5 : Option Nat) (r6 : Option Nat) (r7 : Option Nat) (w : World) (h : word_tongues.f a0 = some (r1, r2, r3, r4, r5, r6, r7)) :
  Calls Tryd.prog 36 #[.int .i64 a0] w fun e w' => ∃ v0_ v1_ v2_ v3_ : Value, e = .returned (.agg #[v0_, v1_, v2_, v3_, fnv r5, fnv r6, fnv r7]) ∧ Kd.R Kd.string 9 w' w.heap.size (fun k_ => some k_ ≠ (v1_ : Value).ownBlock ∧ some k_ ≠ (v2_ : Value).ownBlock ∧ some k_ ≠ (v3_ : Value).ownBlock) v0_ r1 ∧ Kd.R Kd.string 9 w' w.heap.size (fun k_ => some k_ ≠ (v0_ : Value).ownBlock ∧ some k_ ≠ (v2_ : Value).ownBlock ∧ some k_ ≠ (v3_ : Value).ownBlock) v1_ r2 ∧ Kd.R Kd.string 9 w' w.heap.size (fun k_ => some k_ ≠ (v0_ : Value).ownBlock ∧ some k_ ≠ (v1_ : Value).ownBlock ∧ some k_ ≠ (v3_ : Value).ownBlock) v2_ r3 ∧ Kd.R Kd.string 9 w' w.heap.size (fun k_ => some k_ ≠ (v0_ : Value).ownBlock ∧ some k_ ≠ (v1_ : Value).ownBlock ∧ some k_ ≠ (v2_ : Value).ownBlock) v3_ r4 ∧ Below w.heap.size w w' := by
 have hu59 := Tryd.underlying59; have HB := am (Below.refl w.heap.size w)
 have H := h; clear h; unfold word_tongues.f at H
 by_cases c2 : a0 = 1
 ·rw [if_pos c2] at H
  have c2b0 := bT c2
  have c2b1 := nF c2; clear c2; obtain ⟨y102, hy102⟩ : ∃ y_ : List ByteArray, y_ = (([(B_ #[122,101,114,111]), (B_ #[111,110,101]), (B_ #[116,119,111]), (B_ #[116,104,114,101,101]), (B_ #[102,111,117,114]), (B_ #[102,105,118,101]), (B_ #[115,105,120]), (B_ #[115,101,118,101,110]), (B_ #[101,105,103,104,116]), (B_ #[110,105,110,101]), (B_ #[116,101,110]), (B_ #[101,108,101,118,101,110]), (B_ #[116,119,101,108,118,101]), (B_ #[116,104,105,114,116,101,101,110]), (B_ #[102,111,117,114,116,101,101,110]), (B_ #[102,105,102,116,101,101,110]), (B_ #[115,105,120,116,101,101,110]), (B_ #[115,101,118,101,110,116,101,101,110]), (B_ #[101,105,103,104,116,101,101,110]), (B_ #[110,105,110,101,116,101,101,110])] : List ByteArray)) := ⟨_, rfl⟩; replace H : (some (y102, (([(B_ #[116,119,101,110,116,121]), (B_ #[116,104,105,114,116,121]), (B_ #[102,111,114,116,121]), (B_ #[102,105,102,116,121]), (B_ #[115,105,120,116,121]), (B_ #[115,101,118,101,110,116,121]), (B_ #[101,105,103,104,116,121]), (B_ #[110,105,110,101,116,121])] : List ByteArray)), (([(B_ #[106,97,110,117,97,114,121]), (B_ #[102,101,98,114,117,97,114,121]), (B_ #[109,97,114,99,104]), (B_ #[97,112,114,105,108]), (B_ #[109,97,121]), (B_ #[106,117,110,101]), (B_ #[106,117,108,121]), (B_ #[97,117,103,117,115,116]), (B_ #[115,101,112,116,101,109,98,101,114]), (B_ #[111,99,116,111,98,101,114]), (B_ #[110,111,118,101,109,98,101,114]), (B_ #[100,101,99,101,109,98,101,114])] : List ByteArray)), (([(B_ #[109,111,110,100,97,121]), (B_ #[116,117,101,115,100,97,121]), (B_ #[119,101,100,110,101,115,100,97,121]), (B_ #[116,104,117,114,115,100,97,121]), (B_ #[102,114,105,100,97,121]), (B_ #[115,97,116,117,114,100,97,121]), (B_ #[115,117,110,100,97,121])] : List ByteArray)), (some 57), (some 58), (some 60))) = some (r1, r2, r3, r4, r5, r6, r7) := by first | (rw [hy102]; with_reducible exact H) | (have H2_ := (Option.bind_some _ _).symm.trans H; rw [hy102]; with_reducible exact H2_) | (have H2_ := (Option.bind_some _ _).symm.trans H; with_reducible exact H2_) | with_reducible exact H | (rw [hy102]; exact H) | exact H
  have Ny102 := am hy102; clear hy102; obtain ⟨y105, hy105⟩ : ∃ y_ : List ByteArray, y_ = (([(B_ #[116,119,101,110,116,121]), (B_ #[116,104,105,114,116,121]), (B_ #[102,111,114,116,121]), (B_ #[102,105,102,116,121]), (B_ #[115,105,120,116,121]), (B_ #[115,101,118,101,110,116,121]), (B_ #[101,105,103,104,116,121]), (B_ #[110,105,110,101,116,121])] : List ByteArray)) := ⟨_, rfl⟩; replace H : (some (y102, y105, (([(B_ #[106,97,110,117,97,114,121]), (B_ #[102,101,98,114,117,97,114,121]), (B_ #[109,97,114,99,104]), (B_ #[97,112,114,105,108]), (B_ #[109,97,121]), (B_ #[106,117,110,101]), (B_ #[106,117,108,121]), (B_ #[97,117,103,117,115,116]), (B_ #[115,101,112,116,101,109,98,101,114]), (B_ #[111,99,116,111,98,101,114]), (B_ #[110,111,118,101,109,98,101,114]), (B_ #[100,101,99,101,109,98,101,114])] : List ByteArray)), (([(B_ #[109,111,110,100,97,121]), (B_ #[116,117,101,115,100,97,121]), (B_ #[119,101,100,110,101,115,100,97,121]), (B_ #[116,104,117,114,115,100,97,121]), (B_ #[102,114,105,100,97,121]), (B_ #[115,97,116,117,114,100,97,121]), (B_ #[115,117,110,100,97,121])] : List ByteArray)), (some 57), (some 58), (some 60))) = some (r1, r2, r3, r4, r5, r6, r7) := by first | (rw [hy105]; with_reducible exact H) | (have H2_ := (Option.bind_some _ _).symm.trans H; rw [hy105]; with_reducible exact H2_) | (have H2_ := (Option.bind_some _ _).symm.trans H; with_reducible exact H2_) | with_reducible exact H | (rw [hy105]; exact H) | exact H
  have Ny105 := am hy105; clear hy105; obtain ⟨y108, hy108⟩ : ∃ y_ : List ByteArray, y_ = (([(B_ #[106,97,110,117,97,114,121]), (B_ #[102,101,98,114,117,97,114,121]), (B_ #[109,97,114,99,104]), (B_ #[97,112,114,105,108]), (B_ #[109,97,121]), (B_ #[106,117,110,101]), (B_ #[106,117,108,121]), (B_ #[97,117,103,117,115,116]), (B_ #[115,101,112,116,101,109,98,101,114]), (B_ #[111,99,116,111,98,101,114]), (B_ #[110,111,118,101,109,98,101,114]), (B_ #[100,101,99,101,109,98,101,114])] : List ByteArray)) := ⟨_, rfl⟩; replace H : (some (y102, y105, y108, (([(B_ #[109,111,110,100,97,121]), (B_ #[116,117,101,115,100,97,121]), (B_ #[119,101,100,110,101,115,100,97,121]), (B_ #[116,104,117,114,115,100,97,121]), (B_ #[102,114,105,100,97,121]), (B_ #[115,97,116,117,114,100,97,121]), (B_ #[115,117,110,100,97,121])] : List ByteArray)), (some 57), (some 58), (some 60))) = some (r1, r2, r3, r4, r5, r6, r7) := by first | (rw [hy108]; with_reducible exact H) | (have H2_ := (Option.bind_some _ _).symm.trans H; rw [hy108]; with_reducible exact H2_) | (have H2_ := (Option.bind_some _ _).symm.trans H; with_reducible exact H2_) | with_reducible exact H | (rw [hy108]; exact H) | exact H
  have Ny108 := am hy108; clear hy108; obtain ⟨y111, hy111⟩ : ∃ y_ : List ByteArray, y_ = (([(B_ #[109,111,110,100,97,121]), (B_ #[116,117,101,115,100,97,121]), (B_ #[119,101,100,110,101,115,100,97,121]), (B_ #[116,104,117,114,115,100,97,121]), (B_ #[102,114,105,100,97,121]), (B_ #[115,97,116,117,114,100,97,121]), (B_ #[115,117,110,100,97,121])] : List ByteArray)) := ⟨_, rfl⟩; replace H : (some (y102, y105, y108, y111, (some 57), (some 58), (some 60))) = some (r1, r2, r3, r4, r5, r6, r7) := by first | (rw [hy111]; with_reducible exact H) | (have H2_ := (Option.bind_some _ _).symm.trans H; rw [hy111]; with_reducible exact H2_) | (have H2_ := (Option.bind_some _ _).symm.trans H; with_reducible exact H2_) | with_reducible exact H | (rw [hy111]; exact H) | exact H
  have Ny111 := am hy111; clear hy111; simp only [Option.some.injEq, Prod.mk.injEq] at H; obtain ⟨rfl, rfl, rfl, rfl, rfl, rfl, rfl⟩ := H
  go_enter Tryd.func36, Tryd.ntmps36
  go_wp2_with (first | ((with_reducible refine gate_dst (N := 2) rfl ?_); refine bx 2 #[.slice none 0 0, .slice none 0 0, .slice none 0 0, .slice none 0 0, .nilFunc, .nilFunc, .nilFunc] 59 ?_; intro gb101 hg w3 hbox hb; have BK101 := am hbox; have GW101 := gwm hg HB; have GE101 := gem hg HB; replace HB := bsp HB hb; clear hb hbox hg) | ((with_reducible refine gate_dst (N := 6) rfl ?_); refine Kd.R_lit Kd.string _ 9 ?hg (N := 6) ?hd (xs := ([(B_ #[122,101,114,111]), (B_ #[111,110,101]), (B_ #[116,119,111]), (B_ #[116,104,114,101,101]), (B_ #[102,111,117,114]), (B_ #[102,105,118,101]), (B_ #[115,105,120]), (B_ #[115,101,118,101,110]), (B_ #[101,105,103,104,116]), (B_ #[110,105,110,101]), (B_ #[116,101,110]), (B_ #[101,108,101,118,101,110]), (B_ #[116,119,101,108,118,101]), (B_ #[116,104,105,114,116,101,101,110]), (B_ #[102,111,117,114,116,101,101,110]), (B_ #[102,105,102,116,101,101,110]), (B_ #[115,105,120,116,101,101,110]), (B_ #[115,101,118,101,110,116,101,101,110]), (B_ #[101,105,103,104,116,101,101,110]), (B_ #[110,105,110,101,116,101,101,110])] : List ByteArray)) (inner := [.string (B_ #[122,101,114,111]), .string (B_ #[111,110,101]), .string (B_ #[116,119,111]), .string (B_ #[116,104,114,101,101]), .string (B_ #[102,111,117,114]), .string (B_ #[102,105,118,101]), .string (B_ #[115,105,120]), .string (B_ #[115,101,118,101,110]), .string (B_ #[101,105,103,104,116]), .string (B_ #[110,105,110,101]), .string (B_ #[116,101,110]), .string (B_ #[101,108,101,118,101,110]), .string (B_ #[116,119,101,108,118,101]), .string (B_ #[116,104,105,114,116,101,101,110]), .string (B_ #[102,111,117,114,116,101,101,110]), .string (B_ #[102,105,102,116,101,101,110]), .string (B_ #[115,105,120,116,101,101,110]), .string (B_ #[115,101,118,101,110,116,101,101,110]), .string (B_ #[101,105,103,104,116,101,101,110]), .string (B_ #[110,105,110,101,116,101,101,110])]) (ok := fun _ => True) (okp := fun _ => True) ?hr ?hp (fun _ hk => hk) trivial (Below.refl _ _) (Nat.le_refl _) (by simp) ?_; (case hd => rfl); (case hg => rfl); (case hr => first | (go_simp; done) | (go_simp; rfl)); (case hp => exact (Reps.one (show Kd.M Kd.string _ _ _ (B_ #[122,101,114,111]) [.string (B_ #[122,101,114,111])] from rfl) (Reps.one (show Kd.M Kd.string _ _ _ (B_ #[111,110,101]) [.string (B_ #[111,110,101])] from rfl) (Reps.one (show Kd.M Kd.string _ _ _ (B_ #[116,119,111]) [.string (B_ #[116,119,111])] from rfl) (Reps.one (show Kd.M Kd.string _ _ _ (B_ #[116,104,114,101,101]) [.string (B_ #[116,104,114,101,101])] from rfl) (Reps.one (show Kd.M Kd.string _ _ _ (B_ #[102,111,117,114]) [.string (B_ #[102,111,117,114])] from rfl) (Reps.one (show Kd.M Kd.string _ _ _ (B_ #[102,105,118,101]) [.string (B_ #[102,105,118,101])] from rfl) (Reps.one (show Kd.M Kd.string _ _ _ (B_ #[115,105,120]) [.string (B_ #[115,105,120])] from rfl) (Reps.one (show Kd.M Kd.string _ _ _ (B_ #[115,101,118,101,110]) [.string (B_ #[115,101,118,101,110])] from rfl) (Reps.one (show Kd.M Kd.string _ _ _ (B_ #[101,105,103,104,116]) [.string (B_ #[101,105,103,104,116])] from rfl) (Reps.one (show Kd.M Kd.string _ _ _ (B_ #[110,105,110,101]) [.string (B_ #[110,105,110,101])] from rfl) (Reps.one (show Kd.M Kd.string _ _ _ (B_ #[116,101,110]) [.string (B_ #[116,101,110])] from rfl) (Reps.one (show Kd.M Kd.string _ _ _ (B_ #[101,108,101,118,101,110]) [.string (B_ #[101,108,101,118,101,110])] from rfl) (Reps.one (show Kd.M Kd.string _ _ _ (B_ #[116,119,101,108,118,101]) [.string (B_ #[116,119,101,108,118,101])] from rfl) (Reps.one (show Kd.M Kd.string _ _ _ (B_ #[116,104,105,114,116,101,101,110]) [.string (B_ #[116,104,105,114,116,101,101,110])] from rfl) (Reps.one (show Kd.M Kd.string _ _ _ (B_ #[102,111,117,114,116,101,101,110]) [.string (B_ #[102,111,117,114,116,101,101,110])] from rfl) (Reps.one (show Kd.M Kd.string _ _ _ (B_ #[102,105,102,116,101,101,110]) [.string (B_ #[102,105,102,116,101,101,110])] from rfl) (Reps.one (show Kd.M Kd.string _ _ _ (B_ #[115,105,120,116,101,101,110]) [.string (B_ #[115,105,120,116,101,101,110])] from rfl) (Reps.one (show Kd.M Kd.string _ _ _ (B_ #[115,101,118,101,110,116,101,101,110]) [.string (B_ #[115,101,118,101,110,116,101,101,110])] from rfl) (Reps.one (show Kd.M Kd.string _ _ _ (B_ #[101,105,103,104,116,101,101,110]) [.string (B_ #[101,105,103,104,116,101,101,110])] from rfl) (Reps.one (show Kd.M Kd.string _ _ _ (B_ #[110,105,110,101,116,101,101,110]) [.string (B_ #[110,105,110,101,116,101,101,110])] from rfl) (Reps.none _ _)))))))))))))))))))))); intro v103 w4 ho5 hb hg_ hnew_; clear hg_ hnew_; (first | rw [← Ny102.out] at ho5 | (simp only [Int.reduceToNat] at ho5; rw [← Ny102.out] at ho5)); have HO104 := am (Kd.R_lower ho5 (below_size (bes HB.out))); replace BK101 := kb BK101 hb; replace HB := bsp HB hb; clear hb ho5) | ((with_reducible refine gate_dst (N := 7) rfl ?_); refine Kd.R_lit Kd.string _ 9 ?hg (N := 7) ?hd (xs := ([(B_ #[116,119,101,110,116,121]), (B_ #[116,104,105,114,116,121]), (B_ #[102,111,114,116,121]), (B_ #[102,105,102,116,121]), (B_ #[115,105,120,116,121]), (B_ #[115,101,118,101,110,116,121]), (B_ #[101,105,103,104,116,121]), (B_ #[110,105,110,101,116,121])] : List ByteArray)) (inner := [.string (B_ #[116,119,101,110,116,121]), .string (B_ #[116,104,105,114,116,121]), .string (B_ #[102,111,114,116,121]), .string (B_ #[102,105,102,116,121]), .string (B_ #[115,105,120,116,121]), .string (B_ #[115,101,118,101,110,116,121]), .string (B_ #[101,105,103,104,116,121]), .string (B_ #[110,105,110,101,116,121])]) (ok := fun _ => True) (okp := fun _ => True) ?hr ?hp (fun _ hk => hk) trivial (Below.refl _ _) (Nat.le_refl _) (by simp) ?_; (case hd => rfl); (case hg => rfl); (case hr => first | (go_simp; done) | (go_simp; rfl)); (case hp => exact (Reps.one (show Kd.M Kd.string _ _ _ (B_ #[116,119,101,110,116,121]) [.string (B_ #[116,119,101,110,116,121])] from rfl) (Reps.one (show Kd.M Kd.string _ _ _ (B_ #[116,104,105,114,116,121]) [.string (B_ #[116,104,105,114,116,121])] from rfl) (Reps.one (show Kd.M Kd.string _ _ _ (B_ #[102,111,114,116,121]) [.string (B_ #[102,111,114,116,121])] from rfl) (Reps.one (show Kd.M Kd.string _ _ _ (B_ #[102,105,102,116,121]) [.string (B_ #[102,105,102,116,121])] from rfl) (Reps.one (show Kd.M Kd.string _ _ _ (B_ #[115,105,120,116,121]) [.string (B_ #[115,105,120,116,121])] from rfl) (Reps.one (show Kd.M Kd.string _ _ _ (B_ #[115,101,118,101,110,116,121]) [.string (B_ #[115,101,118,101,110,116,121])] from rfl) (Reps.one (show Kd.M Kd.string _ _ _ (B_ #[101,105,103,104,116,121]) [.string (B_ #[101,105,103,104,116,121])] from rfl) (Reps.one (show Kd.M Kd.string _ _ _ (B_ #[110,105,110,101,116,121]) [.string (B_ #[110,105,110,101,116,121])] from rfl) (Reps.none _ _)))))))))); intro v106 w6 ho7 hb hg_ hnew_; clear hg_ hnew_; (first | rw [← Ny105.out] at ho7 | (simp only [Int.reduceToNat] at ho7; rw [← Ny105.out] at ho7)); have HO107 := am (Kd.R_lower (Kd.R_new' ho7 (Kd.R_lt (R_st HO104.out))) (below_size (bes HB.out))); replace HO104 := am (Kd.R_elder' (R_st HO104.out) (Kd.R_base ho7) hb); replace BK101 := kb BK101 hb; replace HB := bsp HB hb; clear hb ho7) | ((with_reducible refine gate_dst (N := 8) rfl ?_); refine Kd.R_lit Kd.string _ 9 ?hg (N := 8) ?hd (xs := ([(B_ #[106,97,110,117,97,114,121]), (B_ #[102,101,98,114,117,97,114,121]), (B_ #[109,97,114,99,104]), (B_ #[97,112,114,105,108]), (B_ #[109,97,121]), (B_ #[106,117,110,101]), (B_ #[106,117,108,121]), (B_ #[97,117,103,117,115,116]), (B_ #[115,101,112,116,101,109,98,101,114]), (B_ #[111,99,116,111,98,101,114]), (B_ #[110,111,118,101,109,98,101,114]), (B_ #[100,101,99,101,109,98,101,114])] : List ByteArray)) (inner := [.string (B_ #[106,97,110,117,97,114,121]), .string (B_ #[102,101,98,114,117,97,114,121]), .string (B_ #[109,97,114,99,104]), .string (B_ #[97,112,114,105,108]), .string (B_ #[109,97,121]), .string (B_ #[106,117,110,101]), .string (B_ #[106,117,108,121]), .string (B_ #[97,117,103,117,115,116]), .string (B_ #[115,101,112,116,101,109,98,101,114]), .string (B_ #[111,99,116,111,98,101,114]), .string (B_ #[110,111,118,101,109,98,101,114]), .string (B_ #[100,101,99,101,109,98,101,114])]) (ok := fun _ => True) (okp := fun _ => True) ?hr ?hp (fun _ hk => hk) trivial (Below.refl _ _) (Nat.le_refl _) (by simp) ?_; (case hd => rfl); (case hg => rfl); (case hr => first | (go_simp; done) | (go_simp; rfl)); (case hp => exact (Reps.one (show Kd.M Kd.string _ _ _ (B_ #[106,97,110,117,97,114,121]) [.string (B_ #[106,97,110,117,97,114,121])] from rfl) (Reps.one (show Kd.M Kd.string _ _ _ (B_ #[102,101,98,114,117,97,114,121]) [.string (B_ #[102,101,98,114,117,97,114,121])] from rfl) (Reps.one (show Kd.M Kd.string _ _ _ (B_ #[109,97,114,99,104]) [.string (B_ #[109,97,114,99,104])] from rfl) (Reps.one (show Kd.M Kd.string _ _ _ (B_ #[97,112,114,105,108]) [.string (B_ #[97,112,114,105,108])] from rfl) (Reps.one (show Kd.M Kd.string _ _ _ (B_ #[109,97,121]) [.string (B_ #[109,97,121])] from rfl) (Reps.one (show Kd.M Kd.string _ _ _ (B_ #[106,117,110,101]) [.string (B_ #[106,117,110,101])] from rfl) (Reps.one (show Kd.M Kd.string _ _ _ (B_ #[106,117,108,121]) [.string (B_ #[106,117,108,121])] from rfl) (Reps.one (show Kd.M Kd.string _ _ _ (B_ #[97,117,103,117,115,116]) [.string (B_ #[97,117,103,117,115,116])] from rfl) (Reps.one (show Kd.M Kd.string _ _ _ (B_ #[115,101,112,116,101,109,98,101,114]) [.string (B_ #[115,101,112,116,101,109,98,101,114])] from rfl) (Reps.one (show Kd.M Kd.string _ _ _ (B_ #[111,99,116,111,98,101,114]) [.string (B_ #[111,99,116,111,98,101,114])] from rfl) (Reps.one (show Kd.M Kd.string _ _ _ (B_ #[110,111,118,101,109,98,101,114]) [.string (B_ #[110,111,118,101,109,98,101,114])] from rfl) (Reps.one (show Kd.M Kd.string _ _ _ (B_ #[100,101,99,101,109,98,101,114]) [.string (B_ #[100,101,99,101,109,98,101,114])] from rfl) (Reps.none _ _)))))))))))))); intro v109 w8 ho9 hb hg_ hnew_; clear hg_ hnew_; (first | rw [← Ny108.out] at ho9 | (simp only [Int.reduceToNat] at ho9; rw [← Ny108.out] at ho9)); have HO110 := am (Kd.R_lower (Kd.R_new' (Kd.R_new' ho9 (Kd.R_lt (R_st HO104.out))) (Kd.R_lt (R_st HO107.out))) (below_size (bes HB.out))); replace HO104 := am (Kd.R_elder' (R_st HO104.out) (Kd.R_base ho9) hb); replace HO107 := am (Kd.R_elder' (R_st HO107.out) (Kd.R_base ho9) hb); replace BK101 := kb BK101 hb; replace HB := bsp HB hb; clear hb ho9) | ((with_reducible refine gate_dst (N := 9) rfl ?_); refine Kd.R_lit Kd.string _ 9 ?hg (N := 9) ?hd (xs := ([(B_ #[109,111,110,100,97,121]), (B_ #[116,117,101,115,100,97,121]), (B_ #[119,101,100,110,101,115,100,97,121]), (B_ #[116,104,117,114,115,100,97,121]), (B_ #[102,114,105,100,97,121]), (B_ #[115,97,116,117,114,100,97,121]), (B_ #[115,117,110,100,97,121])] : List ByteArray)) (inner := [.string (B_ #[109,111,110,100,97,121]), .string (B_ #[116,117,101,115,100,97,121]), .string (B_ #[119,101,100,110,101,115,100,97,121]), .string (B_ #[116,104,117,114,115,100,97,121]), .string (B_ #[102,114,105,100,97,121]), .string (B_ #[115,97,116,117,114,100,97,121]), .string (B_ #[115,117,110,100,97,121])]) (ok := fun _ => True) (okp := fun _ => True) ?hr ?hp (fun _ hk => hk) trivial (Below.refl _ _) (Nat.le_refl _) (by simp) ?_; (case hd => rfl); (case hg => rfl); (case hr => first | (go_simp; done) | (go_simp; rfl)); (case hp => exact (Reps.one (show Kd.M Kd.string _ _ _ (B_ #[109,111,110,100,97,121]) [.string (B_ #[109,111,110,100,97,121])] from rfl) (Reps.one (show Kd.M Kd.string _ _ _ (B_ #[116,117,101,115,100,97,121]) [.string (B_ #[116,117,101,115,100,97,121])] from rfl) (Reps.one (show Kd.M Kd.string _ _ _ (B_ #[119,101,100,110,101,115,100,97,121]) [.string (B_ #[119,101,100,110,101,115,100,97,121])] from rfl) (Reps.one (show Kd.M Kd.string _ _ _ (B_ #[116,104,117,114,115,100,97,121]) [.string (B_ #[116,104,117,114,115,100,97,121])] from rfl) (Reps.one (show Kd.M Kd.string _ _ _ (B_ #[102,114,105,100,97,121]) [.string (B_ #[102,114,105,100,97,121])] from rfl) (Reps.one (show Kd.M Kd.string _ _ _ (B_ #[115,97,116,117,114,100,97,121]) [.string (B_ #[115,97,116,117,114,100,97,121])] from rfl) (Reps.one (show Kd.M Kd.string _ _ _ (B_ #[115,117,110,100,97,121]) [.string (B_ #[115,117,110,100,97,121])] from rfl) (Reps.none _ _))))))))); intro v112 w10 ho11 hb hg_ hnew_; clear hg_ hnew_; (first | rw [← Ny111.out] at ho11 | (simp only [Int.reduceToNat] at ho11; rw [← Ny111.out] at ho11)); have HO113 := am (Kd.R_lower (Kd.R_new' (Kd.R_new' (Kd.R_new' ho11 (Kd.R_lt (R_st HO104.out))) (Kd.R_lt (R_st HO107.out))) (Kd.R_lt (R_st HO110.out))) (below_size (bes HB.out))); replace HO104 := am (Kd.R_elder' (R_st HO104.out) (Kd.R_base ho11) hb); replace HO107 := am (Kd.R_elder' (R_st HO107.out) (Kd.R_base ho11) hb); replace HO110 := am (Kd.R_elder' (R_st HO110.out) (Kd.R_base ho11) hb); replace BK101 := kb BK101 hb; replace HB := bsp HB hb; clear hb ho11; obtain ⟨Ao12, co12, eo12⟩ := Kd.R_slice HO113.out; subst eo12; obtain ⟨Ao13, co13, eo13⟩ := Kd.R_slice HO110.out; subst eo13; obtain ⟨Ao14, co14, eo14⟩ := Kd.R_slice HO107.out; subst eo14; obtain ⟨Ao15, co15, eo15⟩ := Kd.R_slice HO104.out; subst eo15; have Z16_0 := z0 BK101.out; have Z16_1 := z1 BK101.out; have Z16_2 := z2 BK101.out; have Z16_3 := z3 BK101.out; have Z16_4 := z4 BK101.out; have Z16_5 := z5 BK101.out; have Z16_6 := z6 BK101.out; have F16_0 := fz BK101.out 0; have F16_1 := fz BK101.out 1; have F16_2 := fz BK101.out 2; have F16_3 := fz BK101.out 3; have F16_4 := fz BK101.out 4; have F16_5 := fz BK101.out 5; have F16_6 := fz BK101.out 6))
  refine bodyPost_ret (results_cell_row rfl _ _ gb101 59 #[.slice Ao15 y102.length co15, .slice Ao14 y105.length co14, .slice Ao13 y108.length co13, .slice Ao12 y111.length co12, .func (.func 57) #[] #[], .func (.func 58) #[] #[], .func (.func 60) #[] #[]] (0, 0) _ rfl (bp BK101.out) Tryd.underlying59 rfl (by kernel_rfl)) rfl ?_
  exact ⟨_, _, _, _, er, by exact rfm HO104.out BK101.out (fun _ hk => ⟨hk.1.1.1.2, ⟨hk.1.1.2, hk.1.2⟩⟩), by exact rfm HO107.out BK101.out (fun _ hk => ⟨hk.1.1.1.2, ⟨hk.1.1.2, hk.1.2⟩⟩), by exact rfm HO110.out BK101.out (fun _ hk => ⟨hk.1.1.1.2, ⟨hk.1.1.2, hk.1.2⟩⟩), by exact rfm HO113.out BK101.out (fun _ hk => ⟨hk.1.1.1.2, ⟨hk.1.1.2, hk.1.2⟩⟩), by exact bes HB.out⟩
 rw [if_neg c2] at H
 have c2b0 := bF c2
 have c2b1 := nT c2
 by_cases c17 : a0 = 2
 ·rw [if_pos c17] at H
  have c17b0 := bT c17
  have c17b1 := nF c17; clear c17; obtain ⟨y114, hy114⟩ : ∃ y_ : List ByteArray, y_ = (([(B_ #[110,117,108,108]), (B_ #[101,105,110,115]), (B_ #[122,119,101,105]), (B_ #[100,114,101,105]), (B_ #[118,105,101,114]), (B_ #[102,117,101,110,102]), (B_ #[115,101,99,104,115]), (B_ #[115,105,101,98,101,110]), (B_ #[97,99,104,116]), (B_ #[110,101,117,110]), (B_ #[122,101,104,110]), (B_ #[101,108,102]), (B_ #[122,119,111,101,108,102]), (B_ #[100,114,101,105,122,101,104,110]), (B_ #[118,105,101,114,122,101,104,110]), (B_ #[102,117,101,110,102,122,101,104,110]), (B_ #[115,101,99,104,122,101,104,110]), (B_ #[115,105,101,98,122,101,104,110]), (B_ #[97,99,104,116,122,101,104,110]), (B_ #[110,101,117,110,122,101,104,110])] : List ByteArray)) := ⟨_, rfl⟩; replace H : (some (y114, (([(B_ #[122,119,97,110,122,105,103]), (B_ #[100,114,101,105,115,115,105,103]), (B_ #[118,105,101,114,122,105,103]), (B_ #[102,117,101,110,102,122,105,103]), (B_ #[115,101,99,104,122,105,103]), (B_ #[115,105,101,98,122,105,103]), (B_ #[97,99,104,116,122,105,103]), (B_ #[110,101,117,110,122,105,103])] : List ByteArray)), (([(B_ #[106,97,110,117,97,114]), (B_ #[102,101,98,114,117,97,114]), (B_ #[109,97,101,114,122]), (B_ #[97,112,114,105,108]), (B_ #[109,97,105]), (B_ #[106,117,110,105]), (B_ #[106,117,108,105]), (B_ #[97,117,103,117,115,116]), (B_ #[115,101,112,116,101,109,98,101,114]), (B_ #[111,107,116,111,98,101,114]), (B_ #[110,111,118,101,109,98,101,114]), (B_ #[100,101,122,101,109,98,101,114])] : List ByteArray)), (([(B_ #[109,111,110,116,97,103]), (B_ #[100,105,101,110,115,116,97,103]), (B_ #[109,105,116,116,119,111,99,104]), (B_ #[100,111,110,110,101,114,115,116,97,103]), (B_ #[102,114,101,105,116,97,103]), (B_ #[115,97,109,115,116,97,103]), (B_ #[115,111,110,110,116,97,103])] : List ByteArray)), (some 61), (some 63), (some 64))) = some (r1, r2, r3, r4, r5, r6, r7) := by first | (rw [hy114]; with_reducible exact H) | (have H2_ := (Option.bind_some _ _).symm.trans H; rw [hy114]; with_reducible exact H2_) | (have H2_ := (Option.bind_some _ _).symm.trans H; with_reducible exact H2_) | with_reducible exact H | (rw [hy114]; exact H) | exact H
  have Ny114 := am hy114; clear hy114; obtain ⟨y117, hy117⟩ : ∃ y_ : List ByteArray, y_ = (([(B_ #[122,119,97,110,122,105,103]), (B_ #[100,114,101,105,115,115,105,103]), (B_ #[118,105,101,114,122,105,103]), (B_ #[102,117,101,110,102,122,105,103]), (B_ #[115,101,99,104,122,105,103]), (B_ #[115,105,101,98,122,105,103]), (B_ #[97,99,104,116,122,105,103]), (B_ #[110,101,117,110,122,105,103])] : List ByteArray)) := ⟨_, rfl⟩; replace H : (some (y114, y117, (([(B_ #[106,97,110,117,97,114]), (B_ #[102,101,98,114,117,97,114]), (B_ #[109,97,101,114,122]), (B_ #[97,112,114,105,108]), (B_ #[109,97,105]), (B_ #[106,117,110,105]), (B_ #[106,117,108,105]), (B_ #[97,117,103,117,115,116]), (B_ #[115,101,112,116,101,109,98,101,114]), (B_ #[111,107,116,111,98,101,114]), (B_ #[110,111,118,101,109,98,101,114]), (B_ #[100,101,122,101,109,98,101,114])] : List ByteArray)), (([(B_ #[109,111,110,116,97,103]), (B_ #[100,105,101,110,115,116,97,103]), (B_ #[109,105,116,116,119,111,99,104]), (B_ #[100,111,110,110,101,114,115,116,97,103]), (B_ #[102,114,101,105,116,97,103]), (B_ #[115,97,109,115,116,97,103]), (B_ #[115,111,110,110,116,97,103])] : List ByteArray)), (some 61), (some 63), (some 64))) = some (r1, r2, r3, r4, r5, r6, r7) := by first | (rw [hy117]; with_reducible exact H) | (have H2_ := (Option.bind_some _ _).symm.trans H; rw [hy117]; with_reducible exact H2_) | (have H2_ := (Option.bind_some _ _).symm.trans H; with_reducible exact H2_) | with_reducible exact H | (rw [hy117]; exact H) | exact H
  have Ny117 := am hy117; clear hy117; obtain ⟨y120, hy120⟩ : ∃ y_ : List ByteArray, y_ = (([(B_ #[106,97,110,117,97,114]), (B_ #[102,101,98,114,117,97,114]), (B_ #[109,97,101,114,122]), (B_ #[97,112,114,105,108]), (B_ #[109,97,105]), (B_ #[106,117,110,105]), (B_ #[106,117,108,105]), (B_ #[97,117,103,117,115,116]), (B_ #[115,101,112,116,101,109,98,101,114]), (B_ #[111,107,116,111,98,101,114]), (B_ #[110,111,118,101,109,98,101,114]), (B_ #[100,101,122,101,109,98,101,114])] : List ByteArray)) := ⟨_, rfl⟩; replace H : (some (y114, y117, y120, (([(B_ #[109,111,110,116,97,103]), (B_ #[100,105,101,110,115,116,97,103]), (B_ #[109,105,116,116,119,111,99,104]), (B_ #[100,111,110,110,101,114,115,116,97,103]), (B_ #[102,114,101,105,116,97,103]), (B_ #[115,97,109,115,116,97,103]), (B_ #[115,111,110,110,116,97,103])] : List ByteArray)), (some 61), (some 63), (some 64))) = some (r1, r2, r3, r4, r5, r6, r7) := by first | (rw [hy120]; with_reducible exact H) | (have H2_ := (Option.bind_some _ _).symm.trans H; rw [hy120]; with_reducible exact H2_) | (have H2_ := (Option.bind_some _ _).symm.trans H; with_reducible exact H2_) | with_reducible exact H | (rw [hy120]; exact H) | exact H
  have Ny120 := am hy120; clear hy120; obtain ⟨y123, hy123⟩ : ∃ y_ : List ByteArray, y_ = (([(B_ #[109,111,110,116,97,103]), (B_ #[100,105,101,110,115,116,97,103]), (B_ #[109,105,116,116,119,111,99,104]), (B_ #[100,111,110,110,101,114,115,116,97,103]), (B_ #[102,114,101,105,116,97,103]), (B_ #[115,97,109,115,116,97,103]), (B_ #[115,111,110,110,116,97,103])] : List ByteArray)) := ⟨_, rfl⟩; replace H : (some (y114, y117, y120, y123, (some 61), (some 63), (some 64))) = some (r1, r2, r3, r4, r5, r6, r7) := by first | (rw [hy123]; with_reducible exact H) | (have H2_ := (Option.bind_some _ _).symm.trans H; rw [hy123]; with_reducible exact H2_) | (have H2_ := (Option.bind_some _ _).symm.trans H; with_reducible exact H2_) | with_reducible exact H | (rw [hy123]; exact H) | exact H
  have Ny123 := am hy123; clear hy123; simp only [Option.some.injEq, Prod.mk.injEq] at H; obtain ⟨rfl, rfl, rfl, rfl, rfl, rfl, rfl⟩ := H
  go_enter Tryd.func36, Tryd.ntmps36
  go_wp2_with (first | ((with_reducible refine gate_dst (N := 2) rfl ?_); refine bx 2 #[.slice none 0 0, .slice none 0 0, .slice none 0 0, .slice none 0 0, .nilFunc, .nilFunc, .nilFunc] 59 ?_; intro gb101 hg w18 hbox hb; have BK101 := am hbox; have GW101 := gwm hg HB; have GE101 := gem hg HB; replace HB := bsp HB hb; clear hb hbox hg) | ((with_reducible refine gate_dst (N := 13) rfl ?_); refine Kd.R_lit Kd.string _ 9 ?hg (N := 13) ?hd (xs := ([(B_ #[110,117,108,108]), (B_ #[101,105,110,115]), (B_ #[122,119,101,105]), (B_ #[100,114,101,105]), (B_ #[118,105,101,114]), (B_ #[102,117,101,110,102]), (B_ #[115,101,99,104,115]), (B_ #[115,105,101,98,101,110]), (B_ #[97,99,104,116]), (B_ #[110,101,117,110]), (B_ #[122,101,104,110]), (B_ #[101,108,102]), (B_ #[122,119,111,101,108,102]), (B_ #[100,114,101,105,122,101,104,110]), (B_ #[118,105,101,114,122,101,104,110]), (B_ #[102,117,101,110,102,122,101,104,110]), (B_ #[115,101,99,104,122,101,104,110]), (B_ #[115,105,101,98,122,101,104,110]), (B_ #[97,99,104,116,122,101,104,110]), (B_ #[110,101,117,110,122,101,104,110])] : List ByteArray)) (inner := [.string (B_ #[110,117,108,108]), .string (B_ #[101,105,110,115]), .string (B_ #[122,119,101,105]), .string (B_ #[100,114,101,105]), .string (B_ #[118,105,101,114]), .string (B_ #[102,117,101,110,102]), .string (B_ #[115,101,99,104,115]), .string (B_ #[115,105,101,98,101,110]), .string (B_ #[97,99,104,116]), .string (B_ #[110,101,117,110]), .string (B_ #[122,101,104,110]), .string (B_ #[101,108,102]), .string (B_ #[122,119,111,101,108,102]), .string (B_ #[100,114,101,105,122,101,104,110]), .string (B_ #[118,105,101,114,122,101,104,110]), .string (B_ #[102,117,101,110,102,122,101,104,110]), .string (B_ #[115,101,99,104,122,101,104,110]), .string (B_ #[115,105,101,98,122,101,104,110]), .string (B_ #[97,99,104,116,122,101,104,110]), .string (B_ #[110,101,117,110,122,101,104,110])]) (ok := fun _ => True) (okp := fun _ => True) ?hr ?hp (fun _ hk => hk) trivial (Below.refl _ _) (Nat.le_refl _) (by simp) ?_; (case hd => rfl); (case hg => rfl); (case hr => first | (go_simp; done) | (go_simp; rfl)); (case hp => exact (Reps.one (show Kd.M Kd.string _ _ _ (B_ #[110,117,108,108]) [.string (B_ #[110,117,108,108])] from rfl) (Reps.one (show Kd.M Kd.string _ _ _ (B_ #[101,105,110,115]) [.string (B_ #[101,105,110,115])] from rfl) (Reps.one (show Kd.M Kd.string _ _ _ (B_ #[122,119,101,105]) [.string (B_ #[122,119,101,105])] from rfl) (Reps.one (show Kd.M Kd.string _ _ _ (B_ #[100,114,101,105]) [.string (B_ #[100,114,101,105])] from rfl) (Reps.one (show Kd.M Kd.string _ _ _ (B_ #[118,105,101,114]) [.string (B_ #[118,105,101,114])] from rfl) (Reps.one (show Kd.M Kd.string _ _ _ (B_ #[102,117,101,110,102]) [.string (B_ #[102,117,101,110,102])] from rfl) (Reps.one (show Kd.M Kd.string _ _ _ (B_ #[115,101,99,104,115]) [.string (B_ #[115,101,99,104,115])] from rfl) (Reps.one (show Kd.M Kd.string _ _ _ (B_ #[115,105,101,98,101,110]) [.string (B_ #[115,105,101,98,101,110])] from rfl) (Reps.one (show Kd.M Kd.string _ _ _ (B_ #[97,99,104,116]) [.string (B_ #[97,99,104,116])] from rfl) (Reps.one (show Kd.M Kd.string _ _ _ (B_ #[110,101,117,110]) [.string (B_ #[110,101,117,110])] from rfl) (Reps.one (show Kd.M Kd.string _ _ _ (B_ #[122,101,104,110]) [.string (B_ #[122,101,104,110])] from rfl) (Reps.one (show Kd.M Kd.string _ _ _ (B_ #[101,108,102]) [.string (B_ #[101,108,102])] from rfl) (Reps.one (show Kd.M Kd.string _ _ _ (B_ #[122,119,111,101,108,102]) [.string (B_ #[122,119,111,101,108,102])] from rfl) (Reps.one (show Kd.M Kd.string _ _ _ (B_ #[100,114,101,105,122,101,104,110]) [.string (B_ #[100,114,101,105,122,101,104,110])] from rfl) (Reps.one (show Kd.M Kd.string _ _ _ (B_ #[118,105,101,114,122,101,104,110]) [.string (B_ #[118,105,101,114,122,101,104,110])] from rfl) (Reps.one (show Kd.M Kd.string _ _ _ (B_ #[102,117,101,110,102,122,101,104,110]) [.string (B_ #[102,117,101,110,102,122,101,104,110])] from rfl) (Reps.one (show Kd.M Kd.string _ _ _ (B_ #[115,101,99,104,122,101,104,110]) [.string (B_ #[115,101,99,104,122,101,104,110])] from rfl) (Reps.one (show Kd.M Kd.string _ _ _ (B_ #[115,105,101,98,122,101,104,110]) [.string (B_ #[115,105,101,98,122,101,104,110])] from rfl) (Reps.one (show Kd.M Kd.string _ _ _ (B_ #[97,99,104,116,122,101,104,110]) [.string (B_ #[97,99,104,116,122,101,104,110])] from rfl) (Reps.one (show Kd.M Kd.string _ _ _ (B_ #[110,101,117,110,122,101,104,110]) [.string (B_ #[110,101,117,110,122,101,104,110])] from rfl) (Reps.none _ _)))))))))))))))))))))); intro v115 w19 ho20 hb hg_ hnew_; clear hg_ hnew_; (first | rw [← Ny114.out] at ho20 | (simp only [Int.reduceToNat] at ho20; rw [← Ny114.out] at ho20)); have HO116 := am (Kd.R_lower ho20 (below_size (bes HB.out))); replace BK101 := kb BK101 hb; replace HB := bsp HB hb; clear hb ho20) | ((with_reducible refine gate_dst (N := 14) rfl ?_); refine Kd.R_lit Kd.string _ 9 ?hg (N := 14) ?hd (xs := ([(B_ #[122,119,97,110,122,105,103]), (B_ #[100,114,101,105,115,115,105,103]), (B_ #[118,105,101,114,122,105,103]), (B_ #[102,117,101,110,102,122,105,103]), (B_ #[115,101,99,104,122,105,103]), (B_ #[115,105,101,98,122,105,103]), (B_ #[97,99,104,116,122,105,103]), (B_ #[110,101,117,110,122,105,103])] : List ByteArray)) (inner := [.string (B_ #[122,119,97,110,122,105,103]), .string (B_ #[100,114,101,105,115,115,105,103]), .string (B_ #[118,105,101,114,122,105,103]), .string (B_ #[102,117,101,110,102,122,105,103]), .string (B_ #[115,101,99,104,122,105,103]), .string (B_ #[115,105,101,98,122,105,103]), .string (B_ #[97,99,104,116,122,105,103]), .string (B_ #[110,101,117,110,122,105,103])]) (ok := fun _ => True) (okp := fun _ => True) ?hr ?hp (fun _ hk => hk) trivial (Below.refl _ _) (Nat.le_refl _) (by simp) ?_; (case hd => rfl); (case hg => rfl); (case hr => first | (go_simp; done) | (go_simp; rfl)); (case hp => exact (Reps.one (show Kd.M Kd.string _ _ _ (B_ #[122,119,97,110,122,105,103]) [.string (B_ #[122,119,97,110,122,105,103])] from rfl) (Reps.one (show Kd.M Kd.string _ _ _ (B_ #[100,114,101,105,115,115,105,103]) [.string (B_ #[100,114,101,105,115,115,105,103])] from rfl) (Reps.one (show Kd.M Kd.string _ _ _ (B_ #[118,105,101,114,122,105,103]) [.string (B_ #[118,105,101,114,122,105,103])] from rfl) (Reps.one (show Kd.M Kd.string _ _ _ (B_ #[102,117,101,110,102,122,105,103]) [.string (B_ #[102,117,101,110,102,122,105,103])] from rfl) (Reps.one (show Kd.M Kd.string _ _ _ (B_ #[115,101,99,104,122,105,103]) [.string (B_ #[115,101,99,104,122,105,103])] from rfl) (Reps.one (show Kd.M Kd.string _ _ _ (B_ #[115,105,101,98,122,105,103]) [.string (B_ #[115,105,101,98,122,105,103])] from rfl) (Reps.one (show Kd.M Kd.string _ _ _ (B_ #[97,99,104,116,122,105,103]) [.string (B_ #[97,99,104,116,122,105,103])] from rfl) (Reps.one (show Kd.M Kd.string _ _ _ (B_ #[110,101,117,110,122,105,103]) [.string (B_ #[110,101,117,110,122,105,103])] from rfl) (Reps.none _ _)))))))))); intro v118 w21 ho22 hb hg_ hnew_; clear hg_ hnew_; (first | rw [← Ny117.out] at ho22 | (simp only [Int.reduceToNat] at ho22; rw [← Ny117.out] at ho22)); have HO119 := am (Kd.R_lower (Kd.R_new' ho22 (Kd.R_lt (R_st HO116.out))) (below_size (bes HB.out))); replace HO116 := am (Kd.R_elder' (R_st HO116.out) (Kd.R_base ho22) hb); replace BK101 := kb BK101 hb; replace HB := bsp HB hb; clear hb ho22) | ((with_reducible refine gate_dst (N := 15) rfl ?_); refine Kd.R_lit Kd.string _ 9 ?hg (N := 15) ?hd (xs := ([(B_ #[106,97,110,117,97,114]), (B_ #[102,101,98,114,117,97,114]), (B_ #[109,97,101,114,122]), (B_ #[97,112,114,105,108]), (B_ #[109,97,105]), (B_ #[106,117,110,105]), (B_ #[106,117,108,105]), (B_ #[97,117,103,117,115,116]), (B_ #[115,101,112,116,101,109,98,101,114]), (B_ #[111,107,116,111,98,101,114]), (B_ #[110,111,118,101,109,98,101,114]), (B_ #[100,101,122,101,109,98,101,114])] : List ByteArray)) (inner := [.string (B_ #[106,97,110,117,97,114]), .string (B_ #[102,101,98,114,117,97,114]), .string (B_ #[109,97,101,114,122]), .string (B_ #[97,112,114,105,108]), .string (B_ #[109,97,105]), .string (B_ #[106,117,110,105]), .string (B_ #[106,117,108,105]), .string (B_ #[97,117,103,117,115,116]), .string (B_ #[115,101,112,116,101,109,98,101,114]), .string (B_ #[111,107,116,111,98,101,114]), .string (B_ #[110,111,118,101,109,98,101,114]), .string (B_ #[100,101,122,101,109,98,101,114])]) (ok := fun _ => True) (okp := fun _ => True) ?hr ?hp (fun _ hk => hk) trivial (Below.refl _ _) (Nat.le_refl _) (by simp) ?_; (case hd => rfl); (case hg => rfl); (case hr => first | (go_simp; done) | (go_simp; rfl)); (case hp => exact (Reps.one (show Kd.M Kd.string _ _ _ (B_ #[106,97,110,117,97,114]) [.string (B_ #[106,97,110,117,97,114])] from rfl) (Reps.one (show Kd.M Kd.string _ _ _ (B_ #[102,101,98,114,117,97,114]) [.string (B_ #[102,101,98,114,117,97,114])] from rfl) (Reps.one (show Kd.M Kd.string _ _ _ (B_ #[109,97,101,114,122]) [.string (B_ #[109,97,101,114,122])] from rfl) (Reps.one (show Kd.M Kd.string _ _ _ (B_ #[97,112,114,105,108]) [.string (B_ #[97,112,114,105,108])] from rfl) (Reps.one (show Kd.M Kd.string _ _ _ (B_ #[109,97,105]) [.string (B_ #[109,97,105])] from rfl) (Reps.one (show Kd.M Kd.string _ _ _ (B_ #[106,117,110,105]) [.string (B_ #[106,117,110,105])] from rfl) (Reps.one (show Kd.M Kd.string _ _ _ (B_ #[106,117,108,105]) [.string (B_ #[106,117,108,105])] from rfl) (Reps.one (show Kd.M Kd.string _ _ _ (B_ #[97,117,103,117,115,116]) [.string (B_ #[97,117,103,117,115,116])] from rfl) (Reps.one (show Kd.M Kd.string _ _ _ (B_ #[115,101,112,116,101,109,98,101,114]) [.string (B_ #[115,101,112,116,101,109,98,101,114])] from rfl) (Reps.one (show Kd.M Kd.string _ _ _ (B_ #[111,107,116,111,98,101,114]) [.string (B_ #[111,107,116,111,98,101,114])] from rfl) (Reps.one (show Kd.M Kd.string _ _ _ (B_ #[110,111,118,101,109,98,101,114]) [.string (B_ #[110,111,118,101,109,98,101,114])] from rfl) (Reps.one (show Kd.M Kd.string _ _ _ (B_ #[100,101,122,101,109,98,101,114]) [.string (B_ #[100,101,122,101,109,98,101,114])] from rfl) (Reps.none _ _)))))))))))))); intro v121 w23 ho24 hb hg_ hnew_; clear hg_ hnew_; (first | rw [← Ny120.out] at ho24 | (simp only [Int.reduceToNat] at ho24; rw [← Ny120.out] at ho24)); have HO122 := am (Kd.R_lower (Kd.R_new' (Kd.R_new' ho24 (Kd.R_lt (R_st HO116.out))) (Kd.R_lt (R_st HO119.out))) (below_size (bes HB.out))); replace HO116 := am (Kd.R_elder' (R_st HO116.out) (Kd.R_base ho24) hb); replace HO119 := am (Kd.R_elder' (R_st HO119.out) (Kd.R_base ho24) hb); replace BK101 := kb BK101 hb; replace HB := bsp HB hb; clear hb ho24) | ((with_reducible refine gate_dst (N := 16) rfl ?_); refine Kd.R_lit Kd.string _ 9 ?hg (N := 16) ?hd (xs := ([(B_ #[109,111,110,116,97,103]), (B_ #[100,105,101,110,115,116,97,103]), (B_ #[109,105,116,116,119,111,99,104]), (B_ #[100,111,110,110,101,114,115,116,97,103]), (B_ #[102,114,101,105,116,97,103]), (B_ #[115,97,109,115,116,97,103]), (B_ #[115,111,110,110,116,97,103])] : List ByteArray)) (inner := [.string (B_ #[109,111,110,116,97,103]), .string (B_ #[100,105,101,110,115,116,97,103]), .string (B_ #[109,105,116,116,119,111,99,104]), .string (B_ #[100,111,110,110,101,114,115,116,97,103]), .string (B_ #[102,114,101,105,116,97,103]), .string (B_ #[115,97,109,115,116,97,103]), .string (B_ #[115,111,110,110,116,97,103])]) (ok := fun _ => True) (okp := fun _ => True) ?hr ?hp (fun _ hk => hk) trivial (Below.refl _ _) (Nat.le_refl _) (by simp) ?_; (case hd => rfl); (case hg => rfl); (case hr => first | (go_simp; done) | (go_simp; rfl)); (case hp => exact (Reps.one (show Kd.M Kd.string _ _ _ (B_ #[109,111,110,116,97,103]) [.string (B_ #[109,111,110,116,97,103])] from rfl) (Reps.one (show Kd.M Kd.string _ _ _ (B_ #[100,105,101,110,115,116,97,103]) [.string (B_ #[100,105,101,110,115,116,97,103])] from rfl) (Reps.one (show Kd.M Kd.string _ _ _ (B_ #[109,105,116,116,119,111,99,104]) [.string (B_ #[109,105,116,116,119,111,99,104])] from rfl) (Reps.one (show Kd.M Kd.string _ _ _ (B_ #[100,111,110,110,101,114,115,116,97,103]) [.string (B_ #[100,111,110,110,101,114,115,116,97,103])] from rfl) (Reps.one (show Kd.M Kd.string _ _ _ (B_ #[102,114,101,105,116,97,103]) [.string (B_ #[102,114,101,105,116,97,103])] from rfl) (Reps.one (show Kd.M Kd.string _ _ _ (B_ #[115,97,109,115,116,97,103]) [.string (B_ #[115,97,109,115,116,97,103])] from rfl) (Reps.one (show Kd.M Kd.string _ _ _ (B_ #[115,111,110,110,116,97,103]) [.string (B_ #[115,111,110,110,116,97,103])] from rfl) (Reps.none _ _))))))))); intro v124 w25 ho26 hb hg_ hnew_; clear hg_ hnew_; (first | rw [← Ny123.out] at ho26 | (simp only [Int.reduceToNat] at ho26; rw [← Ny123.out] at ho26)); have HO125 := am (Kd.R_lower (Kd.R_new' (Kd.R_new' (Kd.R_new' ho26 (Kd.R_lt (R_st HO116.out))) (Kd.R_lt (R_st HO119.out))) (Kd.R_lt (R_st HO122.out))) (below_size (bes HB.out))); replace HO116 := am (Kd.R_elder' (R_st HO116.out) (Kd.R_base ho26) hb); replace HO119 := am (Kd.R_elder' (R_st HO119.out) (Kd.R_base ho26) hb); replace HO122 := am (Kd.R_elder' (R_st HO122.out) (Kd.R_base ho26) hb); replace BK101 := kb BK101 hb; replace HB := bsp HB hb; clear hb ho26; obtain ⟨Ao27, co27, eo27⟩ := Kd.R_slice HO125.out; subst eo27; obtain ⟨Ao28, co28, eo28⟩ := Kd.R_slice HO122.out; subst eo28; obtain ⟨Ao29, co29, eo29⟩ := Kd.R_slice HO119.out; subst eo29; obtain ⟨Ao30, co30, eo30⟩ := Kd.R_slice HO116.out; subst eo30; have Z31_0 := z0 BK101.out; have Z31_1 := z1 BK101.out; have Z31_2 := z2 BK101.out; have Z31_3 := z3 BK101.out; have Z31_4 := z4 BK101.out; have Z31_5 := z5 BK101.out; have Z31_6 := z6 BK101.out; have F31_0 := fz BK101.out 0; have F31_1 := fz BK101.out 1; have F31_2 := fz BK101.out 2; have F31_3 := fz BK101.out 3; have F31_4 := fz BK101.out 4; have F31_5 := fz BK101.out 5; have F31_6 := fz BK101.out 6))
  refine bodyPost_ret (results_cell_row rfl _ _ gb101 59 #[.slice Ao30 y114.length co30, .slice Ao29 y117.length co29, .slice Ao28 y120.length co28, .slice Ao27 y123.length co27, .func (.func 61) #[] #[], .func (.func 63) #[] #[], .func (.func 64) #[] #[]] (0, 0) _ rfl (bp BK101.out) Tryd.underlying59 rfl (by kernel_rfl)) rfl ?_
  exact ⟨_, _, _, _, er, by exact rfm HO116.out BK101.out (fun _ hk => ⟨hk.1.1.1.2, ⟨hk.1.1.2, hk.1.2⟩⟩), by exact rfm HO119.out BK101.out (fun _ hk => ⟨hk.1.1.1.2, ⟨hk.1.1.2, hk.1.2⟩⟩), by exact rfm HO122.out BK101.out (fun _ hk => ⟨hk.1.1.1.2, ⟨hk.1.1.2, hk.1.2⟩⟩), by exact rfm HO125.out BK101.out (fun _ hk => ⟨hk.1.1.1.2, ⟨hk.1.1.2, hk.1.2⟩⟩), by exact bes HB.out⟩
 rw [if_neg c17] at H
 have c17b0 := bF c17
 have c17b1 := nT c17
 by_cases c32 : a0 = 3; rotate_left
 ·rw [if_neg c32] at H
  have c32b0 := bF c32
  have c32b1 := nT c32; simp only [Option.some.injEq, Prod.mk.injEq] at H; obtain ⟨rfl, rfl, rfl, rfl, rfl, rfl, rfl⟩ := H
  go_enter Tryd.func36, Tryd.ntmps36
  go_wp2_with (first | ((with_reducible refine gate_dst (N := 2) rfl ?_); refine bx 2 #[.slice none 0 0, .slice none 0 0, .slice none 0 0, .slice none 0 0, .nilFunc, .nilFunc, .nilFunc] 59 ?_; intro gb101 hg w47 hbox hb; have BK101 := am hbox; have GW101 := gwm hg HB; have GE101 := gem hg HB; replace HB := bsp HB hb; clear hb hbox hg; have Z48_0 := z0 BK101.out; have Z48_1 := z1 BK101.out; have Z48_2 := z2 BK101.out; have Z48_3 := z3 BK101.out; have Z48_4 := z4 BK101.out; have Z48_5 := z5 BK101.out; have Z48_6 := z6 BK101.out; have F48_0 := fz BK101.out 0; have F48_1 := fz BK101.out 1; have F48_2 := fz BK101.out 2; have F48_3 := fz BK101.out 3; have F48_4 := fz BK101.out 4; have F48_5 := fz BK101.out 5; have F48_6 := fz BK101.out 6))
  refine bodyPost_ret (results_cell_row rfl _ _ gb101 59 #[.slice none 0 0, .slice none 0 0, .slice none 0 0, .slice none 0 0, .nilFunc, .nilFunc, .nilFunc] (0, 0) _ rfl (bp BK101.out) Tryd.underlying59 rfl (by kernel_rfl)) rfl ?_
  exact ⟨_, _, _, _, er, nil0, nil0, nil0, nil0, by exact bes HB.out⟩
 rw [if_pos c32] at H
 have c32b0 := bT c32
 have c32b1 := nF c32; clear c32; obtain ⟨y126, hy126⟩ : ∃ y_ : List ByteArray, y_ = (([(B_ #[99,101,114,111]), (B_ #[117,110,111]), (B_ #[100,111,115]), (B_ #[116,114,101,115]), (B_ #[99,117,97,116,114,111]), (B_ #[99,105,110,99,111]), (B_ #[115,101,105,115]), (B_ #[115,105,101,116,101]), (B_ #[111,99,104,111]), (B_ #[110,117,101,118,101]), (B_ #[100,105,101,122]), (B_ #[111,110,99,101]), (B_ #[100,111,99,101]), (B_ #[116,114,101,99,101]), (B_ #[99,97,116,111,114,99,101]), (B_ #[113,117,105,110,99,101]), (B_ #[100,105,101,99,105,115,101,105,115]), (B_ #[100,105,101,99,105,115,105,101,116,101]), (B_ #[100,105,101,99,105,111,99,104,111]), (B_ #[100,105,101,99,105,110,117,101,118,101])] : List ByteArray)) := ⟨_, rfl⟩; replace H : (some (y126, (([(B_ #[118,101,105,110,116,101]), (B_ #[116,114,101,105,110,116,97]), (B_ #[99,117,97,114,101,110,116,97]), (B_ #[99,105,110,99,117,101,110,116,97]), (B_ #[115,101,115,101,110,116,97]), (B_ #[115,101,116,101,110,116,97]), (B_ #[111,99,104,101,110,116,97]), (B_ #[110,111,118,101,110,116,97])] : List ByteArray)), (([(B_ #[101,110,101,114,111]), (B_ #[102,101,98,114,101,114,111]), (B_ #[109,97,114,122,111]), (B_ #[97,98,114,105,108]), (B_ #[109,97,121,111]), (B_ #[106,117,110,105,111]), (B_ #[106,117,108,105,111]), (B_ #[97,103,111,115,116,111]), (B_ #[115,101,112,116,105,101,109,98,114,101]), (B_ #[111,99,116,117,98,114,101]), (B_ #[110,111,118,105,101,109,98,114,101]), (B_ #[100,105,99,105,101,109,98,114,101])] : List ByteArray)), (([(B_ #[108,117,110,101,115]), (B_ #[109,97,114,116,101,115]), (B_ #[109,105,101,114,99,111,108,101,115]), (B_ #[106,117,101,118,101,115]), (B_ #[118,105,101,114,110,101,115]), (B_ #[115,97,98,97,100,111]), (B_ #[100,111,109,105,110,103,111])] : List ByteArray)), (some 65), (some 66), (some 67))) = some (r1, r2, r3, r4, r5, r6, r7) := by first | (rw [hy126]; with_reducible exact H) | (have H2_ := (Option.bind_some _ _).symm.trans H; rw [hy126]; with_reducible exact H2_) | (have H2_ := (Option.bind_some _ _).symm.trans H; with_reducible exact H2_) | with_reducible exact H | (rw [hy126]; exact H) | exact H
 have Ny126 := am hy126; clear hy126; obtain ⟨y129, hy129⟩ : ∃ y_ : List ByteArray, y_ = (([(B_ #[118,101,105,110,116,101]), (B_ #[116,114,101,105,110,116,97]), (B_ #[99,117,97,114,101,110,116,97]), (B_ #[99,105,110,99,117,101,110,116,97]), (B_ #[115,101,115,101,110,116,97]), (B_ #[115,101,116,101,110,116,97]), (B_ #[111,99,104,101,110,116,97]), (B_ #[110,111,118,101,110,116,97])] : List ByteArray)) := ⟨_, rfl⟩; replace H : (some (y126, y129, (([(B_ #[101,110,101,114,111]), (B_ #[102,101,98,114,101,114,111]), (B_ #[109,97,114,122,111]), (B_ #[97,98,114,105,108]), (B_ #[109,97,121,111]), (B_ #[106,117,110,105,111]), (B_ #[106,117,108,105,111]), (B_ #[97,103,111,115,116,111]), (B_ #[115,101,112,116,105,101,109,98,114,101]), (B_ #[111,99,116,117,98,114,101]), (B_ #[110,111,118,105,101,109,98,114,101]), (B_ #[100,105,99,105,101,109,98,114,101])] : List ByteArray)), (([(B_ #[108,117,110,101,115]), (B_ #[109,97,114,116,101,115]), (B_ #[109,105,101,114,99,111,108,101,115]), (B_ #[106,117,101,118,101,115]), (B_ #[118,105,101,114,110,101,115]), (B_ #[115,97,98,97,100,111]), (B_ #[100,111,109,105,110,103,111])] : List ByteArray)), (some 65), (some 66), (some 67))) = some (r1, r2, r3, r4, r5, r6, r7) := by first | (rw [hy129]; with_reducible exact H) | (have H2_ := (Option.bind_some _ _).symm.trans H; rw [hy129]; with_reducible exact H2_) | (have H2_ := (Option.bind_some _ _).symm.trans H; with_reducible exact H2_) | with_reducible exact H | (rw [hy129]; exact H) | exact H
 have Ny129 := am hy129; clear hy129; obtain ⟨y132, hy132⟩ : ∃ y_ : List ByteArray, y_ = (([(B_ #[101,110,101,114,111]), (B_ #[102,101,98,114,101,114,111]), (B_ #[109,97,114,122,111]), (B_ #[97,98,114,105,108]), (B_ #[109,97,121,111]), (B_ #[106,117,110,105,111]), (B_ #[106,117,108,105,111]), (B_ #[97,103,111,115,116,111]), (B_ #[115,101,112,116,105,101,109,98,114,101]), (B_ #[111,99,116,117,98,114,101]), (B_ #[110,111,118,105,101,109,98,114,101]), (B_ #[100,105,99,105,101,109,98,114,101])] : List ByteArray)) := ⟨_, rfl⟩; replace H : (some (y126, y129, y132, (([(B_ #[108,117,110,101,115]), (B_ #[109,97,114,116,101,115]), (B_ #[109,105,101,114,99,111,108,101,115]), (B_ #[106,117,101,118,101,115]), (B_ #[118,105,101,114,110,101,115]), (B_ #[115,97,98,97,100,111]), (B_ #[100,111,109,105,110,103,111])] : List ByteArray)), (some 65), (some 66), (some 67))) = some (r1, r2, r3, r4, r5, r6, r7) := by first | (rw [hy132]; with_reducible exact H) | (have H2_ := (Option.bind_some _ _).symm.trans H; rw [hy132]; with_reducible exact H2_) | (have H2_ := (Option.bind_some _ _).symm.trans H; with_reducible exact H2_) | with_reducible exact H | (rw [hy132]; exact H) | exact H
 have Ny132 := am hy132; clear hy132; obtain ⟨y135, hy135⟩ : ∃ y_ : List ByteArray, y_ = (([(B_ #[108,117,110,101,115]), (B_ #[109,97,114,116,101,115]), (B_ #[109,105,101,114,99,111,108,101,115]), (B_ #[106,117,101,118,101,115]), (B_ #[118,105,101,114,110,101,115]), (B_ #[115,97,98,97,100,111]), (B_ #[100,111,109,105,110,103,111])] : List ByteArray)) := ⟨_, rfl⟩; replace H : (some (y126, y129, y132, y135, (some 65), (some 66), (some 67))) = some (r1, r2, r3, r4, r5, r6, r7) := by first | (rw [hy135]; with_reducible exact H) | (have H2_ := (Option.bind_some _ _).symm.trans H; rw [hy135]; with_reducible exact H2_) | (have H2_ := (Option.bind_some _ _).symm.trans H; with_reducible exact H2_) | with_reducible exact H | (rw [hy135]; exact H) | exact H
 have Ny135 := am hy135; clear hy135; simp only [Option.some.injEq, Prod.mk.injEq] at H; obtain ⟨rfl, rfl, rfl, rfl, rfl, rfl, rfl⟩ := H
 go_enter Tryd.func36, Tryd.ntmps36
 go_wp2_with (first | ((with_reducible refine gate_dst (N := 2) rfl ?_); refine bx 2 #[.slice none 0 0, .slice none 0 0, .slice none 0 0, .slice none 0 0, .nilFunc, .nilFunc, .nilFunc] 59 ?_; intro gb101 hg w33 hbox hb; have BK101 := am hbox; have GW101 := gwm hg HB; have GE101 := gem hg HB; replace HB := bsp HB hb; clear hb hbox hg) | ((with_reducible refine gate_dst (N := 20) rfl ?_); refine Kd.R_lit Kd.string _ 9 ?hg (N := 20) ?hd (xs := ([(B_ #[99,101,114,111]), (B_ #[117,110,111]), (B_ #[100,111,115]), (B_ #[116,114,101,115]), (B_ #[99,117,97,116,114,111]), (B_ #[99,105,110,99,111]), (B_ #[115,101,105,115]), (B_ #[115,105,101,116,101]), (B_ #[111,99,104,111]), (B_ #[110,117,101,118,101]), (B_ #[100,105,101,122]), (B_ #[111,110,99,101]), (B_ #[100,111,99,101]), (B_ #[116,114,101,99,101]), (B_ #[99,97,116,111,114,99,101]), (B_ #[113,117,105,110,99,101]), (B_ #[100,105,101,99,105,115,101,105,115]), (B_ #[100,105,101,99,105,115,105,101,116,101]), (B_ #[100,105,101,99,105,111,99,104,111]), (B_ #[100,105,101,99,105,110,117,101,118,101])] : List ByteArray)) (inner := [.string (B_ #[99,101,114,111]), .string (B_ #[117,110,111]), .string (B_ #[100,111,115]), .string (B_ #[116,114,101,115]), .string (B_ #[99,117,97,116,114,111]), .string (B_ #[99,105,110,99,111]), .string (B_ #[115,101,105,115]), .string (B_ #[115,105,101,116,101]), .string (B_ #[111,99,104,111]), .string (B_ #[110,117,101,118,101]), .string (B_ #[100,105,101,122]), .string (B_ #[111,110,99,101]), .string (B_ #[100,111,99,101]), .string (B_ #[116,114,101,99,101]), .string (B_ #[99,97,116,111,114,99,101]), .string (B_ #[113,117,105,110,99,101]), .string (B_ #[100,105,101,99,105,115,101,105,115]), .string (B_ #[100,105,101,99,105,115,105,101,116,101]), .string (B_ #[100,105,101,99,105,111,99,104,111]), .string (B_ #[100,105,101,99,105,110,117,101,118,101])]) (ok := fun _ => True) (okp := fun _ => True) ?hr ?hp (fun _ hk => hk) trivial (Below.refl _ _) (Nat.le_refl _) (by simp) ?_; (case hd => rfl); (case hg => rfl); (case hr => first | (go_simp; done) | (go_simp; rfl)); (case hp => exact (Reps.one (show Kd.M Kd.string _ _ _ (B_ #[99,101,114,111]) [.string (B_ #[99,101,114,111])] from rfl) (Reps.one (show Kd.M Kd.string _ _ _ (B_ #[117,110,111]) [.string (B_ #[117,110,111])] from rfl) (Reps.one (show Kd.M Kd.string _ _ _ (B_ #[100,111,115]) [.string (B_ #[100,111,115])] from rfl) (Reps.one (show Kd.M Kd.string _ _ _ (B_ #[116,114,101,115]) [.string (B_ #[116,114,101,115])] from rfl) (Reps.one (show Kd.M Kd.string _ _ _ (B_ #[99,117,97,116,114,111]) [.string (B_ #[99,117,97,116,114,111])] from rfl) (Reps.one (show Kd.M Kd.string _ _ _ (B_ #[99,105,110,99,111]) [.string (B_ #[99,105,110,99,111])] from rfl) (Reps.one (show Kd.M Kd.string _ _ _ (B_ #[115,101,105,115]) [.string (B_ #[115,101,105,115])] from rfl) (Reps.one (show Kd.M Kd.string _ _ _ (B_ #[115,105,101,116,101]) [.string (B_ #[115,105,101,116,101])] from rfl) (Reps.one (show Kd.M Kd.string _ _ _ (B_ #[111,99,104,111]) [.string (B_ #[111,99,104,111])] from rfl) (Reps.one (show Kd.M Kd.string _ _ _ (B_ #[110,117,101,118,101]) [.string (B_ #[110,117,101,118,101])] from rfl) (Reps.one (show Kd.M Kd.string _ _ _ (B_ #[100,105,101,122]) [.string (B_ #[100,105,101,122])] from rfl) (Reps.one (show Kd.M Kd.string _ _ _ (B_ #[111,110,99,101]) [.string (B_ #[111,110,99,101])] from rfl) (Reps.one (show Kd.M Kd.string _ _ _ (B_ #[100,111,99,101]) [.string (B_ #[100,111,99,101])] from rfl) (Reps.one (show Kd.M Kd.string _ _ _ (B_ #[116,114,101,99,101]) [.string (B_ #[116,114,101,99,101])] from rfl) (Reps.one (show Kd.M Kd.string _ _ _ (B_ #[99,97,116,111,114,99,101]) [.string (B_ #[99,97,116,111,114,99,101])] from rfl) (Reps.one (show Kd.M Kd.string _ _ _ (B_ #[113,117,105,110,99,101]) [.string (B_ #[113,117,105,110,99,101])] from rfl) (Reps.one (show Kd.M Kd.string _ _ _ (B_ #[100,105,101,99,105,115,101,105,115]) [.string (B_ #[100,105,101,99,105,115,101,105,115])] from rfl) (Reps.one (show Kd.M Kd.string _ _ _ (B_ #[100,105,101,99,105,115,105,101,116,101]) [.string (B_ #[100,105,101,99,105,115,105,101,116,101])] from rfl) (Reps.one (show Kd.M Kd.string _ _ _ (B_ #[100,105,101,99,105,111,99,104,111]) [.string (B_ #[100,105,101,99,105,111,99,104,111])] from rfl) (Reps.one (show Kd.M Kd.string _ _ _ (B_ #[100,105,101,99,105,110,117,101,118,101]) [.string (B_ #[100,105,101,99,105,110,117,101,118,101])] from rfl) (Reps.none _ _)))))))))))))))))))))); intro v127 w34 ho35 hb hg_ hnew_; clear hg_ hnew_; (first | rw [← Ny126.out] at ho35 | (simp only [Int.reduceToNat] at ho35; rw [← Ny126.out] at ho35)); have HO128 := am (Kd.R_lower ho35 (below_size (bes HB.out))); replace BK101 := kb BK101 hb; replace HB := bsp HB hb; clear hb ho35) | ((with_reducible refine gate_dst (N := 21) rfl ?_); refine Kd.R_lit Kd.string _ 9 ?hg (N := 21) ?hd (xs := ([(B_ #[118,101,105,110,116,101]), (B_ #[116,114,101,105,110,116,97]), (B_ #[99,117,97,114,101,110,116,97]), (B_ #[99,105,110,99,117,101,110,116,97]), (B_ #[115,101,115,101,110,116,97]), (B_ #[115,101,116,101,110,116,97]), (B_ #[111,99,104,101,110,116,97]), (B_ #[110,111,118,101,110,116,97])] : List ByteArray)) (inner := [.string (B_ #[118,101,105,110,116,101]), .string (B_ #[116,114,101,105,110,116,97]), .string (B_ #[99,117,97,114,101,110,116,97]), .string (B_ #[99,105,110,99,117,101,110,116,97]), .string (B_ #[115,101,115,101,110,116,97]), .string (B_ #[115,101,116,101,110,116,97]), .string (B_ #[111,99,104,101,110,116,97]), .string (B_ #[110,111,118,101,110,116,97])]) (ok := fun _ => True) (okp := fun _ => True) ?hr ?hp (fun _ hk => hk) trivial (Below.refl _ _) (Nat.le_refl _) (by simp) ?_; (case hd => rfl); (case hg => rfl); (case hr => first | (go_simp; done) | (go_simp; rfl)); (case hp => exact (Reps.one (show Kd.M Kd.string _ _ _ (B_ #[118,101,105,110,116,101]) [.string (B_ #[118,101,105,110,116,101])] from rfl) (Reps.one (show Kd.M Kd.string _ _ _ (B_ #[116,114,101,105,110,116,97]) [.string (B_ #[116,114,101,105,110,116,97])] from rfl) (Reps.one (show Kd.M Kd.string _ _ _ (B_ #[99,117,97,114,101,110,116,97]) [.string (B_ #[99,117,97,114,101,110,116,97])] from rfl) (Reps.one (show Kd.M Kd.string _ _ _ (B_ #[99,105,110,99,117,101,110,116,97]) [.string (B_ #[99,105,110,99,117,101,110,116,97])] from rfl) (Reps.one (show Kd.M Kd.string _ _ _ (B_ #[115,101,115,101,110,116,97]) [.string (B_ #[115,101,115,101,110,116,97])] from rfl) (Reps.one (show Kd.M Kd.string _ _ _ (B_ #[115,101,116,101,110,116,97]) [.string (B_ #[115,101,116,101,110,116,97])] from rfl) (Reps.one (show Kd.M Kd.string _ _ _ (B_ #[111,99,104,101,110,116,97]) [.string (B_ #[111,99,104,101,110,116,97])] from rfl) (Reps.one (show Kd.M Kd.string _ _ _ (B_ #[110,111,118,101,110,116,97]) [.string (B_ #[110,111,118,101,110,116,97])] from rfl) (Reps.none _ _)))))))))); intro v130 w36 ho37 hb hg_ hnew_; clear hg_ hnew_; (first | rw [← Ny129.out] at ho37 | (simp only [Int.reduceToNat] at ho37; rw [← Ny129.out] at ho37)); have HO131 := am (Kd.R_lower (Kd.R_new' ho37 (Kd.R_lt (R_st HO128.out))) (below_size (bes HB.out))); replace HO128 := am (Kd.R_elder' (R_st HO128.out) (Kd.R_base ho37) hb); replace BK101 := kb BK101 hb; replace HB := bsp HB hb; clear hb ho37) | ((with_reducible refine gate_dst (N := 22) rfl ?_); refine Kd.R_lit Kd.string _ 9 ?hg (N := 22) ?hd (xs := ([(B_ #[101,110,101,114,111]), (B_ #[102,101,98,114,101,114,111]), (B_ #[109,97,114,122,111]), (B_ #[97,98,114,105,108]), (B_ #[109,97,121,111]), (B_ #[106,117,110,105,111]), (B_ #[106,117,108,105,111]), (B_ #[97,103,111,115,116,111]), (B_ #[115,101,112,116,105,101,109,98,114,101]), (B_ #[111,99,116,117,98,114,101]), (B_ #[110,111,118,105,101,109,98,114,101]), (B_ #[100,105,99,105,101,109,98,114,101])] : List ByteArray)) (inner := [.string (B_ #[101,110,101,114,111]), .string (B_ #[102,101,98,114,101,114,111]), .string (B_ #[109,97,114,122,111]), .string (B_ #[97,98,114,105,108]), .string (B_ #[109,97,121,111]), .string (B_ #[106,117,110,105,111]), .string (B_ #[106,117,108,105,111]), .string (B_ #[97,103,111,115,116,111]), .string (B_ #[115,101,112,116,105,101,109,98,114,101]), .string (B_ #[111,99,116,117,98,114,101]), .string (B_ #[110,111,118,105,101,109,98,114,101]), .string (B_ #[100,105,99,105,101,109,98,114,101])]) (ok := fun _ => True) (okp := fun _ => True) ?hr ?hp (fun _ hk => hk) trivial (Below.refl _ _) (Nat.le_refl _) (by simp) ?_; (case hd => rfl); (case hg => rfl); (case hr => first | (go_simp; done) | (go_simp; rfl)); (case hp => exact (Reps.one (show Kd.M Kd.string _ _ _ (B_ #[101,110,101,114,111]) [.string (B_ #[101,110,101,114,111])] from rfl) (Reps.one (show Kd.M Kd.string _ _ _ (B_ #[102,101,98,114,101,114,111]) [.string (B_ #[102,101,98,114,101,114,111])] from rfl) (Reps.one (show Kd.M Kd.string _ _ _ (B_ #[109,97,114,122,111]) [.string (B_ #[109,97,114,122,111])] from rfl) (Reps.one (show Kd.M Kd.string _ _ _ (B_ #[97,98,114,105,108]) [.string (B_ #[97,98,114,105,108])] from rfl) (Reps.one (show Kd.M Kd.string _ _ _ (B_ #[109,97,121,111]) [.string (B_ #[109,97,121,111])] from rfl) (Reps.one (show Kd.M Kd.string _ _ _ (B_ #[106,117,110,105,111]) [.string (B_ #[106,117,110,105,111])] from rfl) (Reps.one (show Kd.M Kd.string _ _ _ (B_ #[106,117,108,105,111]) [.string (B_ #[106,117,108,105,111])] from rfl) (Reps.one (show Kd.M Kd.string _ _ _ (B_ #[97,103,111,115,116,111]) [.string (B_ #[97,103,111,115,116,111])] from rfl) (Reps.one (show Kd.M Kd.string _ _ _ (B_ #[115,101,112,116,105,101,109,98,114,101]) [.string (B_ #[115,101,112,116,105,101,109,98,114,101])] from rfl) (Reps.one (show Kd.M Kd.string _ _ _ (B_ #[111,99,116,117,98,114,101]) [.string (B_ #[111,99,116,117,98,114,101])] from rfl) (Reps.one (show Kd.M Kd.string _ _ _ (B_ #[110,111,118,105,101,109,98,114,101]) [.string (B_ #[110,111,118,105,101,109,98,114,101])] from rfl) (Reps.one (show Kd.M Kd.string _ _ _ (B_ #[100,105,99,105,101,109,98,114,101]) [.string (B_ #[100,105,99,105,101,109,98,114,101])] from rfl) (Reps.none _ _)))))))))))))); intro v133 w38 ho39 hb hg_ hnew_; clear hg_ hnew_; (first | rw [← Ny132.out] at ho39 | (simp only [Int.reduceToNat] at ho39; rw [← Ny132.out] at ho39)); have HO134 := am (Kd.R_lower (Kd.R_new' (Kd.R_new' ho39 (Kd.R_lt (R_st HO128.out))) (Kd.R_lt (R_st HO131.out))) (below_size (bes HB.out))); replace HO128 := am (Kd.R_elder' (R_st HO128.out) (Kd.R_base ho39) hb); replace HO131 := am (Kd.R_elder' (R_st HO131.out) (Kd.R_base ho39) hb); replace BK101 := kb BK101 hb; replace HB := bsp HB hb; clear hb ho39) | ((with_reducible refine gate_dst (N := 23) rfl ?_); refine Kd.R_lit Kd.string _ 9 ?hg (N := 23) ?hd (xs := ([(B_ #[108,117,110,101,115]), (B_ #[109,97,114,116,101,115]), (B_ #[109,105,101,114,99,111,108,101,115]), (B_ #[106,117,101,118,101,115]), (B_ #[118,105,101,114,110,101,115]), (B_ #[115,97,98,97,100,111]), (B_ #[100,111,109,105,110,103,111])] : List ByteArray)) (inner := [.string (B_ #[108,117,110,101,115]), .string (B_ #[109,97,114,116,101,115]), .string (B_ #[109,105,101,114,99,111,108,101,115]), .string (B_ #[106,117,101,118,101,115]), .string (B_ #[118,105,101,114,110,101,115]), .string (B_ #[115,97,98,97,100,111]), .string (B_ #[100,111,109,105,110,103,111])]) (ok := fun _ => True) (okp := fun _ => True) ?hr ?hp (fun _ hk => hk) trivial (Below.refl _ _) (Nat.le_refl _) (by simp) ?_; (case hd => rfl); (case hg => rfl); (case hr => first | (go_simp; done) | (go_simp; rfl)); (case hp => exact (Reps.one (show Kd.M Kd.string _ _ _ (B_ #[108,117,110,101,115]) [.string (B_ #[108,117,110,101,115])] from rfl) (Reps.one (show Kd.M Kd.string _ _ _ (B_ #[109,97,114,116,101,115]) [.string (B_ #[109,97,114,116,101,115])] from rfl) (Reps.one (show Kd.M Kd.string _ _ _ (B_ #[109,105,101,114,99,111,108,101,115]) [.string (B_ #[109,105,101,114,99,111,108,101,115])] from rfl) (Reps.one (show Kd.M Kd.string _ _ _ (B_ #[106,117,101,118,101,115]) [.string (B_ #[106,117,101,118,101,115])] from rfl) (Reps.one (show Kd.M Kd.string _ _ _ (B_ #[118,105,101,114,110,101,115]) [.string (B_ #[118,105,101,114,110,101,115])] from rfl) (Reps.one (show Kd.M Kd.string _ _ _ (B_ #[115,97,98,97,100,111]) [.string (B_ #[115,97,98,97,100,111])] from rfl) (Reps.one (show Kd.M Kd.string _ _ _ (B_ #[100,111,109,105,110,103,111]) [.string (B_ #[100,111,109,105,110,103,111])] from rfl) (Reps.none _ _))))))))); intro v136 w40 ho41 hb hg_ hnew_; clear hg_ hnew_; (first | rw [← Ny135.out] at ho41 | (simp only [Int.reduceToNat] at ho41; rw [← Ny135.out] at ho41)); have HO137 := am (Kd.R_lower (Kd.R_new' (Kd.R_new' (Kd.R_new' ho41 (Kd.R_lt (R_st HO128.out))) (Kd.R_lt (R_st HO131.out))) (Kd.R_lt (R_st HO134.out))) (below_size (bes HB.out))); replace HO128 := am (Kd.R_elder' (R_st HO128.out) (Kd.R_base ho41) hb); replace HO131 := am (Kd.R_elder' (R_st HO131.out) (Kd.R_base ho41) hb); replace HO134 := am (Kd.R_elder' (R_st HO134.out) (Kd.R_base ho41) hb); replace BK101 := kb BK101 hb; replace HB := bsp HB hb; clear hb ho41; obtain ⟨Ao42, co42, eo42⟩ := Kd.R_slice HO137.out; subst eo42; obtain ⟨Ao43, co43, eo43⟩ := Kd.R_slice HO134.out; subst eo43; obtain ⟨Ao44, co44, eo44⟩ := Kd.R_slice HO131.out; subst eo44; obtain ⟨Ao45, co45, eo45⟩ := Kd.R_slice HO128.out; subst eo45; have Z46_0 := z0 BK101.out; have Z46_1 := z1 BK101.out; have Z46_2 := z2 BK101.out; have Z46_3 := z3 BK101.out; have Z46_4 := z4 BK101.out; have Z46_5 := z5 BK101.out; have Z46_6 := z6 BK101.out; have F46_0 := fz BK101.out 0; have F46_1 := fz BK101.out 1; have F46_2 := fz BK101.out 2; have F46_3 := fz BK101.out 3; have F46_4 := fz BK101.out 4; have F46_5 := fz BK101.out 5; have F46_6 := fz BK101.out 6))
 refine bodyPost_ret (results_cell_row rfl _ _ gb101 59 #[.slice Ao45 y126.length co45, .slice Ao44 y129.length co44, .slice Ao43 y132.length co43, .slice Ao42 y135.length co42, .func (.func 65) #[] #[], .func (.func 66) #[] #[], .func (.func 67) #[] #[]] (0, 0) _ rfl (bp BK101.out) Tryd.underlying59 rfl (by kernel_rfl)) rfl ?_
 exact ⟨_, _, _, _, er, by exact rfm HO128.out BK101.out (fun _ hk => ⟨hk.1.1.1.2, ⟨hk.1.1.2, hk.1.2⟩⟩), by exact rfm HO131.out BK101.out (fun _ hk => ⟨hk.1.1.1.2, ⟨hk.1.1.2, hk.1.2⟩⟩), by exact rfm HO134.out BK101.out (fun _ hk => ⟨hk.1.1.1.2, ⟨hk.1.1.2, hk.1.2⟩⟩), by exact rfm HO137.out BK101.out (fun _ hk => ⟨hk.1.1.1.2, ⟨hk.1.1.2, hk.1.2⟩⟩), by exact bes HB.out⟩

/-! ### word_tongues_1: function 57 -/
def word_tongues_1.f (l0_0 : List ByteArray) (l0_1 : List ByteArray) (l0_2 : List ByteArray) (l0_3 : List ByteArray) (a0_4 : Option Nat) (a0_5 : Option Nat) (a0_6 : Option Nat) (a1 : Int) (a2 : Int) : Option (ByteArray) := if 0 ≤ a1 then (if a1 < (l0_1.length : Int) then (if (rdOf ByteArray.empty l0_1 a1).size + 1 ≤ 9223372036854775807 then (if 0 ≤ a2 then (if a2 < (l0_0.length : Int) then (if ((rdOf ByteArray.empty l0_1 a1) ++ (B_ #[45])).size + (rdOf ByteArray.empty l0_0 a2).size ≤ 9223372036854775807 then (some (((rdOf ByteArray.empty l0_1 a1) ++ (B_ #[45])) ++ (rdOf ByteArray.empty l0_0 a2))) else (none)) else (none)) else (none)) else (none)) else (none)) else (none)
theorem word_tongues_1.calls (A0_0 : Option Addr) (c0_0 : Nat) (l0_0 : List ByteArray) (A0_1 : Option Addr) (c0_1 : Nat) (l0_1 : List ByteArray) (A0_2 : Option Addr) (c0_2 : Nat) (l0_2 : List ByteArray) (A0_3 : Option Addr) (c0_3 : Nat) (l0_3 : List ByteArray) (a0_4 : Option Nat) (a0_5 : Option Nat) (a0_6 : Option Nat) (a1 : Int) (a2 : Int) (r : ByteArray) (w : World) (hr0_0 : Kd.C Kd.string w A0_0 l0_0.length l0_0) (hc0_0 : l0_0.length ≤ c0_0) (hr0_1 : Kd.C Kd.string w A0_1 l0_1.length l0_1) (hc0_1 : l0_1.length ≤ c0_1) (hr0_2 : Kd.C Kd.string w A0_2 l0_2.length l0_2) (hc0_2 : l0_2.length ≤ c0_2) (hr0_3 : Kd.C Kd.string w A0_3 l0_3.length l0_3) (hc0_3 : l0_3.length ≤ c0_3) (h : word_tongues_1.f l0_0 l0_1 l0_2 l0_3 a0_4 a0_5 a0_6 a1 a2 = some r) :
  Calls Tryd.prog 57 #[.agg #[.slice A0_0 l0_0.length c0_0, .slice A0_1 l0_1.length c0_1, .slice A0_2 l0_2.length c0_2, .slice A0_3 l0_3.length c0_3, fnv a0_4, fnv a0_5, fnv a0_6], .int .i64 a1, .int .i64 a2] w fun e w' => e = .returned (.string r) ∧ Below w.heap.size w w' := by
 have hu59 := Tryd.underlying59; have HR0_0 := am hr0_0; have HC0_0 := am hc0_0; clear hr0_0 hc0_0; have HR0_1 := am hr0_1; have HC0_1 := am hc0_1; clear hr0_1 hc0_1; have HR0_2 := am hr0_2; have HC0_2 := am hc0_2; clear hr0_2 hc0_2; have HR0_3 := am hr0_3; have HC0_3 := am hc0_3; clear hr0_3 hc0_3; have HB := am (Below.refl w.heap.size w)
 have H := h; clear h; unfold word_tongues_1.f at H
 by_cases c4 : 0 ≤ a1; rotate_left
 ·rw [if_neg c4] at H
  exact absurd H (by simp)
 rw [if_pos c4] at H
 have c4b0 := dT c4; clear c4
 by_cases c5 : a1 < (l0_1.length : Int); rotate_left
 ·rw [if_neg c5] at H
  exact absurd H (by simp)
 rw [if_pos c5] at H
 have c5b0 := dT c5; clear c5
 by_cases c6 : (rdOf ByteArray.empty l0_1 a1).size + 1 ≤ 9223372036854775807; rotate_left
 ·rw [if_neg c6] at H
  exact absurd H (by simp)
 rw [if_pos c6] at H; have c6b0 := eq_true c6
 have c6b1 := dT c6
 try have c6b2 := eF c6
 by_cases c7 : 0 ≤ a2; rotate_left
 ·rw [if_neg c7] at H
  exact absurd H (by simp)
 rw [if_pos c7] at H
 have c7b0 := dT c7; clear c7
 by_cases c8 : a2 < (l0_0.length : Int); rotate_left
 ·rw [if_neg c8] at H
  exact absurd H (by simp)
 rw [if_pos c8] at H
 have c8b0 := dT c8; clear c8
 by_cases c9 : ((rdOf ByteArray.empty l0_1 a1) ++ (B_ #[45])).size + (rdOf ByteArray.empty l0_0 a2).size ≤ 9223372036854775807
 ·rw [if_pos c9] at H
  have c9b0 := eq_true c9
  have c9b1 := dT c9
  try have c9b2 := eF c9
  have c9n : (rdOf ByteArray.empty l0_1 a1).size + 1 + (rdOf ByteArray.empty l0_0 a2).size ≤ 9223372036854775807 := by have h_ := c9; (try simp only [ByteArray.size_append] at h_); first | exact h_ | omega
  have c9n0 := eq_true c9n; have c9n1 := decide_eq_true c9n; have c9n2 := eq_false (Nat.not_lt.2 c9n); obtain rfl := Option.some.inj H
  go_enter Tryd.func57, Tryd.ntmps57
  go_wp2_with (first | ((with_reducible refine gate_dst (N := 3) rfl ?_); refine bx 3 #[.slice A0_0 l0_0.length c0_0, .slice A0_1 l0_1.length c0_1, .slice A0_2 l0_2.length c0_2, .slice A0_3 l0_3.length c0_3, fnv a0_4, fnv a0_5, fnv a0_6] 59 ?_; intro gb138 hg w10 hbox hb; have BK138 := am hbox; have GW138 := gwm hg HB; have GE138 := gem hg HB; replace HB := bsp HB hb; clear hb hbox hg; have Z11_0 := z0 BK138.out; have Z11_1 := z1 BK138.out; have Z11_2 := z2 BK138.out; have Z11_3 := z3 BK138.out; have Z11_4 := z4 BK138.out; have Z11_5 := z5 BK138.out; have Z11_6 := z6 BK138.out; have F11_0 := fz BK138.out 0; have F11_1 := fz BK138.out 1; have F11_2 := fz BK138.out 2; have F11_3 := fz BK138.out 3; have F11_4 := fz BK138.out 4; have F11_5 := fz BK138.out 5; have F11_6 := fz BK138.out 6; have p139 : 0 ≤ (a1 : Int) := of_decide_eq_true (by assumption); have q139 : a1 < (l0_1.length : Int) := of_decide_eq_true (by assumption); obtain ⟨ad139, e139, hx139_0⟩ := Kd.at_string HR0_1.out a1 p139 q139; cases e139; replace hx139_0 := (HB.out.cell (World.block_lt_of_cell? w _ hx139_0)).trans hx139_0; replace p139 := eq_true p139; replace q139 := eq_true q139; have p140 : 0 ≤ (a2 : Int) := of_decide_eq_true (by assumption); have q140 : a2 < (l0_0.length : Int) := of_decide_eq_true (by assumption); obtain ⟨ad140, e140, hx140_0⟩ := Kd.at_string HR0_0.out a2 p140 q140; cases e140; replace hx140_0 := (HB.out.cell (World.block_lt_of_cell? w _ hx140_0)).trans hx140_0; replace p140 := eq_true p140; replace q140 := eq_true q140))
  repeat (go_quiet (first | ((with_reducible refine gate_dst (N := 3) rfl ?_); refine bx 3 #[.slice A0_0 l0_0.length c0_0, .slice A0_1 l0_1.length c0_1, .slice A0_2 l0_2.length c0_2, .slice A0_3 l0_3.length c0_3, fnv a0_4, fnv a0_5, fnv a0_6] 59 ?_; intro gb138 hg w10 hbox hb; have BK138 := am hbox; have GW138 := gwm hg HB; have GE138 := gem hg HB; replace HB := bsp HB hb; clear hb hbox hg; have Z11_0 := z0 BK138.out; have Z11_1 := z1 BK138.out; have Z11_2 := z2 BK138.out; have Z11_3 := z3 BK138.out; have Z11_4 := z4 BK138.out; have Z11_5 := z5 BK138.out; have Z11_6 := z6 BK138.out; have F11_0 := fz BK138.out 0; have F11_1 := fz BK138.out 1; have F11_2 := fz BK138.out 2; have F11_3 := fz BK138.out 3; have F11_4 := fz BK138.out 4; have F11_5 := fz BK138.out 5; have F11_6 := fz BK138.out 6; have p139 : 0 ≤ (a1 : Int) := of_decide_eq_true (by assumption); have q139 : a1 < (l0_1.length : Int) := of_decide_eq_true (by assumption); obtain ⟨ad139, e139, hx139_0⟩ := Kd.at_string HR0_1.out a1 p139 q139; cases e139; replace hx139_0 := (HB.out.cell (World.block_lt_of_cell? w _ hx139_0)).trans hx139_0; replace p139 := eq_true p139; replace q139 := eq_true q139; have p140 : 0 ≤ (a2 : Int) := of_decide_eq_true (by assumption); have q140 : a2 < (l0_0.length : Int) := of_decide_eq_true (by assumption); obtain ⟨ad140, e140, hx140_0⟩ := Kd.at_string HR0_0.out a2 p140 q140; cases e140; replace hx140_0 := (HB.out.cell (World.block_lt_of_cell? w _ hx140_0)).trans hx140_0; replace p140 := eq_true p140; replace q140 := eq_true q140)); try go_wp2_with (first | ((with_reducible refine gate_dst (N := 3) rfl ?_); refine bx 3 #[.slice A0_0 l0_0.length c0_0, .slice A0_1 l0_1.length c0_1, .slice A0_2 l0_2.length c0_2, .slice A0_3 l0_3.length c0_3, fnv a0_4, fnv a0_5, fnv a0_6] 59 ?_; intro gb138 hg w10 hbox hb; have BK138 := am hbox; have GW138 := gwm hg HB; have GE138 := gem hg HB; replace HB := bsp HB hb; clear hb hbox hg; have Z11_0 := z0 BK138.out; have Z11_1 := z1 BK138.out; have Z11_2 := z2 BK138.out; have Z11_3 := z3 BK138.out; have Z11_4 := z4 BK138.out; have Z11_5 := z5 BK138.out; have Z11_6 := z6 BK138.out; have F11_0 := fz BK138.out 0; have F11_1 := fz BK138.out 1; have F11_2 := fz BK138.out 2; have F11_3 := fz BK138.out 3; have F11_4 := fz BK138.out 4; have F11_5 := fz BK138.out 5; have F11_6 := fz BK138.out 6; have p139 : 0 ≤ (a1 : Int) := of_decide_eq_true (by assumption); have q139 : a1 < (l0_1.length : Int) := of_decide_eq_true (by assumption); obtain ⟨ad139, e139, hx139_0⟩ := Kd.at_string HR0_1.out a1 p139 q139; cases e139; replace hx139_0 := (HB.out.cell (World.block_lt_of_cell? w _ hx139_0)).trans hx139_0; replace p139 := eq_true p139; replace q139 := eq_true q139; have p140 : 0 ≤ (a2 : Int) := of_decide_eq_true (by assumption); have q140 : a2 < (l0_0.length : Int) := of_decide_eq_true (by assumption); obtain ⟨ad140, e140, hx140_0⟩ := Kd.at_string HR0_0.out a2 p140 q140; cases e140; replace hx140_0 := (HB.out.cell (World.block_lt_of_cell? w _ hx140_0)).trans hx140_0; replace p140 := eq_true p140; replace q140 := eq_true q140)))
  go_ret
  exact ⟨er, by exact bes HB.out⟩
 rw [if_neg c9] at H
 exact absurd H (by simp)

/-! ### word_joined: function 59 -/
def word_joined.f (a0 : ByteArray) (a1 : ByteArray) (a2 : ByteArray) : Option (ByteArray) := if a0.toList = ([] : List UInt8) then (if a0.size + a2.size ≤ 9223372036854775807 then (some (a0 ++ a2)) else (none)) else (if a2.toList = ([] : List UInt8) then (if a0.size + a2.size ≤ 9223372036854775807 then (some (a0 ++ a2)) else (none)) else (if a0.size + a1.size ≤ 9223372036854775807 then (if (a0 ++ a1).size + a2.size ≤ 9223372036854775807 then (some ((a0 ++ a1) ++ a2)) else (none)) else (none)))
theorem word_joined.calls (a0 : ByteArray) (a1 : ByteArray) (a2 : ByteArray) (r : ByteArray) (w : World) (h : word_joined.f a0 a1 a2 = some r) :
  Calls Tryd.prog 59 #[.string a0, .string a1, .string a2] w fun e w' => e = .returned (.string r) ∧ Drawn0 w w' := by
 have H := h; clear h; unfold word_joined.f at H
 by_cases c4 : a0.toList = ([] : List UInt8)
 ·rw [if_pos c4] at H
  have c4b0 := bT c4
  have c4b1 := nF c4; clear c4
  by_cases c5 : a0.size + a2.size ≤ 9223372036854775807
  ·rw [if_pos c5] at H
   have c5b0 := eq_true c5
   have c5b1 := dT c5
   try have c5b2 := eF c5
   obtain rfl := Option.some.inj H
   go_enter Tryd.func59, Tryd.ntmps59
   go_wp2
   go_ret
   exact ⟨by first | rfl | (simp; done) | (simp [*]; done), by repeat (first | exact Drawn0.refl _ | apply Drawn0.step)⟩
  rw [if_neg c5] at H
  exact absurd H (by simp)
 rw [if_neg c4] at H
 have c4b0 := bF c4
 have c4b1 := nT c4
 by_cases c6 : a2.toList = ([] : List UInt8)
 ·rw [if_pos c6] at H
  have c6b0 := bT c6
  have c6b1 := nF c6; clear c6
  by_cases c7 : a0.size + a2.size ≤ 9223372036854775807
  ·rw [if_pos c7] at H
   have c7b0 := eq_true c7
   have c7b1 := dT c7
   try have c7b2 := eF c7
   obtain rfl := Option.some.inj H
   go_enter Tryd.func59, Tryd.ntmps59
   go_wp2
   go_ret
   exact ⟨by first | rfl | (simp; done) | (simp [*]; done), by repeat (first | exact Drawn0.refl _ | apply Drawn0.step)⟩
  rw [if_neg c7] at H
  exact absurd H (by simp)
 rw [if_neg c6] at H
 have c6b0 := bF c6
 have c6b1 := nT c6
 by_cases c8 : a0.size + a1.size ≤ 9223372036854775807; rotate_left
 ·rw [if_neg c8] at H
  exact absurd H (by simp)
 rw [if_pos c8] at H; have c8b0 := eq_true c8
 have c8b1 := dT c8
 try have c8b2 := eF c8
 by_cases c9 : (a0 ++ a1).size + a2.size ≤ 9223372036854775807
 ·rw [if_pos c9] at H
  have c9b0 := eq_true c9
  have c9b1 := dT c9
  try have c9b2 := eF c9
  have c9n : a0.size + a1.size + a2.size ≤ 9223372036854775807 := by have h_ := c9; (try simp only [ByteArray.size_append] at h_); first | exact h_ | omega
  have c9n0 := eq_true c9n; have c9n1 := decide_eq_true c9n; have c9n2 := eq_false (Nat.not_lt.2 c9n); obtain rfl := Option.some.inj H
  go_enter Tryd.func59, Tryd.ntmps59
  go_wp2
  go_ret
  exact ⟨by first | rfl | (simp; done) | (simp [*]; done), by repeat (first | exact Drawn0.refl _ | apply Drawn0.step)⟩
 rw [if_neg c9] at H
 exact absurd H (by simp)

/-! ### word_tongues_2: function 58 -/
def word_tongues_2.f (l0_0 : List ByteArray) (l0_1 : List ByteArray) (l0_2 : List ByteArray) (l0_3 : List ByteArray) (a0_4 : Option Nat) (a0_5 : Option Nat) (a0_6 : Option Nat) (a1 : Int) (a2 : ByteArray) : Option (ByteArray) := if 0 ≤ a1 then (if a1 < (l0_0.length : Int) then (if (rdOf ByteArray.empty l0_0 a1).size + 8 ≤ 9223372036854775807 then ((word_joined.f ((rdOf ByteArray.empty l0_0 a1) ++ (B_ #[32,104,117,110,100,114,101,100])) (B_ #[32]) a2).bind fun t143 => (some t143)) else (none)) else (none)) else (none)
theorem word_tongues_2.calls (A0_0 : Option Addr) (c0_0 : Nat) (l0_0 : List ByteArray) (A0_1 : Option Addr) (c0_1 : Nat) (l0_1 : List ByteArray) (A0_2 : Option Addr) (c0_2 : Nat) (l0_2 : List ByteArray) (A0_3 : Option Addr) (c0_3 : Nat) (l0_3 : List ByteArray) (a0_4 : Option Nat) (a0_5 : Option Nat) (a0_6 : Option Nat) (a1 : Int) (a2 : ByteArray) (r : ByteArray) (w : World) (hr0_0 : Kd.C Kd.string w A0_0 l0_0.length l0_0) (hc0_0 : l0_0.length ≤ c0_0) (hr0_1 : Kd.C Kd.string w A0_1 l0_1.length l0_1) (hc0_1 : l0_1.length ≤ c0_1) (hr0_2 : Kd.C Kd.string w A0_2 l0_2.length l0_2) (hc0_2 : l0_2.length ≤ c0_2) (hr0_3 : Kd.C Kd.string w A0_3 l0_3.length l0_3) (hc0_3 : l0_3.length ≤ c0_3) (h : word_tongues_2.f l0_0 l0_1 l0_2 l0_3 a0_4 a0_5 a0_6 a1 a2 = some r) :
  Calls Tryd.prog 58 #[.agg #[.slice A0_0 l0_0.length c0_0, .slice A0_1 l0_1.length c0_1, .slice A0_2 l0_2.length c0_2, .slice A0_3 l0_3.length c0_3, fnv a0_4, fnv a0_5, fnv a0_6], .int .i64 a1, .string a2] w fun e w' => e = .returned (.string r) ∧ Below w.heap.size w w' := by
 have hu59 := Tryd.underlying59; have HR0_0 := am hr0_0; have HC0_0 := am hc0_0; clear hr0_0 hc0_0; have HR0_1 := am hr0_1; have HC0_1 := am hc0_1; clear hr0_1 hc0_1; have HR0_2 := am hr0_2; have HC0_2 := am hc0_2; clear hr0_2 hc0_2; have HR0_3 := am hr0_3; have HC0_3 := am hc0_3; clear hr0_3 hc0_3; have HB := am (Below.refl w.heap.size w)
 have H := h; clear h; unfold word_tongues_2.f at H
 by_cases c4 : 0 ≤ a1; rotate_left
 ·rw [if_neg c4] at H
  exact absurd H (by simp)
 rw [if_pos c4] at H
 have c4b0 := dT c4; clear c4
 by_cases c5 : a1 < (l0_0.length : Int); rotate_left
 ·rw [if_neg c5] at H
  exact absurd H (by simp)
 rw [if_pos c5] at H
 have c5b0 := dT c5; clear c5
 by_cases c6 : (rdOf ByteArray.empty l0_0 a1).size + 8 ≤ 9223372036854775807
 ·rw [if_pos c6] at H
  have c6b0 := eq_true c6
  have c6b1 := dT c6
  try have c6b2 := eF c6
  replace H := bm H; obtain ⟨t143, A7, H⟩ := H; replace H : (some t143) = some r := H; replace A7 := am A7; obtain rfl := Option.some.inj H
  go_enter Tryd.func58, Tryd.ntmps58
  go_wp2_with (first | ((with_reducible refine gate_dst (N := 3) rfl ?_); refine bx 3 #[.slice A0_0 l0_0.length c0_0, .slice A0_1 l0_1.length c0_1, .slice A0_2 l0_2.length c0_2, .slice A0_3 l0_3.length c0_3, fnv a0_4, fnv a0_5, fnv a0_6] 59 ?_; intro gb141 hg w8 hbox hb; have BK141 := am hbox; have GE141 := gem hg HB; replace HB := bsp HB hb; clear hb hbox hg; have Z9_0 := z0 BK141.out; have Z9_1 := z1 BK141.out; have Z9_2 := z2 BK141.out; have Z9_3 := z3 BK141.out; have Z9_4 := z4 BK141.out; have Z9_5 := z5 BK141.out; have Z9_6 := z6 BK141.out; have F9_0 := fz BK141.out 0; have F9_1 := fz BK141.out 1; have F9_2 := fz BK141.out 2; have F9_3 := fz BK141.out 3; have F9_4 := fz BK141.out 4; have F9_5 := fz BK141.out 5; have F9_6 := fz BK141.out 6; have p142 : 0 ≤ (a1 : Int) := of_decide_eq_true (by assumption); have q142 : a1 < (l0_0.length : Int) := of_decide_eq_true (by assumption); obtain ⟨ad142, e142, hx142_0⟩ := Kd.at_string HR0_0.out a1 p142 q142; cases e142; replace hx142_0 := (HB.out.cell (World.block_lt_of_cell? w _ hx142_0)).trans hx142_0; replace p142 := eq_true p142; replace q142 := eq_true q142) | ((with_reducible refine gate_callee (f := 59) rfl ?_); refine gL (some 14) rfl rfl Tryd.func59 #[.string ((rdOf ByteArray.empty l0_0 a1) ++ (B_ #[32,104,117,110,100,114,101,100])), .string (B_ #[32]), .string a2] ?_; (refine (word_joined.calls ((rdOf ByteArray.empty l0_0 a1) ++ (B_ #[32,104,117,110,100,114,101,100])) (B_ #[32]) a2 t143 _ A7.out).mono ?_); rintro e w' ⟨rfl, ⟨nd, rfl⟩⟩; refine ⟨_, rfl, ?_⟩))
  go_ret
  exact ⟨er, by exact bes HB.out⟩
 rw [if_neg c6] at H
 exact absurd H (by simp)

/-! ### stringslite_HasSuffix: function 86 -/
def stringslite_HasSuffix.f (a0 : ByteArray) (a1 : ByteArray) : Option (Bool) := if (a0.size : Int) ≥ (a1.size : Int) then (if 0 ≤ (wrap64 ((a0.size : Int) - (a1.size : Int))) then (if (wrap64 ((a0.size : Int) - (a1.size : Int))) ≤ (a0.size : Int) then (some ((a0.extract ((wrap64 ((a0.size : Int) - (a1.size : Int))) : Int).toNat a0.size).toList == a1.toList)) else (none)) else (none)) else (some false)
theorem stringslite_HasSuffix.calls (a0 : ByteArray) (a1 : ByteArray) (r : Bool) (w : World) (h : stringslite_HasSuffix.f a0 a1 = some r) :
  Calls Tryd.prog 86 #[.string a0, .string a1] w fun e w' => e = .returned (.bool r) ∧ Drawn0 w w' := by
 have H := h; clear h; unfold stringslite_HasSuffix.f at H
 by_cases c3 : (a0.size : Int) ≥ (a1.size : Int); rotate_left
 ·rw [if_neg c3] at H
  have c3b0 := dF c3
  have c3b1 : decide (a1.size ≤ a0.size) = false := decide_eq_false (fun h => c3 (Int.ofNat_le.mpr h)); clear c3; obtain rfl := Option.some.inj H
  go_enter Tryd.func86, Tryd.ntmps86
  go_wp2
  go_ret
  exact ⟨by first | rfl | (simp; done) | (simp [*]; done), by repeat (first | exact Drawn0.refl _ | apply Drawn0.step)⟩
 rw [if_pos c3] at H
 have c3b0 := dT c3
 have c3b1 : decide (a1.size ≤ a0.size) = true := decide_eq_true (Int.ofNat_le.mp c3); clear c3; obtain ⟨ji4, hji4⟩ : ∃ j_ : Int, (wrap64 ((a0.size : Int) - (a1.size : Int))) = j_ := ⟨_, rfl⟩; replace H : (if 0 ≤ (ji4) then (if (ji4) ≤ (a0.size : Int) then (some ((a0.extract ((ji4) : Int).toNat a0.size).toList == a1.toList)) else (none)) else (none)) = some r := by first | (rw [hji4] at H; exact H) | (simp only [hji4] at H ⊢; exact H)
 have hji4w : (IntKind.i64.wrap ((a0.size : Int) - (a1.size : Int))) = ji4 := (i64_w _).trans hji4
 by_cases c5 : 0 ≤ (ji4); rotate_left
 ·rw [if_neg c5] at H
  exact absurd H (by simp)
 rw [if_pos c5] at H; have c5b0 := eq_true c5
 have c5b1 := dT c5; clear c5
 by_cases c6 : (ji4) ≤ (a0.size : Int)
 ·rw [if_pos c6] at H
  have c6b0 := eq_true c6
  have c6b1 := dT c6; clear c6; obtain rfl := Option.some.inj H
  go_enter Tryd.func86, Tryd.ntmps86
  go_wp2
  go_ret
  exact ⟨by first | rfl | (simp; done) | (simp only [← hji4] <;> (first | rfl | simp)) | (simp [*]; done), by repeat (first | exact Drawn0.refl _ | apply Drawn0.step)⟩
 rw [if_neg c6] at H
 exact absurd H (by simp)

/-! ### strings_HasSuffix: function 79 -/
def strings_HasSuffix.f (a0 : ByteArray) (a1 : ByteArray) : Option (Bool) := (stringslite_HasSuffix.f a0 a1).bind fun t144 => (some t144)
theorem strings_HasSuffix.calls (a0 : ByteArray) (a1 : ByteArray) (r : Bool) (w : World) (h : strings_HasSuffix.f a0 a1 = some r) :
  Calls Tryd.prog 79 #[.string a0, .string a1] w fun e w' => e = .returned (.bool r) ∧ Drawn0 w w' := by
 have H := h; clear h; unfold strings_HasSuffix.f at H; replace H := bm H; obtain ⟨t144, A3, H⟩ := H; replace H : (some t144) = some r := H; replace A3 := am A3; obtain rfl := Option.some.inj H
 go_enter Tryd.func79, Tryd.ntmps79
 go_wp2_with (first | ((with_reducible refine gate_callee (f := 86) rfl ?_); refine gL (some 7) rfl rfl Tryd.func86 #[.string a0, .string a1] ?_; (refine (stringslite_HasSuffix.calls a0 a1 t144 _ A3.out).mono ?_); rintro e w' ⟨rfl, ⟨nd, rfl⟩⟩; refine ⟨_, rfl, ?_⟩))
 go_ret
 exact ⟨by first | rfl | (simp; done) | (simp [*]; done), by repeat (first | exact Drawn0.refl _ | apply Drawn0.step)⟩

/-! ### word_shorter: function 62 -/
def word_shorter.f (a0 : ByteArray) (a1 : ByteArray) : Option (ByteArray) := (strings_HasSuffix.f a0 a1).bind fun t145 => (if t145 = true then (if 0 ≤ (wrap64 ((a0.size : Int) - 1)) then (if (wrap64 ((a0.size : Int) - 1)) ≤ (a0.size : Int) then (some (a0.extract 0 ((wrap64 ((a0.size : Int) - 1)) : Int).toNat)) else (none)) else (none)) else (some a0))
theorem word_shorter.calls (a0 : ByteArray) (a1 : ByteArray) (r : ByteArray) (w : World) (h : word_shorter.f a0 a1 = some r) :
  Calls Tryd.prog 62 #[.string a0, .string a1] w fun e w' => e = .returned (.string r) ∧ Drawn0 w w' := by
 have H := h; clear h; unfold word_shorter.f at H; replace H := bm H; obtain ⟨t145, A3, H⟩ := H; replace A3 := am A3
 by_cases c4 : t145 = true; rotate_left
 ·replace c4 := Bool.eq_false_iff.mpr c4
  subst c4; replace H := inn H
  obtain rfl := Option.some.inj H
  go_enter Tryd.func62, Tryd.ntmps62
  go_wp2_with (first | ((with_reducible refine gate_callee (f := 79) rfl ?_); refine gL (some 7) rfl rfl Tryd.func79 #[.string a0, .string a1] ?_; (refine (strings_HasSuffix.calls a0 a1 false _ A3.out).mono ?_); rintro e w' ⟨rfl, ⟨nd, rfl⟩⟩; refine ⟨_, rfl, ?_⟩))
  go_ret
  exact ⟨by first | rfl | (simp; done) | (simp [*]; done), by repeat (first | exact Drawn0.refl _ | apply Drawn0.step)⟩
 subst c4; replace H := ip H
 obtain ⟨ji5, hji5⟩ : ∃ j_ : Int, (wrap64 ((a0.size : Int) - 1)) = j_ := ⟨_, rfl⟩; replace H : (if 0 ≤ (ji5) then (if (ji5) ≤ (a0.size : Int) then (some (a0.extract 0 ((ji5) : Int).toNat)) else (none)) else (none)) = some r := by first | (rw [hji5] at H; exact H) | (simp only [hji5] at H ⊢; exact H)
 (try rw [hji5] at A3)
 have hji5w : (IntKind.i64.wrap ((a0.size : Int) - 1)) = ji5 := (i64_w _).trans hji5
 by_cases c6 : 0 ≤ (ji5); rotate_left
 ·rw [if_neg c6] at H
  exact absurd H (by simp)
 rw [if_pos c6] at H; have c6b0 := eq_true c6
 have c6b1 := dT c6; clear c6
 by_cases c7 : (ji5) ≤ (a0.size : Int)
 ·rw [if_pos c7] at H
  have c7b0 := eq_true c7
  have c7b1 := dT c7; clear c7; obtain rfl := Option.some.inj H
  go_enter Tryd.func62, Tryd.ntmps62
  go_wp2_with (first | ((with_reducible refine gate_callee (f := 79) rfl ?_); refine gL (some 7) rfl rfl Tryd.func79 #[.string a0, .string a1] ?_; (refine (strings_HasSuffix.calls a0 a1 true _ A3.out).mono ?_); rintro e w' ⟨rfl, ⟨nd, rfl⟩⟩; refine ⟨_, rfl, ?_⟩))
  go_ret
  exact ⟨by first | rfl | (simp; done) | (simp only [← hji5] <;> (first | rfl | simp)) | (simp [*]; done), by repeat (first | exact Drawn0.refl _ | apply Drawn0.step)⟩
 rw [if_neg c7] at H
 exact absurd H (by simp)

/-! ### word_tongues_4: function 61 -/
def word_tongues_4.f (l0_0 : List ByteArray) (l0_1 : List ByteArray) (l0_2 : List ByteArray) (l0_3 : List ByteArray) (a0_4 : Option Nat) (a0_5 : Option Nat) (a0_6 : Option Nat) (a1 : Int) (a2 : Int) : Option (ByteArray) := if 0 ≤ a2 then (if a2 < (l0_0.length : Int) then ((word_shorter.f (rdOf ByteArray.empty l0_0 a2) (B_ #[101,105,110,115])).bind fun t148 => (if t148.size + 3 ≤ 9223372036854775807 then (if 0 ≤ a1 then (if a1 < (l0_1.length : Int) then (if (t148 ++ (B_ #[117,110,100])).size + (rdOf ByteArray.empty l0_1 a1).size ≤ 9223372036854775807 then (some ((t148 ++ (B_ #[117,110,100])) ++ (rdOf ByteArray.empty l0_1 a1))) else (none)) else (none)) else (none)) else (none))) else (none)) else (none)
theorem word_tongues_4.calls (A0_0 : Option Addr) (c0_0 : Nat) (l0_0 : List ByteArray) (A0_1 : Option Addr) (c0_1 : Nat) (l0_1 : List ByteArray) (A0_2 : Option Addr) (c0_2 : Nat) (l0_2 : List ByteArray) (A0_3 : Option Addr) (c0_3 : Nat) (l0_3 : List ByteArray) (a0_4 : Option Nat) (a0_5 : Option Nat) (a0_6 : Option Nat) (a1 : Int) (a2 : Int) (r : ByteArray) (w : World) (hr0_0 : Kd.C Kd.string w A0_0 l0_0.length l0_0) (hc0_0 : l0_0.length ≤ c0_0) (hr0_1 : Kd.C Kd.string w A0_1 l0_1.length l0_1) (hc0_1 : l0_1.length ≤ c0_1) (hr0_2 : Kd.C Kd.string w A0_2 l0_2.length l0_2) (hc0_2 : l0_2.length ≤ c0_2) (hr0_3 : Kd.C Kd.string w A0_3 l0_3.length l0_3) (hc0_3 : l0_3.length ≤ c0_3) (h : word_tongues_4.f l0_0 l0_1 l0_2 l0_3 a0_4 a0_5 a0_6 a1 a2 = some r) :
  Calls Tryd.prog 61 #[.agg #[.slice A0_0 l0_0.length c0_0, .slice A0_1 l0_1.length c0_1, .slice A0_2 l0_2.length c0_2, .slice A0_3 l0_3.length c0_3, fnv a0_4, fnv a0_5, fnv a0_6], .int .i64 a1, .int .i64 a2] w fun e w' => e = .returned (.string r) ∧ Below w.heap.size w w' := by
 have hu59 := Tryd.underlying59; have HR0_0 := am hr0_0; have HC0_0 := am hc0_0; clear hr0_0 hc0_0; have HR0_1 := am hr0_1; have HC0_1 := am hc0_1; clear hr0_1 hc0_1; have HR0_2 := am hr0_2; have HC0_2 := am hc0_2; clear hr0_2 hc0_2; have HR0_3 := am hr0_3; have HC0_3 := am hc0_3; clear hr0_3 hc0_3; have HB := am (Below.refl w.heap.size w)
 have H := h; clear h; unfold word_tongues_4.f at H
 by_cases c4 : 0 ≤ a2; rotate_left
 ·rw [if_neg c4] at H
  exact absurd H (by simp)
 rw [if_pos c4] at H
 have c4b0 := dT c4; clear c4
 by_cases c5 : a2 < (l0_0.length : Int); rotate_left
 ·rw [if_neg c5] at H
  exact absurd H (by simp)
 rw [if_pos c5] at H
 have c5b0 := dT c5; clear c5; replace H := bm H; obtain ⟨t148, A6, H⟩ := H; replace A6 := am A6
 by_cases c7 : t148.size + 3 ≤ 9223372036854775807; rotate_left
 ·rw [if_neg c7] at H
  exact absurd H (by simp)
 rw [if_pos c7] at H; have c7b0 := eq_true c7
 have c7b1 := dT c7
 try have c7b2 := eF c7
 by_cases c8 : 0 ≤ a1; rotate_left
 ·rw [if_neg c8] at H
  exact absurd H (by simp)
 rw [if_pos c8] at H
 have c8b0 := dT c8; clear c8
 by_cases c9 : a1 < (l0_1.length : Int); rotate_left
 ·rw [if_neg c9] at H
  exact absurd H (by simp)
 rw [if_pos c9] at H
 have c9b0 := dT c9; clear c9
 by_cases c10 : (t148 ++ (B_ #[117,110,100])).size + (rdOf ByteArray.empty l0_1 a1).size ≤ 9223372036854775807
 ·rw [if_pos c10] at H
  have c10b0 := eq_true c10
  have c10b1 := dT c10
  try have c10b2 := eF c10
  have c10n : t148.size + 3 + (rdOf ByteArray.empty l0_1 a1).size ≤ 9223372036854775807 := by have h_ := c10; (try simp only [ByteArray.size_append] at h_); first | exact h_ | omega
  have c10n0 := eq_true c10n; have c10n1 := decide_eq_true c10n; have c10n2 := eq_false (Nat.not_lt.2 c10n); obtain rfl := Option.some.inj H
  go_enter Tryd.func61, Tryd.ntmps61
  go_wp2_with (first | ((with_reducible refine gate_dst (N := 3) rfl ?_); refine bx 3 #[.slice A0_0 l0_0.length c0_0, .slice A0_1 l0_1.length c0_1, .slice A0_2 l0_2.length c0_2, .slice A0_3 l0_3.length c0_3, fnv a0_4, fnv a0_5, fnv a0_6] 59 ?_; intro gb146 hg w11 hbox hb; have BK146 := am hbox; have GW146 := gwm hg HB; have GE146 := gem hg HB; replace HB := bsp HB hb; clear hb hbox hg; have Z12_0 := z0 BK146.out; have Z12_1 := z1 BK146.out; have Z12_2 := z2 BK146.out; have Z12_3 := z3 BK146.out; have Z12_4 := z4 BK146.out; have Z12_5 := z5 BK146.out; have Z12_6 := z6 BK146.out; have F12_0 := fz BK146.out 0; have F12_1 := fz BK146.out 1; have F12_2 := fz BK146.out 2; have F12_3 := fz BK146.out 3; have F12_4 := fz BK146.out 4; have F12_5 := fz BK146.out 5; have F12_6 := fz BK146.out 6; have p147 : 0 ≤ (a2 : Int) := of_decide_eq_true (by assumption); have q147 : a2 < (l0_0.length : Int) := of_decide_eq_true (by assumption); obtain ⟨ad147, e147, hx147_0⟩ := Kd.at_string HR0_0.out a2 p147 q147; cases e147; replace hx147_0 := (HB.out.cell (World.block_lt_of_cell? w _ hx147_0)).trans hx147_0; replace p147 := eq_true p147; replace q147 := eq_true q147) | (go_at_call 62; (refine (word_shorter.calls (rdOf ByteArray.empty l0_0 a2) (B_ #[101,105,110,115]) t148 _ A6.out).mono ?_); rintro e w' ⟨rfl, ⟨nd, rfl⟩⟩; (try first | exact ⟨rfl, _, World.drewN_drewN _ _ _⟩ | exact ⟨rfl, _, Eq.trans (World.drewN_drewN _ _ _) (congrArg (World.drewN _) (Nat.add_assoc _ _ _))⟩); have p149 : 0 ≤ (a1 : Int) := of_decide_eq_true (by assumption); have q149 : a1 < (l0_1.length : Int) := of_decide_eq_true (by assumption); obtain ⟨ad149, e149, hx149_0⟩ := Kd.at_string HR0_1.out a1 p149 q149; cases e149; replace hx149_0 := (HB.out.cell (World.block_lt_of_cell? w _ hx149_0)).trans hx149_0; replace p149 := eq_true p149; replace q149 := eq_true q149))
  repeat (go_quiet (first | ((with_reducible refine gate_dst (N := 3) rfl ?_); refine bx 3 #[.slice A0_0 l0_0.length c0_0, .slice A0_1 l0_1.length c0_1, .slice A0_2 l0_2.length c0_2, .slice A0_3 l0_3.length c0_3, fnv a0_4, fnv a0_5, fnv a0_6] 59 ?_; intro gb146 hg w11 hbox hb; have BK146 := am hbox; have GW146 := gwm hg HB; have GE146 := gem hg HB; replace HB := bsp HB hb; clear hb hbox hg; have Z12_0 := z0 BK146.out; have Z12_1 := z1 BK146.out; have Z12_2 := z2 BK146.out; have Z12_3 := z3 BK146.out; have Z12_4 := z4 BK146.out; have Z12_5 := z5 BK146.out; have Z12_6 := z6 BK146.out; have F12_0 := fz BK146.out 0; have F12_1 := fz BK146.out 1; have F12_2 := fz BK146.out 2; have F12_3 := fz BK146.out 3; have F12_4 := fz BK146.out 4; have F12_5 := fz BK146.out 5; have F12_6 := fz BK146.out 6; have p147 : 0 ≤ (a2 : Int) := of_decide_eq_true (by assumption); have q147 : a2 < (l0_0.length : Int) := of_decide_eq_true (by assumption); obtain ⟨ad147, e147, hx147_0⟩ := Kd.at_string HR0_0.out a2 p147 q147; cases e147; replace hx147_0 := (HB.out.cell (World.block_lt_of_cell? w _ hx147_0)).trans hx147_0; replace p147 := eq_true p147; replace q147 := eq_true q147) | (go_at_call 62; (with_reducible refine (word_shorter.calls (rdOf ByteArray.empty l0_0 a2) (B_ #[101,105,110,115]) t148 _ A6.out).mono ?_); rintro e w' ⟨rfl, ⟨nd, rfl⟩⟩; (try first | exact ⟨rfl, _, World.drewN_drewN _ _ _⟩ | exact ⟨rfl, _, Eq.trans (World.drewN_drewN _ _ _) (congrArg (World.drewN _) (Nat.add_assoc _ _ _))⟩); have p149 : 0 ≤ (a1 : Int) := of_decide_eq_true (by assumption); have q149 : a1 < (l0_1.length : Int) := of_decide_eq_true (by assumption); obtain ⟨ad149, e149, hx149_0⟩ := Kd.at_string HR0_1.out a1 p149 q149; cases e149; replace hx149_0 := (HB.out.cell (World.block_lt_of_cell? w _ hx149_0)).trans hx149_0; replace p149 := eq_true p149; replace q149 := eq_true q149)); try go_wp2_with (first | ((with_reducible refine gate_dst (N := 3) rfl ?_); refine bx 3 #[.slice A0_0 l0_0.length c0_0, .slice A0_1 l0_1.length c0_1, .slice A0_2 l0_2.length c0_2, .slice A0_3 l0_3.length c0_3, fnv a0_4, fnv a0_5, fnv a0_6] 59 ?_; intro gb146 hg w11 hbox hb; have BK146 := am hbox; have GW146 := gwm hg HB; have GE146 := gem hg HB; replace HB := bsp HB hb; clear hb hbox hg; have Z12_0 := z0 BK146.out; have Z12_1 := z1 BK146.out; have Z12_2 := z2 BK146.out; have Z12_3 := z3 BK146.out; have Z12_4 := z4 BK146.out; have Z12_5 := z5 BK146.out; have Z12_6 := z6 BK146.out; have F12_0 := fz BK146.out 0; have F12_1 := fz BK146.out 1; have F12_2 := fz BK146.out 2; have F12_3 := fz BK146.out 3; have F12_4 := fz BK146.out 4; have F12_5 := fz BK146.out 5; have F12_6 := fz BK146.out 6; have p147 : 0 ≤ (a2 : Int) := of_decide_eq_true (by assumption); have q147 : a2 < (l0_0.length : Int) := of_decide_eq_true (by assumption); obtain ⟨ad147, e147, hx147_0⟩ := Kd.at_string HR0_0.out a2 p147 q147; cases e147; replace hx147_0 := (HB.out.cell (World.block_lt_of_cell? w _ hx147_0)).trans hx147_0; replace p147 := eq_true p147; replace q147 := eq_true q147) | (go_at_call 62; (with_reducible refine (word_shorter.calls (rdOf ByteArray.empty l0_0 a2) (B_ #[101,105,110,115]) t148 _ A6.out).mono ?_); rintro e w' ⟨rfl, ⟨nd, rfl⟩⟩; (try first | exact ⟨rfl, _, World.drewN_drewN _ _ _⟩ | exact ⟨rfl, _, Eq.trans (World.drewN_drewN _ _ _) (congrArg (World.drewN _) (Nat.add_assoc _ _ _))⟩); have p149 : 0 ≤ (a1 : Int) := of_decide_eq_true (by assumption); have q149 : a1 < (l0_1.length : Int) := of_decide_eq_true (by assumption); obtain ⟨ad149, e149, hx149_0⟩ := Kd.at_string HR0_1.out a1 p149 q149; cases e149; replace hx149_0 := (HB.out.cell (World.block_lt_of_cell? w _ hx149_0)).trans hx149_0; replace p149 := eq_true p149; replace q149 := eq_true q149)))
  go_ret
  exact ⟨er, by exact bes HB.out⟩
 rw [if_neg c10] at H
 exact absurd H (by simp)

/-! ### word_tongues_5: function 63 -/
def word_tongues_5.f (l0_0 : List ByteArray) (l0_1 : List ByteArray) (l0_2 : List ByteArray) (l0_3 : List ByteArray) (a0_4 : Option Nat) (a0_5 : Option Nat) (a0_6 : Option Nat) (a1 : Int) (a2 : ByteArray) : Option (ByteArray) := if 0 ≤ a1 then (if a1 < (l0_0.length : Int) then ((word_shorter.f (rdOf ByteArray.empty l0_0 a1) (B_ #[101,105,110,115])).bind fun t152 => (if t152.size + 7 ≤ 9223372036854775807 then (if (t152 ++ (B_ #[104,117,110,100,101,114,116])).size + a2.size ≤ 9223372036854775807 then (some ((t152 ++ (B_ #[104,117,110,100,101,114,116])) ++ a2)) else (none)) else (none))) else (none)) else (none)
theorem word_tongues_5.calls (A0_0 : Option Addr) (c0_0 : Nat) (l0_0 : List ByteArray) (A0_1 : Option Addr) (c0_1 : Nat) (l0_1 : List ByteArray) (A0_2 : Option Addr) (c0_2 : Nat) (l0_2 : List ByteArray) (A0_3 : Option Addr) (c0_3 : Nat) (l0_3 : List ByteArray) (a0_4 : Option Nat) (a0_5 : Option Nat) (a0_6 : Option Nat) (a1 : Int) (a2 : ByteArray) (r : ByteArray) (w : World) (hr0_0 : Kd.C Kd.string w A0_0 l0_0.length l0_0) (hc0_0 : l0_0.length ≤ c0_0) (hr0_1 : Kd.C Kd.string w A0_1 l0_1.length l0_1) (hc0_1 : l0_1.length ≤ c0_1) (hr0_2 : Kd.C Kd.string w A0_2 l0_2.length l0_2) (hc0_2 : l0_2.length ≤ c0_2) (hr0_3 : Kd.C Kd.string w A0_3 l0_3.length l0_3) (hc0_3 : l0_3.length ≤ c0_3) (h : word_tongues_5.f l0_0 l0_1 l0_2 l0_3 a0_4 a0_5 a0_6 a1 a2 = some r) :
  Calls Tryd.prog 63 #[.agg #[.slice A0_0 l0_0.length c0_0, .slice A0_1 l0_1.length c0_1, .slice A0_2 l0_2.length c0_2, .slice A0_3 l0_3.length c0_3, fnv a0_4, fnv a0_5, fnv a0_6], .int .i64 a1, .string a2] w fun e w' => e = .returned (.string r) ∧ Below w.heap.size w w' := by
 have hu59 := Tryd.underlying59; have HR0_0 := am hr0_0; have HC0_0 := am hc0_0; clear hr0_0 hc0_0; have HR0_1 := am hr0_1; have HC0_1 := am hc0_1; clear hr0_1 hc0_1; have HR0_2 := am hr0_2; have HC0_2 := am hc0_2; clear hr0_2 hc0_2; have HR0_3 := am hr0_3; have HC0_3 := am hc0_3; clear hr0_3 hc0_3; have HB := am (Below.refl w.heap.size w)
 have H := h; clear h; unfold word_tongues_5.f at H
 by_cases c4 : 0 ≤ a1; rotate_left
 ·rw [if_neg c4] at H
  exact absurd H (by simp)
 rw [if_pos c4] at H
 have c4b0 := dT c4; clear c4
 by_cases c5 : a1 < (l0_0.length : Int); rotate_left
 ·rw [if_neg c5] at H
  exact absurd H (by simp)
 rw [if_pos c5] at H
 have c5b0 := dT c5; clear c5; replace H := bm H; obtain ⟨t152, A6, H⟩ := H; replace A6 := am A6
 by_cases c7 : t152.size + 7 ≤ 9223372036854775807; rotate_left
 ·rw [if_neg c7] at H
  exact absurd H (by simp)
 rw [if_pos c7] at H; have c7b0 := eq_true c7
 have c7b1 := dT c7
 try have c7b2 := eF c7
 by_cases c8 : (t152 ++ (B_ #[104,117,110,100,101,114,116])).size + a2.size ≤ 9223372036854775807
 ·rw [if_pos c8] at H
  have c8b0 := eq_true c8
  have c8b1 := dT c8
  try have c8b2 := eF c8
  have c8n : t152.size + 7 + a2.size ≤ 9223372036854775807 := by have h_ := c8; (try simp only [ByteArray.size_append] at h_); first | exact h_ | omega
  have c8n0 := eq_true c8n; have c8n1 := decide_eq_true c8n; have c8n2 := eq_false (Nat.not_lt.2 c8n); obtain rfl := Option.some.inj H
  go_enter Tryd.func63, Tryd.ntmps63
  go_wp2_with (first | ((with_reducible refine gate_dst (N := 3) rfl ?_); refine bx 3 #[.slice A0_0 l0_0.length c0_0, .slice A0_1 l0_1.length c0_1, .slice A0_2 l0_2.length c0_2, .slice A0_3 l0_3.length c0_3, fnv a0_4, fnv a0_5, fnv a0_6] 59 ?_; intro gb150 hg w9 hbox hb; have BK150 := am hbox; have GE150 := gem hg HB; replace HB := bsp HB hb; clear hb hbox hg; have Z10_0 := z0 BK150.out; have Z10_1 := z1 BK150.out; have Z10_2 := z2 BK150.out; have Z10_3 := z3 BK150.out; have Z10_4 := z4 BK150.out; have Z10_5 := z5 BK150.out; have Z10_6 := z6 BK150.out; have F10_0 := fz BK150.out 0; have F10_1 := fz BK150.out 1; have F10_2 := fz BK150.out 2; have F10_3 := fz BK150.out 3; have F10_4 := fz BK150.out 4; have F10_5 := fz BK150.out 5; have F10_6 := fz BK150.out 6; have p151 : 0 ≤ (a1 : Int) := of_decide_eq_true (by assumption); have q151 : a1 < (l0_0.length : Int) := of_decide_eq_true (by assumption); obtain ⟨ad151, e151, hx151_0⟩ := Kd.at_string HR0_0.out a1 p151 q151; cases e151; replace hx151_0 := (HB.out.cell (World.block_lt_of_cell? w _ hx151_0)).trans hx151_0; replace p151 := eq_true p151; replace q151 := eq_true q151) | ((with_reducible refine gate_callee (f := 62) rfl ?_); refine gL (some 12) rfl rfl Tryd.func62 #[.string (rdOf ByteArray.empty l0_0 a1), .string (B_ #[101,105,110,115])] ?_; (refine (word_shorter.calls (rdOf ByteArray.empty l0_0 a1) (B_ #[101,105,110,115]) t152 _ A6.out).mono ?_); rintro e w' ⟨rfl, ⟨nd, rfl⟩⟩; refine ⟨_, rfl, ?_⟩))
  go_ret
  exact ⟨er, by exact bes HB.out⟩
 rw [if_neg c8] at H
 exact absurd H (by simp)

/-! ### word_tongues_7: function 65 -/
def word_tongues_7.f (l0_0 : List ByteArray) (l0_1 : List ByteArray) (l0_2 : List ByteArray) (l0_3 : List ByteArray) (a0_4 : Option Nat) (a0_5 : Option Nat) (a0_6 : Option Nat) (a1 : Int) (a2 : Int) : Option (ByteArray) := if a1 = 0 then (if 0 ≤ a2 then (if a2 < (l0_0.length : Int) then (if 6 + (rdOf ByteArray.empty l0_0 a2).size ≤ 9223372036854775807 then (some ((B_ #[118,101,105,110,116,105]) ++ (rdOf ByteArray.empty l0_0 a2))) else (none)) else (none)) else (none)) else (if 0 ≤ a1 then (if a1 < (l0_1.length : Int) then (if (rdOf ByteArray.empty l0_1 a1).size + 3 ≤ 9223372036854775807 then (if 0 ≤ a2 then (if a2 < (l0_0.length : Int) then (if ((rdOf ByteArray.empty l0_1 a1) ++ (B_ #[32,121,32])).size + (rdOf ByteArray.empty l0_0 a2).size ≤ 9223372036854775807 then (some (((rdOf ByteArray.empty l0_1 a1) ++ (B_ #[32,121,32])) ++ (rdOf ByteArray.empty l0_0 a2))) else (none)) else (none)) else (none)) else (none)) else (none)) else (none))
theorem word_tongues_7.calls (A0_0 : Option Addr) (c0_0 : Nat) (l0_0 : List ByteArray) (A0_1 : Option Addr) (c0_1 : Nat) (l0_1 : List ByteArray) (A0_2 : Option Addr) (c0_2 : Nat) (l0_2 : List ByteArray) (A0_3 : Option Addr) (c0_3 : Nat) (l0_3 : List ByteArray) (a0_4 : Option Nat) (a0_5 : Option Nat) (a0_6 : Option Nat) (a1 : Int) (a2 : Int) (r : ByteArray) (w : World) (hr0_0 : Kd.C Kd.string w A0_0 l0_0.length l0_0) (hc0_0 : l0_0.length ≤ c0_0) (hr0_1 : Kd.C Kd.string w A0_1 l0_1.length l0_1) (hc0_1 : l0_1.length ≤ c0_1) (hr0_2 : Kd.C Kd.string w A0_2 l0_2.length l0_2) (hc0_2 : l0_2.length ≤ c0_2) (hr0_3 : Kd.C Kd.string w A0_3 l0_3.length l0_3) (hc0_3 : l0_3.length ≤ c0_3) (h : word_tongues_7.f l0_0 l0_1 l0_2 l0_3 a0_4 a0_5 a0_6 a1 a2 = some r) :
  Calls Tryd.prog 65 #[.agg #[.slice A0_0 l0_0.length c0_0, .slice A0_1 l0_1.length c0_1, .slice A0_2 l0_2.length c0_2, .slice A0_3 l0_3.length c0_3, fnv a0_4, fnv a0_5, fnv a0_6], .int .i64 a1, .int .i64 a2] w fun e w' => e = .returned (.string r) ∧ Below w.heap.size w w' := by
 have hu59 := Tryd.underlying59; have HR0_0 := am hr0_0; have HC0_0 := am hc0_0; clear hr0_0 hc0_0; have HR0_1 := am hr0_1; have HC0_1 := am hc0_1; clear hr0_1 hc0_1; have HR0_2 := am hr0_2; have HC0_2 := am hc0_2; clear hr0_2 hc0_2; have HR0_3 := am hr0_3; have HC0_3 := am hc0_3; clear hr0_3 hc0_3; have HB := am (Below.refl w.heap.size w)
 have H := h; clear h; unfold word_tongues_7.f at H
 by_cases c4 : a1 = 0
 ·rw [if_pos c4] at H
  have c4b0 := bT c4
  have c4b1 := nF c4; clear c4
  by_cases c5 : 0 ≤ a2; rotate_left
  ·rw [if_neg c5] at H
   exact absurd H (by simp)
  rw [if_pos c5] at H
  have c5b0 := dT c5; clear c5
  by_cases c6 : a2 < (l0_0.length : Int); rotate_left
  ·rw [if_neg c6] at H
   exact absurd H (by simp)
  rw [if_pos c6] at H
  have c6b0 := dT c6; clear c6
  by_cases c7 : 6 + (rdOf ByteArray.empty l0_0 a2).size ≤ 9223372036854775807
  ·rw [if_pos c7] at H
   have c7b0 := eq_true c7
   have c7b1 := dT c7
   try have c7b2 := eF c7
   obtain rfl := Option.some.inj H
   go_enter Tryd.func65, Tryd.ntmps65
   go_wp2_with (first | ((with_reducible refine gate_dst (N := 3) rfl ?_); refine bx 3 #[.slice A0_0 l0_0.length c0_0, .slice A0_1 l0_1.length c0_1, .slice A0_2 l0_2.length c0_2, .slice A0_3 l0_3.length c0_3, fnv a0_4, fnv a0_5, fnv a0_6] 59 ?_; intro gb153 hg w8 hbox hb; have BK153 := am hbox; have GW153 := gwm hg HB; have GE153 := gem hg HB; replace HB := bsp HB hb; clear hb hbox hg; have Z9_0 := z0 BK153.out; have Z9_1 := z1 BK153.out; have Z9_2 := z2 BK153.out; have Z9_3 := z3 BK153.out; have Z9_4 := z4 BK153.out; have Z9_5 := z5 BK153.out; have Z9_6 := z6 BK153.out; have F9_0 := fz BK153.out 0; have F9_1 := fz BK153.out 1; have F9_2 := fz BK153.out 2; have F9_3 := fz BK153.out 3; have F9_4 := fz BK153.out 4; have F9_5 := fz BK153.out 5; have F9_6 := fz BK153.out 6; have p154 : 0 ≤ (a2 : Int) := of_decide_eq_true (by assumption); have q154 : a2 < (l0_0.length : Int) := of_decide_eq_true (by assumption); obtain ⟨ad154, e154, hx154_0⟩ := Kd.at_string HR0_0.out a2 p154 q154; cases e154; replace hx154_0 := (HB.out.cell (World.block_lt_of_cell? w _ hx154_0)).trans hx154_0; replace p154 := eq_true p154; replace q154 := eq_true q154))
   repeat (go_quiet (first | ((with_reducible refine gate_dst (N := 3) rfl ?_); refine bx 3 #[.slice A0_0 l0_0.length c0_0, .slice A0_1 l0_1.length c0_1, .slice A0_2 l0_2.length c0_2, .slice A0_3 l0_3.length c0_3, fnv a0_4, fnv a0_5, fnv a0_6] 59 ?_; intro gb153 hg w8 hbox hb; have BK153 := am hbox; have GW153 := gwm hg HB; have GE153 := gem hg HB; replace HB := bsp HB hb; clear hb hbox hg; have Z9_0 := z0 BK153.out; have Z9_1 := z1 BK153.out; have Z9_2 := z2 BK153.out; have Z9_3 := z3 BK153.out; have Z9_4 := z4 BK153.out; have Z9_5 := z5 BK153.out; have Z9_6 := z6 BK153.out; have F9_0 := fz BK153.out 0; have F9_1 := fz BK153.out 1; have F9_2 := fz BK153.out 2; have F9_3 := fz BK153.out 3; have F9_4 := fz BK153.out 4; have F9_5 := fz BK153.out 5; have F9_6 := fz BK153.out 6; have p154 : 0 ≤ (a2 : Int) := of_decide_eq_true (by assumption); have q154 : a2 < (l0_0.length : Int) := of_decide_eq_true (by assumption); obtain ⟨ad154, e154, hx154_0⟩ := Kd.at_string HR0_0.out a2 p154 q154; cases e154; replace hx154_0 := (HB.out.cell (World.block_lt_of_cell? w _ hx154_0)).trans hx154_0; replace p154 := eq_true p154; replace q154 := eq_true q154)); try go_wp2_with (first | ((with_reducible refine gate_dst (N := 3) rfl ?_); refine bx 3 #[.slice A0_0 l0_0.length c0_0, .slice A0_1 l0_1.length c0_1, .slice A0_2 l0_2.length c0_2, .slice A0_3 l0_3.length c0_3, fnv a0_4, fnv a0_5, fnv a0_6] 59 ?_; intro gb153 hg w8 hbox hb; have BK153 := am hbox; have GW153 := gwm hg HB; have GE153 := gem hg HB; replace HB := bsp HB hb; clear hb hbox hg; have Z9_0 := z0 BK153.out; have Z9_1 := z1 BK153.out; have Z9_2 := z2 BK153.out; have Z9_3 := z3 BK153.out; have Z9_4 := z4 BK153.out; have Z9_5 := z5 BK153.out; have Z9_6 := z6 BK153.out; have F9_0 := fz BK153.out 0; have F9_1 := fz BK153.out 1; have F9_2 := fz BK153.out 2; have F9_3 := fz BK153.out 3; have F9_4 := fz BK153.out 4; have F9_5 := fz BK153.out 5; have F9_6 := fz BK153.out 6; have p154 : 0 ≤ (a2 : Int) := of_decide_eq_true (by assumption); have q154 : a2 < (l0_0.length : Int) := of_decide_eq_true (by assumption); obtain ⟨ad154, e154, hx154_0⟩ := Kd.at_string HR0_0.out a2 p154 q154; cases e154; replace hx154_0 := (HB.out.cell (World.block_lt_of_cell? w _ hx154_0)).trans hx154_0; replace p154 := eq_true p154; replace q154 := eq_true q154)))
   go_ret
   exact ⟨er, by exact bes HB.out⟩
  rw [if_neg c7] at H
  exact absurd H (by simp)
 rw [if_neg c4] at H
 have c4b0 := bF c4
 have c4b1 := nT c4
 by_cases c10 : 0 ≤ a1; rotate_left
 ·rw [if_neg c10] at H
  exact absurd H (by simp)
 rw [if_pos c10] at H
 have c10b0 := dT c10; clear c10
 by_cases c11 : a1 < (l0_1.length : Int); rotate_left
 ·rw [if_neg c11] at H
  exact absurd H (by simp)
 rw [if_pos c11] at H
 have c11b0 := dT c11; clear c11
 by_cases c12 : (rdOf ByteArray.empty l0_1 a1).size + 3 ≤ 9223372036854775807; rotate_left
 ·rw [if_neg c12] at H
  exact absurd H (by simp)
 rw [if_pos c12] at H; have c12b0 := eq_true c12
 have c12b1 := dT c12
 try have c12b2 := eF c12
 by_cases c13 : 0 ≤ a2; rotate_left
 ·rw [if_neg c13] at H
  exact absurd H (by simp)
 rw [if_pos c13] at H
 have c13b0 := dT c13; clear c13
 by_cases c14 : a2 < (l0_0.length : Int); rotate_left
 ·rw [if_neg c14] at H
  exact absurd H (by simp)
 rw [if_pos c14] at H
 have c14b0 := dT c14; clear c14
 by_cases c15 : ((rdOf ByteArray.empty l0_1 a1) ++ (B_ #[32,121,32])).size + (rdOf ByteArray.empty l0_0 a2).size ≤ 9223372036854775807
 ·rw [if_pos c15] at H
  have c15b0 := eq_true c15
  have c15b1 := dT c15
  try have c15b2 := eF c15
  have c15n : (rdOf ByteArray.empty l0_1 a1).size + 3 + (rdOf ByteArray.empty l0_0 a2).size ≤ 9223372036854775807 := by have h_ := c15; (try simp only [ByteArray.size_append] at h_); first | exact h_ | omega
  have c15n0 := eq_true c15n; have c15n1 := decide_eq_true c15n; have c15n2 := eq_false (Nat.not_lt.2 c15n); obtain rfl := Option.some.inj H
  go_enter Tryd.func65, Tryd.ntmps65
  go_wp2_with (first | ((with_reducible refine gate_dst (N := 3) rfl ?_); refine bx 3 #[.slice A0_0 l0_0.length c0_0, .slice A0_1 l0_1.length c0_1, .slice A0_2 l0_2.length c0_2, .slice A0_3 l0_3.length c0_3, fnv a0_4, fnv a0_5, fnv a0_6] 59 ?_; intro gb153 hg w16 hbox hb; have BK153 := am hbox; have GW153 := gwm hg HB; have GE153 := gem hg HB; replace HB := bsp HB hb; clear hb hbox hg; have Z17_0 := z0 BK153.out; have Z17_1 := z1 BK153.out; have Z17_2 := z2 BK153.out; have Z17_3 := z3 BK153.out; have Z17_4 := z4 BK153.out; have Z17_5 := z5 BK153.out; have Z17_6 := z6 BK153.out; have F17_0 := fz BK153.out 0; have F17_1 := fz BK153.out 1; have F17_2 := fz BK153.out 2; have F17_3 := fz BK153.out 3; have F17_4 := fz BK153.out 4; have F17_5 := fz BK153.out 5; have F17_6 := fz BK153.out 6; have p155 : 0 ≤ (a1 : Int) := of_decide_eq_true (by assumption); have q155 : a1 < (l0_1.length : Int) := of_decide_eq_true (by assumption); obtain ⟨ad155, e155, hx155_0⟩ := Kd.at_string HR0_1.out a1 p155 q155; cases e155; replace hx155_0 := (HB.out.cell (World.block_lt_of_cell? w _ hx155_0)).trans hx155_0; replace p155 := eq_true p155; replace q155 := eq_true q155; have p156 : 0 ≤ (a2 : Int) := of_decide_eq_true (by assumption); have q156 : a2 < (l0_0.length : Int) := of_decide_eq_true (by assumption); obtain ⟨ad156, e156, hx156_0⟩ := Kd.at_string HR0_0.out a2 p156 q156; cases e156; replace hx156_0 := (HB.out.cell (World.block_lt_of_cell? w _ hx156_0)).trans hx156_0; replace p156 := eq_true p156; replace q156 := eq_true q156))
  repeat (go_quiet (first | ((with_reducible refine gate_dst (N := 3) rfl ?_); refine bx 3 #[.slice A0_0 l0_0.length c0_0, .slice A0_1 l0_1.length c0_1, .slice A0_2 l0_2.length c0_2, .slice A0_3 l0_3.length c0_3, fnv a0_4, fnv a0_5, fnv a0_6] 59 ?_; intro gb153 hg w16 hbox hb; have BK153 := am hbox; have GW153 := gwm hg HB; have GE153 := gem hg HB; replace HB := bsp HB hb; clear hb hbox hg; have Z17_0 := z0 BK153.out; have Z17_1 := z1 BK153.out; have Z17_2 := z2 BK153.out; have Z17_3 := z3 BK153.out; have Z17_4 := z4 BK153.out; have Z17_5 := z5 BK153.out; have Z17_6 := z6 BK153.out; have F17_0 := fz BK153.out 0; have F17_1 := fz BK153.out 1; have F17_2 := fz BK153.out 2; have F17_3 := fz BK153.out 3; have F17_4 := fz BK153.out 4; have F17_5 := fz BK153.out 5; have F17_6 := fz BK153.out 6; have p155 : 0 ≤ (a1 : Int) := of_decide_eq_true (by assumption); have q155 : a1 < (l0_1.length : Int) := of_decide_eq_true (by assumption); obtain ⟨ad155, e155, hx155_0⟩ := Kd.at_string HR0_1.out a1 p155 q155; cases e155; replace hx155_0 := (HB.out.cell (World.block_lt_of_cell? w _ hx155_0)).trans hx155_0; replace p155 := eq_true p155; replace q155 := eq_true q155; have p156 : 0 ≤ (a2 : Int) := of_decide_eq_true (by assumption); have q156 : a2 < (l0_0.length : Int) := of_decide_eq_true (by assumption); obtain ⟨ad156, e156, hx156_0⟩ := Kd.at_string HR0_0.out a2 p156 q156; cases e156; replace hx156_0 := (HB.out.cell (World.block_lt_of_cell? w _ hx156_0)).trans hx156_0; replace p156 := eq_true p156; replace q156 := eq_true q156)); try go_wp2_with (first | ((with_reducible refine gate_dst (N := 3) rfl ?_); refine bx 3 #[.slice A0_0 l0_0.length c0_0, .slice A0_1 l0_1.length c0_1, .slice A0_2 l0_2.length c0_2, .slice A0_3 l0_3.length c0_3, fnv a0_4, fnv a0_5, fnv a0_6] 59 ?_; intro gb153 hg w16 hbox hb; have BK153 := am hbox; have GW153 := gwm hg HB; have GE153 := gem hg HB; replace HB := bsp HB hb; clear hb hbox hg; have Z17_0 := z0 BK153.out; have Z17_1 := z1 BK153.out; have Z17_2 := z2 BK153.out; have Z17_3 := z3 BK153.out; have Z17_4 := z4 BK153.out; have Z17_5 := z5 BK153.out; have Z17_6 := z6 BK153.out; have F17_0 := fz BK153.out 0; have F17_1 := fz BK153.out 1; have F17_2 := fz BK153.out 2; have F17_3 := fz BK153.out 3; have F17_4 := fz BK153.out 4; have F17_5 := fz BK153.out 5; have F17_6 := fz BK153.out 6; have p155 : 0 ≤ (a1 : Int) := of_decide_eq_true (by assumption); have q155 : a1 < (l0_1.length : Int) := of_decide_eq_true (by assumption); obtain ⟨ad155, e155, hx155_0⟩ := Kd.at_string HR0_1.out a1 p155 q155; cases e155; replace hx155_0 := (HB.out.cell (World.block_lt_of_cell? w _ hx155_0)).trans hx155_0; replace p155 := eq_true p155; replace q155 := eq_true q155; have p156 : 0 ≤ (a2 : Int) := of_decide_eq_true (by assumption); have q156 : a2 < (l0_0.length : Int) := of_decide_eq_true (by assumption); obtain ⟨ad156, e156, hx156_0⟩ := Kd.at_string HR0_0.out a2 p156 q156; cases e156; replace hx156_0 := (HB.out.cell (World.block_lt_of_cell? w _ hx156_0)).trans hx156_0; replace p156 := eq_true p156; replace q156 := eq_true q156)))
  go_ret
  exact ⟨er, by exact bes HB.out⟩
 rw [if_neg c15] at H
 exact absurd H (by simp)

/-! ### word_tongues_8: function 66 -/
def word_tongues_8.f (l0_0 : List ByteArray) (l0_1 : List ByteArray) (l0_2 : List ByteArray) (l0_3 : List ByteArray) (a0_4 : Option Nat) (a0_5 : Option Nat) (a0_6 : Option Nat) (a1 : Int) (a2 : ByteArray) : Option (ByteArray) := if a1 = 1 then (if a2.toList = ([] : List UInt8) then (some (B_ #[99,105,101,110])) else ((some (([(B_ #[99,105,101,110,116,111]), (B_ #[100,111,115,99,105,101,110,116,111,115]), (B_ #[116,114,101,115,99,105,101,110,116,111,115]), (B_ #[99,117,97,116,114,111,99,105,101,110,116,111,115]), (B_ #[113,117,105,110,105,101,110,116,111,115]), (B_ #[115,101,105,115,99,105,101,110,116,111,115]), (B_ #[115,101,116,101,99,105,101,110,116,111,115]), (B_ #[111,99,104,111,99,105,101,110,116,111,115]), (B_ #[110,111,118,101,99,105,101,110,116,111,115])] : List ByteArray) : List ByteArray)).bind fun y158 => (if 0 ≤ (wrap64 (a1 - 1)) then (if (wrap64 (a1 - 1)) < (y158.length : Int) then ((word_joined.f (rdOf ByteArray.empty y158 (wrap64 (a1 - 1))) (B_ #[32]) a2).bind fun t162 => (some t162)) else (none)) else (none)))) else ((some (([(B_ #[99,105,101,110,116,111]), (B_ #[100,111,115,99,105,101,110,116,111,115]), (B_ #[116,114,101,115,99,105,101,110,116,111,115]), (B_ #[99,117,97,116,114,111,99,105,101,110,116,111,115]), (B_ #[113,117,105,110,105,101,110,116,111,115]), (B_ #[115,101,105,115,99,105,101,110,116,111,115]), (B_ #[115,101,116,101,99,105,101,110,116,111,115]), (B_ #[111,99,104,111,99,105,101,110,116,111,115]), (B_ #[110,111,118,101,99,105,101,110,116,111,115])] : List ByteArray) : List ByteArray)).bind fun y163 => (if 0 ≤ (wrap64 (a1 - 1)) then (if (wrap64 (a1 - 1)) < (y163.length : Int) then ((word_joined.f (rdOf ByteArray.empty y163 (wrap64 (a1 - 1))) (B_ #[32]) a2).bind fun t167 => (some t167)) else (none)) else (none)))
theorem word_tongues_8.calls (A0_0 : Option Addr) (c0_0 : Nat) (l0_0 : List ByteArray) (A0_1 : Option Addr) (c0_1 : Nat) (l0_1 : List ByteArray) (A0_2 : Option Addr) (c0_2 : Nat) (l0_2 : List ByteArray) (A0_3 : Option Addr) (c0_3 : Nat) (l0_3 : List ByteArray) (a0_4 : Option Nat) (a0_5 : Option Nat) (a0_6 : Option Nat) (a1 : Int) (a2 : ByteArray) (r : ByteArray) (w : World) (hr0_0 : Kd.C Kd.string w A0_0 l0_0.length l0_0) (hc0_0 : l0_0.length ≤ c0_0) (hr0_1 : Kd.C Kd.string w A0_1 l0_1.length l0_1) (hc0_1 : l0_1.length ≤ c0_1) (hr0_2 : Kd.C Kd.string w A0_2 l0_2.length l0_2) (hc0_2 : l0_2.length ≤ c0_2) (hr0_3 : Kd.C Kd.string w A0_3 l0_3.length l0_3) (hc0_3 : l0_3.length ≤ c0_3) (h : word_tongues_8.f l0_0 l0_1 l0_2 l0_3 a0_4 a0_5 a0_6 a1 a2 = some r) :
  Calls Tryd.prog 66 #[.agg #[.slice A0_0 l0_0.length c0_0, .slice A0_1 l0_1.length c0_1, .slice A0_2 l0_2.length c0_2, .slice A0_3 l0_3.length c0_3, fnv a0_4, fnv a0_5, fnv a0_6], .int .i64 a1, .string a2] w fun e w' => e = .returned (.string r) ∧ Below w.heap.size w w' := by
 have hu59 := Tryd.underlying59; have HR0_0 := am hr0_0; have HC0_0 := am hc0_0; clear hr0_0 hc0_0; have HR0_1 := am hr0_1; have HC0_1 := am hc0_1; clear hr0_1 hc0_1; have HR0_2 := am hr0_2; have HC0_2 := am hc0_2; clear hr0_2 hc0_2; have HR0_3 := am hr0_3; have HC0_3 := am hc0_3; clear hr0_3 hc0_3; have HB := am (Below.refl w.heap.size w)
 have H := h; clear h; unfold word_tongues_8.f at H
 by_cases c4 : a1 = 1; rotate_left
 ·rw [if_neg c4] at H
  have c4b0 := bF c4
  have c4b1 := nT c4; obtain ⟨y163, hy163⟩ : ∃ y_ : List ByteArray, y_ = (([(B_ #[99,105,101,110,116,111]), (B_ #[100,111,115,99,105,101,110,116,111,115]), (B_ #[116,114,101,115,99,105,101,110,116,111,115]), (B_ #[99,117,97,116,114,111,99,105,101,110,116,111,115]), (B_ #[113,117,105,110,105,101,110,116,111,115]), (B_ #[115,101,105,115,99,105,101,110,116,111,115]), (B_ #[115,101,116,101,99,105,101,110,116,111,115]), (B_ #[111,99,104,111,99,105,101,110,116,111,115]), (B_ #[110,111,118,101,99,105,101,110,116,111,115])] : List ByteArray)) := ⟨_, rfl⟩; replace H : (if 0 ≤ (wrap64 (a1 - 1)) then (if (wrap64 (a1 - 1)) < (y163.length : Int) then ((word_joined.f (rdOf ByteArray.empty y163 (wrap64 (a1 - 1))) (B_ #[32]) a2).bind fun t167 => (some t167)) else (none)) else (none)) = some r := by first | (rw [hy163]; with_reducible exact H) | (have H2_ := (Option.bind_some _ _).symm.trans H; rw [hy163]; with_reducible exact H2_) | (have H2_ := (Option.bind_some _ _).symm.trans H; with_reducible exact H2_) | with_reducible exact H | (rw [hy163]; exact H) | exact H
  have Ny163 := am hy163; clear hy163; obtain ⟨ji15, hji15⟩ : ∃ j_ : Int, (wrap64 (a1 - 1)) = j_ := ⟨_, rfl⟩; replace H : (if 0 ≤ (ji15) then (if (ji15) < (y163.length : Int) then ((word_joined.f (rdOf ByteArray.empty y163 (ji15)) (B_ #[32]) a2).bind fun t167 => (some t167)) else (none)) else (none)) = some r := by first | (rw [hji15] at H; exact H) | (simp only [hji15] at H ⊢; exact H)
  have hji15w : (IntKind.i64.wrap (a1 - 1)) = ji15 := (i64_w _).trans hji15
  by_cases c16 : 0 ≤ (ji15); rotate_left
  ·rw [if_neg c16] at H
   exact absurd H (by simp)
  rw [if_pos c16] at H
  have c16b0 := dT c16; clear c16
  by_cases c17 : (ji15) < (y163.length : Int)
  ·rw [if_pos c17] at H
   have c17b0 := dT c17; clear c17; replace H := bm H; obtain ⟨t167, A18, H⟩ := H; replace H : (some t167) = some r := H; replace A18 := am A18; obtain rfl := Option.some.inj H
   go_enter Tryd.func66, Tryd.ntmps66
   go_wp2_with (first | ((with_reducible refine gate_dst (N := 3) rfl ?_); refine bx 3 #[.slice A0_0 l0_0.length c0_0, .slice A0_1 l0_1.length c0_1, .slice A0_2 l0_2.length c0_2, .slice A0_3 l0_3.length c0_3, fnv a0_4, fnv a0_5, fnv a0_6] 59 ?_; intro gb157 hg w19 hbox hb; have BK157 := am hbox; have GW157 := gwm hg HB; have GE157 := gem hg HB; replace HB := bsp HB hb; clear hb hbox hg) | ((with_reducible refine gate_dst (N := 13) rfl ?_); refine Kd.R_lit Kd.string _ 9 ?hg (N := 13) ?hd (xs := ([(B_ #[99,105,101,110,116,111]), (B_ #[100,111,115,99,105,101,110,116,111,115]), (B_ #[116,114,101,115,99,105,101,110,116,111,115]), (B_ #[99,117,97,116,114,111,99,105,101,110,116,111,115]), (B_ #[113,117,105,110,105,101,110,116,111,115]), (B_ #[115,101,105,115,99,105,101,110,116,111,115]), (B_ #[115,101,116,101,99,105,101,110,116,111,115]), (B_ #[111,99,104,111,99,105,101,110,116,111,115]), (B_ #[110,111,118,101,99,105,101,110,116,111,115])] : List ByteArray)) (inner := [.string (B_ #[99,105,101,110,116,111]), .string (B_ #[100,111,115,99,105,101,110,116,111,115]), .string (B_ #[116,114,101,115,99,105,101,110,116,111,115]), .string (B_ #[99,117,97,116,114,111,99,105,101,110,116,111,115]), .string (B_ #[113,117,105,110,105,101,110,116,111,115]), .string (B_ #[115,101,105,115,99,105,101,110,116,111,115]), .string (B_ #[115,101,116,101,99,105,101,110,116,111,115]), .string (B_ #[111,99,104,111,99,105,101,110,116,111,115]), .string (B_ #[110,111,118,101,99,105,101,110,116,111,115])]) (ok := fun _ => True) (okp := fun _ => True) ?hr ?hp (fun _ hk => hk) trivial (Below.refl _ _) (Nat.le_refl _) (by simp) ?_; (case hd => rfl); (case hg => rfl); (case hr => first | (go_simp; done) | (go_simp; rfl)); (case hp => exact (Reps.one (show Kd.M Kd.string _ _ _ (B_ #[99,105,101,110,116,111]) [.string (B_ #[99,105,101,110,116,111])] from rfl) (Reps.one (show Kd.M Kd.string _ _ _ (B_ #[100,111,115,99,105,101,110,116,111,115]) [.string (B_ #[100,111,115,99,105,101,110,116,111,115])] from rfl) (Reps.one (show Kd.M Kd.string _ _ _ (B_ #[116,114,101,115,99,105,101,110,116,111,115]) [.string (B_ #[116,114,101,115,99,105,101,110,116,111,115])] from rfl) (Reps.one (show Kd.M Kd.string _ _ _ (B_ #[99,117,97,116,114,111,99,105,101,110,116,111,115]) [.string (B_ #[99,117,97,116,114,111,99,105,101,110,116,111,115])] from rfl) (Reps.one (show Kd.M Kd.string _ _ _ (B_ #[113,117,105,110,105,101,110,116,111,115]) [.string (B_ #[113,117,105,110,105,101,110,116,111,115])] from rfl) (Reps.one (show Kd.M Kd.string _ _ _ (B_ #[115,101,105,115,99,105,101,110,116,111,115]) [.string (B_ #[115,101,105,115,99,105,101,110,116,111,115])] from rfl) (Reps.one (show Kd.M Kd.string _ _ _ (B_ #[115,101,116,101,99,105,101,110,116,111,115]) [.string (B_ #[115,101,116,101,99,105,101,110,116,111,115])] from rfl) (Reps.one (show Kd.M Kd.string _ _ _ (B_ #[111,99,104,111,99,105,101,110,116,111,115]) [.string (B_ #[111,99,104,111,99,105,101,110,116,111,115])] from rfl) (Reps.one (show Kd.M Kd.string _ _ _ (B_ #[110,111,118,101,99,105,101,110,116,111,115]) [.string (B_ #[110,111,118,101,99,105,101,110,116,111,115])] from rfl) (Reps.none _ _))))))))))); intro v164 w20 ho21 hb hg_ hnew_; clear hg_ hnew_; (first | rw [← Ny163.out] at ho21 | (simp only [Int.reduceToNat] at ho21; rw [← Ny163.out] at ho21)); have HO165 := am (Kd.R_lower ho21 (below_size (bes HB.out))); replace BK157 := kb BK157 hb; replace HB := bsp HB hb; clear hb ho21; obtain ⟨Ao22, co22, eo22⟩ := Kd.R_slice HO165.out; subst eo22; have p166 : 0 ≤ ((ji15) : Int) := of_decide_eq_true (by assumption); have q166 : (ji15) < (y163.length : Int) := of_decide_eq_true (by assumption); obtain ⟨ad166, e166, hx166_0⟩ := Kd.at_string (Kd.R_reads' HO165.out).2.2 (ji15) p166 q166; cases e166; replace p166 := eq_true p166; replace q166 := eq_true q166) | ((with_reducible refine gate_callee (f := 59) rfl ?_); refine goesL_ (some 19) rfl rfl Tryd.func59 (by kernel_rfl) rfl #[.string (rdOf ByteArray.empty y163 (ji15)), .string (B_ #[32]), .string a2] rfl (by (try simp only [List.map_toArray, List.map_cons, List.map_nil]); first | done | (simp only [hji15]; rfl) | rfl | (simp only [List.length_drop, List.length_take]; rfl)) ?_; (refine (word_joined.calls (rdOf ByteArray.empty y163 (ji15)) (B_ #[32]) a2 t167 _ A18.out).mono ?_); rintro e w' ⟨rfl, ⟨nd, rfl⟩⟩; refine ⟨_, rfl, ?_⟩))
   go_ret
   exact ⟨by first | rfl | (simp [errW_none, errW_some] <;> rfl) | (simp only [← hji15]; first | rfl | (simp [errW_none, errW_some] <;> rfl)) | (simp [*, errW_none, errW_some] <;> rfl), by exact bes HB.out⟩
  rw [if_neg c17] at H
  exact absurd H (by simp)
 rw [if_pos c4] at H
 have c4b0 := bT c4
 have c4b1 := nF c4; clear c4
 by_cases c5 : a2.toList = ([] : List UInt8)
 ·rw [if_pos c5] at H
  have c5b0 := bT c5
  have c5b1 := nF c5; clear c5; obtain rfl := Option.some.inj H
  go_enter Tryd.func66, Tryd.ntmps66
  go_wp2_with (first | ((with_reducible refine gate_dst (N := 3) rfl ?_); refine bx 3 #[.slice A0_0 l0_0.length c0_0, .slice A0_1 l0_1.length c0_1, .slice A0_2 l0_2.length c0_2, .slice A0_3 l0_3.length c0_3, fnv a0_4, fnv a0_5, fnv a0_6] 59 ?_; intro gb157 hg w6 hbox hb; have BK157 := am hbox; have GW157 := gwm hg HB; have GE157 := gem hg HB; replace HB := bsp HB hb; clear hb hbox hg))
  go_ret
  exact ⟨er, by exact bes HB.out⟩
 rw [if_neg c5] at H
 have c5b0 := bF c5
 have c5b1 := nT c5; obtain ⟨y158, hy158⟩ : ∃ y_ : List ByteArray, y_ = (([(B_ #[99,105,101,110,116,111]), (B_ #[100,111,115,99,105,101,110,116,111,115]), (B_ #[116,114,101,115,99,105,101,110,116,111,115]), (B_ #[99,117,97,116,114,111,99,105,101,110,116,111,115]), (B_ #[113,117,105,110,105,101,110,116,111,115]), (B_ #[115,101,105,115,99,105,101,110,116,111,115]), (B_ #[115,101,116,101,99,105,101,110,116,111,115]), (B_ #[111,99,104,111,99,105,101,110,116,111,115]), (B_ #[110,111,118,101,99,105,101,110,116,111,115])] : List ByteArray)) := ⟨_, rfl⟩; replace H : (if 0 ≤ (wrap64 (a1 - 1)) then (if (wrap64 (a1 - 1)) < (y158.length : Int) then ((word_joined.f (rdOf ByteArray.empty y158 (wrap64 (a1 - 1))) (B_ #[32]) a2).bind fun t162 => (some t162)) else (none)) else (none)) = some r := by first | (rw [hy158]; with_reducible exact H) | (have H2_ := (Option.bind_some _ _).symm.trans H; rw [hy158]; with_reducible exact H2_) | (have H2_ := (Option.bind_some _ _).symm.trans H; with_reducible exact H2_) | with_reducible exact H | (rw [hy158]; exact H) | exact H
 have Ny158 := am hy158; clear hy158; obtain ⟨ji7, hji7⟩ : ∃ j_ : Int, (wrap64 (a1 - 1)) = j_ := ⟨_, rfl⟩; replace H : (if 0 ≤ (ji7) then (if (ji7) < (y158.length : Int) then ((word_joined.f (rdOf ByteArray.empty y158 (ji7)) (B_ #[32]) a2).bind fun t162 => (some t162)) else (none)) else (none)) = some r := by first | (rw [hji7] at H; exact H) | (simp only [hji7] at H ⊢; exact H)
 have hji7w : (IntKind.i64.wrap (a1 - 1)) = ji7 := (i64_w _).trans hji7
 by_cases c8 : 0 ≤ (ji7); rotate_left
 ·rw [if_neg c8] at H
  exact absurd H (by simp)
 rw [if_pos c8] at H
 have c8b0 := dT c8; clear c8
 by_cases c9 : (ji7) < (y158.length : Int)
 ·rw [if_pos c9] at H
  have c9b0 := dT c9; clear c9; replace H := bm H; obtain ⟨t162, A10, H⟩ := H; replace H : (some t162) = some r := H; replace A10 := am A10; obtain rfl := Option.some.inj H
  go_enter Tryd.func66, Tryd.ntmps66
  go_wp2_with (first | ((with_reducible refine gate_dst (N := 3) rfl ?_); refine bx 3 #[.slice A0_0 l0_0.length c0_0, .slice A0_1 l0_1.length c0_1, .slice A0_2 l0_2.length c0_2, .slice A0_3 l0_3.length c0_3, fnv a0_4, fnv a0_5, fnv a0_6] 59 ?_; intro gb157 hg w11 hbox hb; have BK157 := am hbox; have GW157 := gwm hg HB; have GE157 := gem hg HB; replace HB := bsp HB hb; clear hb hbox hg) | ((with_reducible refine gate_dst (N := 13) rfl ?_); refine Kd.R_lit Kd.string _ 9 ?hg (N := 13) ?hd (xs := ([(B_ #[99,105,101,110,116,111]), (B_ #[100,111,115,99,105,101,110,116,111,115]), (B_ #[116,114,101,115,99,105,101,110,116,111,115]), (B_ #[99,117,97,116,114,111,99,105,101,110,116,111,115]), (B_ #[113,117,105,110,105,101,110,116,111,115]), (B_ #[115,101,105,115,99,105,101,110,116,111,115]), (B_ #[115,101,116,101,99,105,101,110,116,111,115]), (B_ #[111,99,104,111,99,105,101,110,116,111,115]), (B_ #[110,111,118,101,99,105,101,110,116,111,115])] : List ByteArray)) (inner := [.string (B_ #[99,105,101,110,116,111]), .string (B_ #[100,111,115,99,105,101,110,116,111,115]), .string (B_ #[116,114,101,115,99,105,101,110,116,111,115]), .string (B_ #[99,117,97,116,114,111,99,105,101,110,116,111,115]), .string (B_ #[113,117,105,110,105,101,110,116,111,115]), .string (B_ #[115,101,105,115,99,105,101,110,116,111,115]), .string (B_ #[115,101,116,101,99,105,101,110,116,111,115]), .string (B_ #[111,99,104,111,99,105,101,110,116,111,115]), .string (B_ #[110,111,118,101,99,105,101,110,116,111,115])]) (ok := fun _ => True) (okp := fun _ => True) ?hr ?hp (fun _ hk => hk) trivial (Below.refl _ _) (Nat.le_refl _) (by simp) ?_; (case hd => rfl); (case hg => rfl); (case hr => first | (go_simp; done) | (go_simp; rfl)); (case hp => exact (Reps.one (show Kd.M Kd.string _ _ _ (B_ #[99,105,101,110,116,111]) [.string (B_ #[99,105,101,110,116,111])] from rfl) (Reps.one (show Kd.M Kd.string _ _ _ (B_ #[100,111,115,99,105,101,110,116,111,115]) [.string (B_ #[100,111,115,99,105,101,110,116,111,115])] from rfl) (Reps.one (show Kd.M Kd.string _ _ _ (B_ #[116,114,101,115,99,105,101,110,116,111,115]) [.string (B_ #[116,114,101,115,99,105,101,110,116,111,115])] from rfl) (Reps.one (show Kd.M Kd.string _ _ _ (B_ #[99,117,97,116,114,111,99,105,101,110,116,111,115]) [.string (B_ #[99,117,97,116,114,111,99,105,101,110,116,111,115])] from rfl) (Reps.one (show Kd.M Kd.string _ _ _ (B_ #[113,117,105,110,105,101,110,116,111,115]) [.string (B_ #[113,117,105,110,105,101,110,116,111,115])] from rfl) (Reps.one (show Kd.M Kd.string _ _ _ (B_ #[115,101,105,115,99,105,101,110,116,111,115]) [.string (B_ #[115,101,105,115,99,105,101,110,116,111,115])] from rfl) (Reps.one (show Kd.M Kd.string _ _ _ (B_ #[115,101,116,101,99,105,101,110,116,111,115]) [.string (B_ #[115,101,116,101,99,105,101,110,116,111,115])] from rfl) (Reps.one (show Kd.M Kd.string _ _ _ (B_ #[111,99,104,111,99,105,101,110,116,111,115]) [.string (B_ #[111,99,104,111,99,105,101,110,116,111,115])] from rfl) (Reps.one (show Kd.M Kd.string _ _ _ (B_ #[110,111,118,101,99,105,101,110,116,111,115]) [.string (B_ #[110,111,118,101,99,105,101,110,116,111,115])] from rfl) (Reps.none _ _))))))))))); intro v159 w12 ho13 hb hg_ hnew_; clear hg_ hnew_; (first | rw [← Ny158.out] at ho13 | (simp only [Int.reduceToNat] at ho13; rw [← Ny158.out] at ho13)); have HO160 := am (Kd.R_lower ho13 (below_size (bes HB.out))); replace BK157 := kb BK157 hb; replace HB := bsp HB hb; clear hb ho13; obtain ⟨Ao14, co14, eo14⟩ := Kd.R_slice HO160.out; subst eo14; have p161 : 0 ≤ ((ji7) : Int) := of_decide_eq_true (by assumption); have q161 : (ji7) < (y158.length : Int) := of_decide_eq_true (by assumption); obtain ⟨ad161, e161, hx161_0⟩ := Kd.at_string (Kd.R_reads' HO160.out).2.2 (ji7) p161 q161; cases e161; replace p161 := eq_true p161; replace q161 := eq_true q161) | ((with_reducible refine gate_callee (f := 59) rfl ?_); refine goesL_ (some 19) rfl rfl Tryd.func59 (by kernel_rfl) rfl #[.string (rdOf ByteArray.empty y158 (ji7)), .string (B_ #[32]), .string a2] rfl (by (try simp only [List.map_toArray, List.map_cons, List.map_nil]); first | done | (simp only [hji7]; rfl) | rfl | (simp only [List.length_drop, List.length_take]; rfl)) ?_; (refine (word_joined.calls (rdOf ByteArray.empty y158 (ji7)) (B_ #[32]) a2 t162 _ A10.out).mono ?_); rintro e w' ⟨rfl, ⟨nd, rfl⟩⟩; refine ⟨_, rfl, ?_⟩))
  go_ret
  exact ⟨by first | rfl | (simp [errW_none, errW_some] <;> rfl) | (simp only [← hji7]; first | rfl | (simp [errW_none, errW_some] <;> rfl)) | (simp [*, errW_none, errW_some] <;> rfl), by exact bes HB.out⟩
 rw [if_neg c9] at H
 exact absurd H (by simp)

/-! ### word_tongue_small: function 47 -/
def word_tongue_small.j0 : Nat → Int → ByteArray → List ByteArray → List ByteArray → List ByteArray → List ByteArray → Option Nat → Option Nat → Option Nat → Option (ByteArray)
 | 0, _, _, _, _, _, _, _, _, _ => none
 | k + 1, x1, x5, a, b, c, d, e, g, h => if x1 < 100 then (some x5) else (if g = some 58 then ((word_tongues_2.f a b c d e (some 58) h (wrap64 (Int.tdiv x1 100)) x5).bind fun t174 => (some t174)) else (if g = some 63 then ((word_tongues_5.f a b c d e (some 63) h (wrap64 (Int.tdiv x1 100)) x5).bind fun t175 => (some t175)) else (if g = some 66 then ((word_tongues_8.f a b c d e (some 66) h (wrap64 (Int.tdiv x1 100)) x5).bind fun t176 => (some t176)) else (none))))
def word_tongue_small.f (k : Nat) (l0_0 : List ByteArray) (l0_1 : List ByteArray) (l0_2 : List ByteArray) (l0_3 : List ByteArray) (a0_4 : Option Nat) (a0_5 : Option Nat) (a0_6 : Option Nat) (a1 : Int) : Option (ByteArray) := if (Int.tmod a1 100) = 0 then (word_tongue_small.j0 k a1 (B_ #[]) l0_0 l0_1 l0_2 l0_3 a0_4 a0_5 a0_6) else (if (Int.tmod a1 100) < 20 then (if 0 ≤ (Int.tmod a1 100) then (if (Int.tmod a1 100) < (l0_0.length : Int) then (word_tongue_small.j0 k a1 (rdOf ByteArray.empty l0_0 (Int.tmod a1 100)) l0_0 l0_1 l0_2 l0_3 a0_4 a0_5 a0_6) else (none)) else (none)) else (if (Int.tmod a1 10) = 0 then (if 0 ≤ (wrap64 ((wrap64 (Int.tdiv (Int.tmod a1 100) 10)) - 2)) then (if (wrap64 ((wrap64 (Int.tdiv (Int.tmod a1 100) 10)) - 2)) < (l0_1.length : Int) then (word_tongue_small.j0 k a1 (rdOf ByteArray.empty l0_1 (wrap64 ((wrap64 (Int.tdiv (Int.tmod a1 100) 10)) - 2))) l0_0 l0_1 l0_2 l0_3 a0_4 a0_5 a0_6) else (none)) else (none)) else (if a0_4 = some 57 then ((word_tongues_1.f l0_0 l0_1 l0_2 l0_3 (some 57) a0_5 a0_6 (wrap64 ((wrap64 (Int.tdiv (Int.tmod a1 100) 10)) - 2)) (Int.tmod a1 10)).bind fun t171 => (word_tongue_small.j0 k a1 t171 l0_0 l0_1 l0_2 l0_3 (some 57) a0_5 a0_6)) else (if a0_4 = some 61 then ((word_tongues_4.f l0_0 l0_1 l0_2 l0_3 (some 61) a0_5 a0_6 (wrap64 ((wrap64 (Int.tdiv (Int.tmod a1 100) 10)) - 2)) (Int.tmod a1 10)).bind fun t172 => (word_tongue_small.j0 k a1 t172 l0_0 l0_1 l0_2 l0_3 (some 61) a0_5 a0_6)) else (if a0_4 = some 65 then ((word_tongues_7.f l0_0 l0_1 l0_2 l0_3 (some 65) a0_5 a0_6 (wrap64 ((wrap64 (Int.tdiv (Int.tmod a1 100) 10)) - 2)) (Int.tmod a1 10)).bind fun t173 => (word_tongue_small.j0 k a1 t173 l0_0 l0_1 l0_2 l0_3 (some 65) a0_5 a0_6)) else (none))))))
theorem word_tongue_small.mono_l : ∀ k, (∀ y0 y1 y2 y3 y4 y5 y6 y7 y8, LeO (word_tongue_small.j0 k y0 y1 y2 y3 y4 y5 y6 y7 y8) (word_tongue_small.j0 (k + 1) y0 y1 y2 y3 y4 y5 y6 y7 y8))
 | 0 => fun _ _ _ _ _ _ _ _ _ r h => by simp [word_tongue_small.j0] at h
 | k + 1 => by
  have ih0 := word_tongue_small.mono_l k
  intro y0 y1 y2 y3 y4 y5 y6 y7 y8
  unfold word_tongue_small.j0
  repeat' first
  | (with_reducible exact ih0 _ _ _ _ _ _ _ _ _)
  | (with_reducible exact LeO.refl _)
  | (with_reducible exact LeO.none _)
  | (with_reducible refine LeO.ite ?_ ?_)
  | (with_reducible refine LeO.bind ?_ (fun _ => ?_))
theorem word_tongue_small.mono : ∀ a0 a1 a2 a3 a4 a5 a6 a7 k, LeO (word_tongue_small.f k a0 a1 a2 a3 a4 a5 a6 a7) (word_tongue_small.f (k + 1) a0 a1 a2 a3 a4 a5 a6 a7) := by
 intro a0 a1 a2 a3 a4 a5 a6 a7 k; have ih0 := word_tongue_small.mono_l k
 unfold word_tongue_small.f
 repeat' first
   | (with_reducible exact ih0 _ _ _ _ _ _ _ _ _)
   | (with_reducible exact LeO.refl _)
   | (with_reducible exact LeO.none _)
   | (with_reducible refine LeO.ite ?_ ?_)
   | (with_reducible refine LeO.bind ?_ (fun _ => ?_))
theorem word_tongue_small.calls (k : Nat) (A0_0 : Option Addr) (c0_0 : Nat) (l0_0 : List ByteArray) (A0_1 : Option Addr) (c0_1 : Nat) (l0_1 : List ByteArray) (A0_2 : Option Addr) (c0_2 : Nat) (l0_2 : List ByteArray) (A0_3 : Option Addr) (c0_3 : Nat) (l0_3 : List ByteArray) (a0_4 : Option Nat) (a0_5 : Option Nat) (a0_6 : Option Nat) (a1 : Int) (r : ByteArray) (w : World) (hr0_0 : Kd.C Kd.string w A0_0 l0_0.length l0_0) (hc0_0 : l0_0.length ≤ c0_0) (hr0_1 : Kd.C Kd.string w A0_1 l0_1.length l0_1) (hc0_1 : l0_1.length ≤ c0_1) (hr0_2 : Kd.C Kd.string w A0_2 l0_2.length l0_2) (hc0_2 : l0_2.length ≤ c0_2) (hr0_3 : Kd.C Kd.string w A0_3 l0_3.length l0_3) (hc0_3 : l0_3.length ≤ c0_3) (h : word_tongue_small.f k l0_0 l0_1 l0_2 l0_3 a0_4 a0_5 a0_6 a1 = some r) :
  Calls Tryd.prog 47 #[.agg #[.slice A0_0 l0_0.length c0_0, .slice A0_1 l0_1.length c0_1, .slice A0_2 l0_2.length c0_2, .slice A0_3 l0_3.length c0_3, fnv a0_4, fnv a0_5, fnv a0_6], .int .i64 a1] w fun e w' => e = .returned (.string r) ∧ Below w.heap.size w w' := by
 have hu59 := Tryd.underlying59; have HR0_0 := am hr0_0; have HC0_0 := am hc0_0; clear hr0_0 hc0_0; have HR0_1 := am hr0_1; have HC0_1 := am hc0_1; clear hr0_1 hc0_1; have HR0_2 := am hr0_2; have HC0_2 := am hc0_2; clear hr0_2 hc0_2; have HR0_3 := am hr0_3; have HC0_3 := am hc0_3; clear hr0_3 hc0_3; have HB := am (Below.refl w.heap.size w)
 have H := h; clear h; unfold word_tongue_small.f at H; have HC3 := am H; clear H
 go_enter Tryd.func47, Tryd.ntmps47
 go_upto_block 0 with (first | ((with_reducible refine gate_dst (N := 2) rfl ?_); refine bx 2 #[.slice A0_0 l0_0.length c0_0, .slice A0_1 l0_1.length c0_1, .slice A0_2 l0_2.length c0_2, .slice A0_3 l0_3.length c0_3, fnv a0_4, fnv a0_5, fnv a0_6] 59 ?_; intro gb168 hg w4 hbox hb; have BK168 := am hbox; have GE168 := gem hg HB; replace HB := bsp HB hb; clear hb hbox hg))
 (try simp only [Act.put, sa_, s0_, s1_])
 go_cut [5] (fun v5 wc => ∃ (kq : Nat) (x5_2 : ByteArray), v5 = .string x5_2 ∧ Aside0 (word_tongue_small.j0 kq a1 x5_2 l0_0 l0_1 l0_2 l0_3 a0_4 a0_5 a0_6 = some r) ∧ Aside0 (kq ≤ k) ∧ Aside0 (wc.heap[gb168]? = some (.cells #[(.slice A0_0 l0_0.length c0_0), (.slice A0_1 l0_1.length c0_1), (.slice A0_2 l0_2.length c0_2), (.slice A0_3 l0_3.length c0_3), fnv a0_4, fnv a0_5, fnv a0_6] 59 (0, 0))) ∧ Aside0 (Below w.heap.size w wc))
 case first =>
  have H := HC3.out; clear HC3
  by_cases c5 : (Int.tmod a1 100) = 0
  ·rw [if_pos c5] at H
   have c5b0 := bT c5
   have c5b1 := nF c5; clear c5
   (first | rw [c5b0] | (simp only [i64_w, i32_w]; rw [c5b0]) | skip)
   have H' := am H; clear H
   go_wp2
   go_meet
   case rel => exact ⟨_, ((B_ #[])), cd, H', ⟨om⟩, ⟨by exact blk_st BK168.out⟩, ⟨by exact bes HB.out⟩⟩
  rw [if_neg c5] at H
  have c5b0 := bF c5
  have c5b1 := nT c5
  (first | rw [c5b0] | (simp only [i64_w, i32_w]; rw [c5b0]) | skip)
  by_cases c6 : (Int.tmod a1 100) < 20
  ·rw [if_pos c6] at H
   have c6b0 := dT c6; clear c6; obtain ⟨ji7, hji7⟩ : ∃ j_ : Int, (Int.tmod a1 100) = j_ := ⟨_, rfl⟩; replace H : (if 0 ≤ (ji7) then (if (ji7) < (l0_0.length : Int) then (word_tongue_small.j0 k a1 (rdOf ByteArray.empty l0_0 (ji7)) l0_0 l0_1 l0_2 l0_3 a0_4 a0_5 a0_6) else (none)) else (none)) = some r := by first | (rw [hji7] at H; exact H) | (simp only [hji7] at H ⊢; exact H)
   (try rw [hji7] at c5b0)
   (try rw [hji7] at c5b1)
   (try rw [hji7] at c6b0)
   by_cases c8 : 0 ≤ (ji7); rotate_left
   ·rw [if_neg c8] at H
    exact absurd H (by simp)
   rw [if_pos c8] at H
   have c8b0 := dT c8; clear c8
   by_cases c9 : (ji7) < (l0_0.length : Int); rotate_left
   ·rw [if_neg c9] at H
    exact absurd H (by simp)
   rw [if_pos c9] at H
   have c9b0 := dT c9; clear c9
   have H' := am H; clear H
   have Z10_0 := z0 BK168.out
   have Z10_1 := z1 BK168.out
   have Z10_2 := z2 BK168.out
   have Z10_3 := z3 BK168.out
   have Z10_4 := z4 BK168.out
   have Z10_5 := z5 BK168.out
   have Z10_6 := z6 BK168.out; have F10_0 := fz BK168.out 0; have F10_1 := fz BK168.out 1; have F10_2 := fz BK168.out 2; have F10_3 := fz BK168.out 3; have F10_4 := fz BK168.out 4; have F10_5 := fz BK168.out 5; have F10_6 := fz BK168.out 6
   have p169 : 0 ≤ ((ji7) : Int) := of_decide_eq_true (by assumption)
   have q169 : (ji7) < (l0_0.length : Int) := of_decide_eq_true (by assumption); obtain ⟨ad169, e169, hx169_0⟩ := Kd.at_string HR0_0.out (ji7) p169 q169
   cases e169
   replace hx169_0 := (HB.out.cell (World.block_lt_of_cell? w _ hx169_0)).trans hx169_0; replace p169 := eq_true p169; replace q169 := eq_true q169
   go_wp2
   go_meet
   case rel => exact ⟨_, (rdOf ByteArray.empty l0_0 (ji7)), (by first | rfl | (simp; done) | (simp only [← hji7] <;> (first | rfl | simp)) | (simp [*]; done)), H', ⟨om⟩, ⟨by exact blk_st BK168.out⟩, ⟨by exact bes HB.out⟩⟩
  rw [if_neg c6] at H
  have c6b0 := dF c6; clear c6
  by_cases c11 : (Int.tmod a1 10) = 0
  ·rw [if_pos c11] at H
   have c11b0 := bT c11
   have c11b1 := nF c11; clear c11; obtain ⟨ji12, hji12⟩ : ∃ j_ : Int, (wrap64 ((wrap64 (Int.tdiv (Int.tmod a1 100) 10)) - 2)) = j_ := ⟨_, rfl⟩; replace H : (if 0 ≤ (ji12) then (if (ji12) < (l0_1.length : Int) then (word_tongue_small.j0 k a1 (rdOf ByteArray.empty l0_1 (ji12)) l0_0 l0_1 l0_2 l0_3 a0_4 a0_5 a0_6) else (none)) else (none)) = some r := by first | (rw [hji12] at H; exact H) | (simp only [hji12] at H ⊢; exact H)
   have hji12w : (IntKind.i64.wrap ((wrap64 (Int.tdiv (Int.tmod a1 100) 10)) - 2)) = ji12 := (i64_w _).trans hji12
   by_cases c13 : 0 ≤ (ji12); rotate_left
   ·rw [if_neg c13] at H
    exact absurd H (by simp)
   rw [if_pos c13] at H
   have c13b0 := dT c13; clear c13
   by_cases c14 : (ji12) < (l0_1.length : Int); rotate_left
   ·rw [if_neg c14] at H
    exact absurd H (by simp)
   rw [if_pos c14] at H
   have c14b0 := dT c14; clear c14
   have H' := am H; clear H
   have Z15_0 := z0 BK168.out
   have Z15_1 := z1 BK168.out
   have Z15_2 := z2 BK168.out
   have Z15_3 := z3 BK168.out
   have Z15_4 := z4 BK168.out
   have Z15_5 := z5 BK168.out
   have Z15_6 := z6 BK168.out; have F15_0 := fz BK168.out 0; have F15_1 := fz BK168.out 1; have F15_2 := fz BK168.out 2; have F15_3 := fz BK168.out 3; have F15_4 := fz BK168.out 4; have F15_5 := fz BK168.out 5; have F15_6 := fz BK168.out 6
   have p170 : 0 ≤ ((ji12) : Int) := of_decide_eq_true (by assumption)
   have q170 : (ji12) < (l0_1.length : Int) := of_decide_eq_true (by assumption); obtain ⟨ad170, e170, hx170_0⟩ := Kd.at_string HR0_1.out (ji12) p170 q170
   cases e170
   replace hx170_0 := (HB.out.cell (World.block_lt_of_cell? w _ hx170_0)).trans hx170_0; replace p170 := eq_true p170; replace q170 := eq_true q170
   go_wp2
   go_meet
   case rel => exact ⟨_, (rdOf ByteArray.empty l0_1 (ji12)), (by first | rfl | (simp; done) | (simp only [← hji12] <;> (first | rfl | simp)) | (simp [*]; done)), H', ⟨om⟩, ⟨by exact blk_st BK168.out⟩, ⟨by exact bes HB.out⟩⟩
  rw [if_neg c11] at H
  have c11b0 := bF c11
  have c11b1 := nT c11
  by_cases c16 : a0_4 = some 57
  ·subst c16
   replace H := ip H
   (try simp only [fnv_some]); replace H := bm H; obtain ⟨t171, A17, H⟩ := H; replace A17 := am A17
   have H' := am H; clear H
   have Z18_0 := z0 BK168.out
   have Z18_1 := z1 BK168.out
   have Z18_2 := z2 BK168.out
   have Z18_3 := z3 BK168.out
   have Z18_4 := z4 BK168.out
   have Z18_5 := z5 BK168.out
   have Z18_6 := z6 BK168.out; have F18_0 := fz BK168.out 0; have F18_1 := fz BK168.out 1; have F18_2 := fz BK168.out 2; have F18_3 := fz BK168.out 3; have F18_4 := fz BK168.out 4; have F18_5 := fz BK168.out 5; have F18_6 := fz BK168.out 6
   go_wp2_with (first | (go_at_call 57; (refine (word_tongues_1.calls _ _ l0_0 _ _ l0_1 _ _ l0_2 _ _ l0_3 (some 57) a0_5 a0_6 (wrap64 ((wrap64 (Int.tdiv (Int.tmod a1 100) 10)) - 2)) (Int.tmod a1 10) t171 _ ?_ ?_ ?_ ?_ ?_ ?_ ?_ ?_ A17.out).mono ?_); exact C_st (Kd.C_below HR0_0.out HB.out); exact HC0_0.out; exact C_st (Kd.C_below HR0_1.out HB.out); exact HC0_1.out; exact C_st (Kd.C_below HR0_2.out HB.out); exact HC0_2.out; exact C_st (Kd.C_below HR0_3.out HB.out); exact HC0_3.out; rintro e w19 ⟨rfl, hb⟩; replace BK168 := kb BK168 hb; replace HB := bsp HB hb; (try clear hb)))
   go_meet
   case rel => exact ⟨_, (t171), cd, H', ⟨om⟩, ⟨by exact blk_st BK168.out⟩, ⟨by exact bes HB.out⟩⟩
  rw [if_neg c16] at H
  by_cases c20 : a0_4 = some 61
  ·subst c20
   replace H := ip H
   (try simp only [fnv_some]); replace H := bm H; obtain ⟨t172, A21, H⟩ := H; replace A21 := am A21
   have H' := am H; clear H
   have Z22_0 := z0 BK168.out
   have Z22_1 := z1 BK168.out
   have Z22_2 := z2 BK168.out
   have Z22_3 := z3 BK168.out
   have Z22_4 := z4 BK168.out
   have Z22_5 := z5 BK168.out
   have Z22_6 := z6 BK168.out; have F22_0 := fz BK168.out 0; have F22_1 := fz BK168.out 1; have F22_2 := fz BK168.out 2; have F22_3 := fz BK168.out 3; have F22_4 := fz BK168.out 4; have F22_5 := fz BK168.out 5; have F22_6 := fz BK168.out 6
   go_wp2_with (first | (go_at_call 61; (refine (word_tongues_4.calls _ _ l0_0 _ _ l0_1 _ _ l0_2 _ _ l0_3 (some 61) a0_5 a0_6 (wrap64 ((wrap64 (Int.tdiv (Int.tmod a1 100) 10)) - 2)) (Int.tmod a1 10) t172 _ ?_ ?_ ?_ ?_ ?_ ?_ ?_ ?_ A21.out).mono ?_); exact C_st (Kd.C_below HR0_0.out HB.out); exact HC0_0.out; exact C_st (Kd.C_below HR0_1.out HB.out); exact HC0_1.out; exact C_st (Kd.C_below HR0_2.out HB.out); exact HC0_2.out; exact C_st (Kd.C_below HR0_3.out HB.out); exact HC0_3.out; rintro e w23 ⟨rfl, hb⟩; replace BK168 := kb BK168 hb; replace HB := bsp HB hb; (try clear hb)))
   go_meet
   case rel => exact ⟨_, (t172), cd, H', ⟨om⟩, ⟨by exact blk_st BK168.out⟩, ⟨by exact bes HB.out⟩⟩
  rw [if_neg c20] at H
  by_cases c24 : a0_4 = some 65; rotate_left
  ·rw [if_neg c24] at H
   exact absurd H (by simp)
  subst c24; replace H := ip H
  (try simp only [fnv_some]); replace H := bm H; obtain ⟨t173, A25, H⟩ := H; replace A25 := am A25
  have H' := am H; clear H
  have Z26_0 := z0 BK168.out
  have Z26_1 := z1 BK168.out
  have Z26_2 := z2 BK168.out
  have Z26_3 := z3 BK168.out
  have Z26_4 := z4 BK168.out
  have Z26_5 := z5 BK168.out
  have Z26_6 := z6 BK168.out; have F26_0 := fz BK168.out 0; have F26_1 := fz BK168.out 1; have F26_2 := fz BK168.out 2; have F26_3 := fz BK168.out 3; have F26_4 := fz BK168.out 4; have F26_5 := fz BK168.out 5; have F26_6 := fz BK168.out 6
  go_wp2_with (first | (go_at_call 65; (refine (word_tongues_7.calls _ _ l0_0 _ _ l0_1 _ _ l0_2 _ _ l0_3 (some 65) a0_5 a0_6 (wrap64 ((wrap64 (Int.tdiv (Int.tmod a1 100) 10)) - 2)) (Int.tmod a1 10) t173 _ ?_ ?_ ?_ ?_ ?_ ?_ ?_ ?_ A25.out).mono ?_); exact C_st (Kd.C_below HR0_0.out HB.out); exact HC0_0.out; exact C_st (Kd.C_below HR0_1.out HB.out); exact HC0_1.out; exact C_st (Kd.C_below HR0_2.out HB.out); exact HC0_2.out; exact C_st (Kd.C_below HR0_3.out HB.out); exact HC0_3.out; rintro e w27 ⟨rfl, hb⟩; replace BK168 := kb BK168 hb; replace HB := bsp HB hb; (try clear hb)))
  go_meet
  case rel => exact ⟨_, (t173), cd, H', ⟨om⟩, ⟨by exact blk_st BK168.out⟩, ⟨by exact bes HB.out⟩⟩
 clear HC3
 try clear c1
 try clear p1
 try clear q1
 try clear hx1
 try clear c2
 try clear p2
 try clear c4
 try clear c5
 try clear c5b0
 try clear c5b1
 try clear c6
 try clear c6b0
 try clear p6
 try clear c8
 try clear c8b0
 try clear c9
 try clear c9b0
 try clear c11
 try clear c11b0
 try clear c11b1
 try clear c13
 try clear c13b0
 try clear c14
 try clear c14b0
 try clear c16
 try clear p16
 try clear q16
 try clear hx16
 try clear p17
 try clear q17
 try clear hx17
 try clear c20
 try clear c24
 try clear Z10_0 Z10_1 Z10_2 Z10_3 Z10_4 Z10_5 Z10_6
 try clear Z15_0 Z15_1 Z15_2 Z15_3 Z15_4 Z15_5 Z15_6
 try clear Z18_0 Z18_1 Z18_2 Z18_3 Z18_4 Z18_5 Z18_6
 try clear Z22_0 Z22_1 Z22_2 Z22_3 Z22_4 Z22_5 Z22_6
 try clear Z26_0 Z26_1 Z26_2 Z26_3 Z26_4 Z26_5 Z26_6
 try clear F10_0 F10_1 F10_2 F10_3 F10_4 F10_5 F10_6
 try clear F15_0 F15_1 F15_2 F15_3 F15_4 F15_5 F15_6
 try clear F18_0 F18_1 F18_2 F18_3 F18_4 F18_5 F18_6
 try clear F22_0 F22_1 F22_2 F22_3 F22_4 F22_5 F22_6
 try clear F26_0 F26_1 F26_2 F26_3 F26_4 F26_5 F26_6
 try clear hx169_0
 try clear hx170_0
 try clear p169
 try clear p170
 try clear q169
 try clear q170
 obtain ⟨kq, x5_2, rfl, HA, HJ2, BK168, HB⟩ := hcut
 cases kq with
 | zero => exact absurd HA.out (by simp [word_tongue_small.j0])
 | succ kj2 =>
  have H := HA.out; clear HA; simp only [word_tongue_small.j0] at H
  by_cases c28 : a1 < 100
  ·rw [if_pos c28] at H
   have c28b0 := dT c28; clear c28; obtain rfl := Option.some.inj H
   go_wp2
   go_ret
   exact ⟨er, by exact bes HB.out⟩
  rw [if_neg c28] at H
  have c28b0 := dF c28; clear c28
  by_cases c29 : a0_5 = some 58
  ·subst c29
   replace H := ip H
   (try simp only [fnv_some]); replace H := bm H; obtain ⟨t174, A30, H⟩ := H; replace H : (some t174) = some r := H; replace A30 := am A30; obtain rfl := Option.some.inj H
   have Z31_0 := z0 BK168.out
   have Z31_1 := z1 BK168.out
   have Z31_2 := z2 BK168.out
   have Z31_3 := z3 BK168.out
   have Z31_4 := z4 BK168.out
   have Z31_5 := z5 BK168.out
   have Z31_6 := z6 BK168.out; have F31_0 := fz BK168.out 0; have F31_1 := fz BK168.out 1; have F31_2 := fz BK168.out 2; have F31_3 := fz BK168.out 3; have F31_4 := fz BK168.out 4; have F31_5 := fz BK168.out 5; have F31_6 := fz BK168.out 6
   go_wp2_with (first | (go_at_call 58; (refine (word_tongues_2.calls _ _ l0_0 _ _ l0_1 _ _ l0_2 _ _ l0_3 a0_4 (some 58) a0_6 (wrap64 (Int.tdiv a1 100)) x5_2 t174 _ ?_ ?_ ?_ ?_ ?_ ?_ ?_ ?_ A30.out).mono ?_); exact C_st (Kd.C_below HR0_0.out HB.out); exact HC0_0.out; exact C_st (Kd.C_below HR0_1.out HB.out); exact HC0_1.out; exact C_st (Kd.C_below HR0_2.out HB.out); exact HC0_2.out; exact C_st (Kd.C_below HR0_3.out HB.out); exact HC0_3.out; rintro e w32 ⟨rfl, hb⟩; replace BK168 := kb BK168 hb; replace HB := bsp HB hb; (try clear hb)))
   go_ret
   exact ⟨er, by exact bes HB.out⟩
  rw [if_neg c29] at H
  by_cases c33 : a0_5 = some 63
  ·subst c33
   replace H := ip H
   (try simp only [fnv_some]); replace H := bm H; obtain ⟨t175, A34, H⟩ := H; replace H : (some t175) = some r := H; replace A34 := am A34; obtain rfl := Option.some.inj H
   have Z35_0 := z0 BK168.out
   have Z35_1 := z1 BK168.out
   have Z35_2 := z2 BK168.out
   have Z35_3 := z3 BK168.out
   have Z35_4 := z4 BK168.out
   have Z35_5 := z5 BK168.out
   have Z35_6 := z6 BK168.out; have F35_0 := fz BK168.out 0; have F35_1 := fz BK168.out 1; have F35_2 := fz BK168.out 2; have F35_3 := fz BK168.out 3; have F35_4 := fz BK168.out 4; have F35_5 := fz BK168.out 5; have F35_6 := fz BK168.out 6
   go_wp2_with (first | (go_at_call 63; (refine (word_tongues_5.calls _ _ l0_0 _ _ l0_1 _ _ l0_2 _ _ l0_3 a0_4 (some 63) a0_6 (wrap64 (Int.tdiv a1 100)) x5_2 t175 _ ?_ ?_ ?_ ?_ ?_ ?_ ?_ ?_ A34.out).mono ?_); exact C_st (Kd.C_below HR0_0.out HB.out); exact HC0_0.out; exact C_st (Kd.C_below HR0_1.out HB.out); exact HC0_1.out; exact C_st (Kd.C_below HR0_2.out HB.out); exact HC0_2.out; exact C_st (Kd.C_below HR0_3.out HB.out); exact HC0_3.out; rintro e w36 ⟨rfl, hb⟩; replace BK168 := kb BK168 hb; replace HB := bsp HB hb; (try clear hb)))
   go_ret
   exact ⟨er, by exact bes HB.out⟩
  rw [if_neg c33] at H
  by_cases c37 : a0_5 = some 66; rotate_left
  ·rw [if_neg c37] at H
   exact absurd H (by simp)
  subst c37; replace H := ip H
  (try simp only [fnv_some]); replace H := bm H; obtain ⟨t176, A38, H⟩ := H; replace H : (some t176) = some r := H; replace A38 := am A38; obtain rfl := Option.some.inj H
  have Z39_0 := z0 BK168.out
  have Z39_1 := z1 BK168.out
  have Z39_2 := z2 BK168.out
  have Z39_3 := z3 BK168.out
  have Z39_4 := z4 BK168.out
  have Z39_5 := z5 BK168.out
  have Z39_6 := z6 BK168.out; have F39_0 := fz BK168.out 0; have F39_1 := fz BK168.out 1; have F39_2 := fz BK168.out 2; have F39_3 := fz BK168.out 3; have F39_4 := fz BK168.out 4; have F39_5 := fz BK168.out 5; have F39_6 := fz BK168.out 6
  go_wp2_with (first | (go_at_call 66; (refine (word_tongues_8.calls _ _ l0_0 _ _ l0_1 _ _ l0_2 _ _ l0_3 a0_4 (some 66) a0_6 (wrap64 (Int.tdiv a1 100)) x5_2 t176 _ ?_ ?_ ?_ ?_ ?_ ?_ ?_ ?_ A38.out).mono ?_); exact C_st (Kd.C_below HR0_0.out HB.out); exact HC0_0.out; exact C_st (Kd.C_below HR0_1.out HB.out); exact HC0_1.out; exact C_st (Kd.C_below HR0_2.out HB.out); exact HC0_2.out; exact C_st (Kd.C_below HR0_3.out HB.out); exact HC0_3.out; rintro e w40 ⟨rfl, hb⟩; replace BK168 := kb BK168 hb; replace HB := bsp HB hb; (try clear hb)))
  go_ret
  exact ⟨er, by exact bes HB.out⟩

/-! ### word_tongues_3: function 60 -/
def word_tongues_3.f (a0 : ByteArray) (a1 : Int) : Option (ByteArray) := if a0.size + 9 ≤ 9223372036854775807 then (some (a0 ++ (B_ #[32,116,104,111,117,115,97,110,100]))) else (none)
theorem word_tongues_3.calls (a0 : ByteArray) (a1 : Int) (r : ByteArray) (w : World) (h : word_tongues_3.f a0 a1 = some r) :
  Calls Tryd.prog 60 #[.string a0, .int .i64 a1] w fun e w' => e = .returned (.string r) ∧ Drawn0 w w' := by
 have H := h; clear h; unfold word_tongues_3.f at H
 by_cases c3 : a0.size + 9 ≤ 9223372036854775807
 ·rw [if_pos c3] at H
  have c3b0 := eq_true c3
  have c3b1 := dT c3
  try have c3b2 := eF c3
  obtain rfl := Option.some.inj H
  go_enter Tryd.func60, Tryd.ntmps60
  go_wp2
  go_ret
  exact ⟨by first | rfl | (simp; done) | (simp [*]; done), by repeat (first | exact Drawn0.refl _ | apply Drawn0.step)⟩
 rw [if_neg c3] at H
 exact absurd H (by simp)

/-! ### word_tongues_6: function 64 -/
def word_tongues_6.f (a0 : ByteArray) (a1 : Int) : Option (ByteArray) := (word_shorter.f a0 (B_ #[101,105,110,115])).bind fun t177 => (if t177.size + 7 ≤ 9223372036854775807 then (some (t177 ++ (B_ #[116,97,117,115,101,110,100]))) else (none))
theorem word_tongues_6.calls (a0 : ByteArray) (a1 : Int) (r : ByteArray) (w : World) (h : word_tongues_6.f a0 a1 = some r) :
  Calls Tryd.prog 64 #[.string a0, .int .i64 a1] w fun e w' => e = .returned (.string r) ∧ Drawn0 w w' := by
 have H := h; clear h; unfold word_tongues_6.f at H; replace H := bm H; obtain ⟨t177, A3, H⟩ := H; replace A3 := am A3
 by_cases c4 : t177.size + 7 ≤ 9223372036854775807
 ·rw [if_pos c4] at H
  have c4b0 := eq_true c4
  have c4b1 := dT c4
  try have c4b2 := eF c4
  obtain rfl := Option.some.inj H
  go_enter Tryd.func64, Tryd.ntmps64
  go_wp2_with (first | ((with_reducible refine gate_callee (f := 62) rfl ?_); refine gL (some 6) rfl rfl Tryd.func62 #[.string a0, .string (B_ #[101,105,110,115])] ?_; (refine (word_shorter.calls a0 (B_ #[101,105,110,115]) t177 _ A3.out).mono ?_); rintro e w' ⟨rfl, ⟨nd, rfl⟩⟩; refine ⟨_, rfl, ?_⟩))
  go_ret
  exact ⟨by first | rfl | (simp; done) | (simp [*]; done), by repeat (first | exact Drawn0.refl _ | apply Drawn0.step)⟩
 rw [if_neg c4] at H
 exact absurd H (by simp)

/-! ### word_tongues_9: function 67 -/
def word_tongues_9.f (a0 : ByteArray) (a1 : Int) : Option (ByteArray) := if a1 = 1 then (some (B_ #[109,105,108])) else ((word_shorter.f a0 (B_ #[117,110,111])).bind fun t178 => (if t178.size + 4 ≤ 9223372036854775807 then (some (t178 ++ (B_ #[32,109,105,108]))) else (none)))
theorem word_tongues_9.calls (a0 : ByteArray) (a1 : Int) (r : ByteArray) (w : World) (h : word_tongues_9.f a0 a1 = some r) :
  Calls Tryd.prog 67 #[.string a0, .int .i64 a1] w fun e w' => e = .returned (.string r) ∧ Drawn0 w w' := by
 have H := h; clear h; unfold word_tongues_9.f at H
 by_cases c3 : a1 = 1
 ·rw [if_pos c3] at H
  have c3b0 := bT c3
  have c3b1 := nF c3; clear c3; obtain rfl := Option.some.inj H
  go_enter Tryd.func67, Tryd.ntmps67
  go_wp2
  go_ret
  exact ⟨by first | rfl | (simp; done) | (simp [*]; done), by repeat (first | exact Drawn0.refl _ | apply Drawn0.step)⟩
 rw [if_neg c3] at H
 have c3b0 := bF c3
 have c3b1 := nT c3; replace H := bm H; obtain ⟨t178, A4, H⟩ := H; replace A4 := am A4
 by_cases c5 : t178.size + 4 ≤ 9223372036854775807
 ·rw [if_pos c5] at H
  have c5b0 := eq_true c5
  have c5b1 := dT c5
  try have c5b2 := eF c5
  obtain rfl := Option.some.inj H
  go_enter Tryd.func67, Tryd.ntmps67
  go_wp2_with (first | ((with_reducible refine gate_callee (f := 62) rfl ?_); refine gL (some 8) rfl rfl Tryd.func62 #[.string a0, .string (B_ #[117,110,111])] ?_; (refine (word_shorter.calls a0 (B_ #[117,110,111]) t178 _ A4.out).mono ?_); rintro e w' ⟨rfl, ⟨nd, rfl⟩⟩; refine ⟨_, rfl, ?_⟩))
  go_ret
  exact ⟨by first | rfl | (simp; done) | (simp [*]; done), by repeat (first | exact Drawn0.refl _ | apply Drawn0.step)⟩
 rw [if_neg c5] at H
 exact absurd H (by simp)

end Go.Proofs.YtjgobfbjmlacjaaDoor.XA
