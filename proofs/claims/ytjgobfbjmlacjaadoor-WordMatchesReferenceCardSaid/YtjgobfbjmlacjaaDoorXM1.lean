-- Written by wip/xprint.py (a driver of mine over the kit's printer) for this claim.
import Derived.Test.YtjgobfbjmlacjaaDoorXM0
namespace Go.Proofs.YtjgobfbjmlacjaaDoor.XM
open Go.RowKit Go.Proofs.YtjgobfbjmlacjaaDoorW.PrintWords Go.Proofs.YtjgobfbjmlacjaaDoorW.PrintLast Go.Proofs.YtjgobfbjmlacjaaDoorW.PrintMore
open Bool renaming true → tt, false → ff
open _root_.ByteArray renaming mk → B_
attribute [local go_sem] max2_int min2_int max_two min_two max_three min_three max_four min_four   -- for this text's walks alone
set_option maxHeartbeats 8000000
set_option maxRecDepth 100000
set_option linter.unusedVariables false
set_option linter.unusedSimpArgs false

/-! ### newswireref11_units: function 32 -/
def newswireref11_units.f (a0 : Int) : Option (List ByteArray) := if a0 = 2 then (some (([(B_ #[110,117,108,108]), (B_ #[101,105,110,115]), (B_ #[122,119,101,105]), (B_ #[100,114,101,105]), (B_ #[118,105,101,114]), (B_ #[102,117,101,110,102]), (B_ #[115,101,99,104,115]), (B_ #[115,105,101,98,101,110]), (B_ #[97,99,104,116]), (B_ #[110,101,117,110]), (B_ #[122,101,104,110]), (B_ #[101,108,102]), (B_ #[122,119,111,101,108,102]), (B_ #[100,114,101,105,122,101,104,110]), (B_ #[118,105,101,114,122,101,104,110]), (B_ #[102,117,101,110,102,122,101,104,110]), (B_ #[115,101,99,104,122,101,104,110]), (B_ #[115,105,101,98,122,101,104,110]), (B_ #[97,99,104,116,122,101,104,110]), (B_ #[110,101,117,110,122,101,104,110])] : List ByteArray))) else (if a0 = 3 then (some (([(B_ #[99,101,114,111]), (B_ #[117,110,111]), (B_ #[100,111,115]), (B_ #[116,114,101,115]), (B_ #[99,117,97,116,114,111]), (B_ #[99,105,110,99,111]), (B_ #[115,101,105,115]), (B_ #[115,105,101,116,101]), (B_ #[111,99,104,111]), (B_ #[110,117,101,118,101]), (B_ #[100,105,101,122]), (B_ #[111,110,99,101]), (B_ #[100,111,99,101]), (B_ #[116,114,101,99,101]), (B_ #[99,97,116,111,114,99,101]), (B_ #[113,117,105,110,99,101]), (B_ #[100,105,101,99,105,115,101,105,115]), (B_ #[100,105,101,99,105,115,105,101,116,101]), (B_ #[100,105,101,99,105,111,99,104,111]), (B_ #[100,105,101,99,105,110,117,101,118,101])] : List ByteArray))) else (some (([(B_ #[122,101,114,111]), (B_ #[111,110,101]), (B_ #[116,119,111]), (B_ #[116,104,114,101,101]), (B_ #[102,111,117,114]), (B_ #[102,105,118,101]), (B_ #[115,105,120]), (B_ #[115,101,118,101,110]), (B_ #[101,105,103,104,116]), (B_ #[110,105,110,101]), (B_ #[116,101,110]), (B_ #[101,108,101,118,101,110]), (B_ #[116,119,101,108,118,101]), (B_ #[116,104,105,114,116,101,101,110]), (B_ #[102,111,117,114,116,101,101,110]), (B_ #[102,105,102,116,101,101,110]), (B_ #[115,105,120,116,101,101,110]), (B_ #[115,101,118,101,110,116,101,101,110]), (B_ #[101,105,103,104,116,101,101,110]), (B_ #[110,105,110,101,116,101,101,110])] : List ByteArray))))
theorem newswireref11_units.calls (a0 : Int) (r : List ByteArray) (w : World) (h : newswireref11_units.f a0 = some r) :
  Calls Tryd.prog 32 #[.int .i64 a0] w fun e w' => ∃ v0_ : Value, e = .returned (v0_) ∧ Kd.R Kd.string 9 w' w.heap.size (fun _ => True) v0_ r ∧ Below w.heap.size w w' := by
 have HB := am (Below.refl w.heap.size w)
 have H := h; clear h; unfold newswireref11_units.f at H
 by_cases c2 : a0 = 2
 ·rw [if_pos c2] at H
  have c2b0 := bT c2
  have c2b1 := nF c2; clear c2; obtain ⟨y101, hy101⟩ : ∃ y_ : List ByteArray, y_ = (([(B_ #[110,117,108,108]), (B_ #[101,105,110,115]), (B_ #[122,119,101,105]), (B_ #[100,114,101,105]), (B_ #[118,105,101,114]), (B_ #[102,117,101,110,102]), (B_ #[115,101,99,104,115]), (B_ #[115,105,101,98,101,110]), (B_ #[97,99,104,116]), (B_ #[110,101,117,110]), (B_ #[122,101,104,110]), (B_ #[101,108,102]), (B_ #[122,119,111,101,108,102]), (B_ #[100,114,101,105,122,101,104,110]), (B_ #[118,105,101,114,122,101,104,110]), (B_ #[102,117,101,110,102,122,101,104,110]), (B_ #[115,101,99,104,122,101,104,110]), (B_ #[115,105,101,98,122,101,104,110]), (B_ #[97,99,104,116,122,101,104,110]), (B_ #[110,101,117,110,122,101,104,110])] : List ByteArray)) := ⟨_, rfl⟩; replace H : (some y101) = some r := by first | (rw [hy101]; with_reducible exact H) | (have H2_ := (Option.bind_some _ _).symm.trans H; rw [hy101]; with_reducible exact H2_) | (have H2_ := (Option.bind_some _ _).symm.trans H; with_reducible exact H2_) | with_reducible exact H | (rw [hy101]; exact H) | exact H
  have Ny101 := am hy101; clear hy101; obtain rfl := Option.some.inj H
  go_enter Tryd.func32, Tryd.ntmps32
  go_wp2_with (first | ((with_reducible refine gate_dst (N := 6) rfl ?_); refine Kd.R_lit Kd.string _ 9 ?hg (N := 6) ?hd (xs := ([(B_ #[110,117,108,108]), (B_ #[101,105,110,115]), (B_ #[122,119,101,105]), (B_ #[100,114,101,105]), (B_ #[118,105,101,114]), (B_ #[102,117,101,110,102]), (B_ #[115,101,99,104,115]), (B_ #[115,105,101,98,101,110]), (B_ #[97,99,104,116]), (B_ #[110,101,117,110]), (B_ #[122,101,104,110]), (B_ #[101,108,102]), (B_ #[122,119,111,101,108,102]), (B_ #[100,114,101,105,122,101,104,110]), (B_ #[118,105,101,114,122,101,104,110]), (B_ #[102,117,101,110,102,122,101,104,110]), (B_ #[115,101,99,104,122,101,104,110]), (B_ #[115,105,101,98,122,101,104,110]), (B_ #[97,99,104,116,122,101,104,110]), (B_ #[110,101,117,110,122,101,104,110])] : List ByteArray)) (inner := [.string (B_ #[110,117,108,108]), .string (B_ #[101,105,110,115]), .string (B_ #[122,119,101,105]), .string (B_ #[100,114,101,105]), .string (B_ #[118,105,101,114]), .string (B_ #[102,117,101,110,102]), .string (B_ #[115,101,99,104,115]), .string (B_ #[115,105,101,98,101,110]), .string (B_ #[97,99,104,116]), .string (B_ #[110,101,117,110]), .string (B_ #[122,101,104,110]), .string (B_ #[101,108,102]), .string (B_ #[122,119,111,101,108,102]), .string (B_ #[100,114,101,105,122,101,104,110]), .string (B_ #[118,105,101,114,122,101,104,110]), .string (B_ #[102,117,101,110,102,122,101,104,110]), .string (B_ #[115,101,99,104,122,101,104,110]), .string (B_ #[115,105,101,98,122,101,104,110]), .string (B_ #[97,99,104,116,122,101,104,110]), .string (B_ #[110,101,117,110,122,101,104,110])]) (ok := fun _ => True) (okp := fun _ => True) ?hr ?hp (fun _ hk => hk) trivial (Below.refl _ _) (Nat.le_refl _) (by simp) ?_; (case hd => rfl); (case hg => rfl); (case hr => first | (go_simp; done) | (go_simp; rfl)); (case hp => exact (Reps.one (show Kd.M Kd.string _ _ _ (B_ #[110,117,108,108]) [.string (B_ #[110,117,108,108])] from rfl) (Reps.one (show Kd.M Kd.string _ _ _ (B_ #[101,105,110,115]) [.string (B_ #[101,105,110,115])] from rfl) (Reps.one (show Kd.M Kd.string _ _ _ (B_ #[122,119,101,105]) [.string (B_ #[122,119,101,105])] from rfl) (Reps.one (show Kd.M Kd.string _ _ _ (B_ #[100,114,101,105]) [.string (B_ #[100,114,101,105])] from rfl) (Reps.one (show Kd.M Kd.string _ _ _ (B_ #[118,105,101,114]) [.string (B_ #[118,105,101,114])] from rfl) (Reps.one (show Kd.M Kd.string _ _ _ (B_ #[102,117,101,110,102]) [.string (B_ #[102,117,101,110,102])] from rfl) (Reps.one (show Kd.M Kd.string _ _ _ (B_ #[115,101,99,104,115]) [.string (B_ #[115,101,99,104,115])] from rfl) (Reps.one (show Kd.M Kd.string _ _ _ (B_ #[115,105,101,98,101,110]) [.string (B_ #[115,105,101,98,101,110])] from rfl) (Reps.one (show Kd.M Kd.string _ _ _ (B_ #[97,99,104,116]) [.string (B_ #[97,99,104,116])] from rfl) (Reps.one (show Kd.M Kd.string _ _ _ (B_ #[110,101,117,110]) [.string (B_ #[110,101,117,110])] from rfl) (Reps.one (show Kd.M Kd.string _ _ _ (B_ #[122,101,104,110]) [.string (B_ #[122,101,104,110])] from rfl) (Reps.one (show Kd.M Kd.string _ _ _ (B_ #[101,108,102]) [.string (B_ #[101,108,102])] from rfl) (Reps.one (show Kd.M Kd.string _ _ _ (B_ #[122,119,111,101,108,102]) [.string (B_ #[122,119,111,101,108,102])] from rfl) (Reps.one (show Kd.M Kd.string _ _ _ (B_ #[100,114,101,105,122,101,104,110]) [.string (B_ #[100,114,101,105,122,101,104,110])] from rfl) (Reps.one (show Kd.M Kd.string _ _ _ (B_ #[118,105,101,114,122,101,104,110]) [.string (B_ #[118,105,101,114,122,101,104,110])] from rfl) (Reps.one (show Kd.M Kd.string _ _ _ (B_ #[102,117,101,110,102,122,101,104,110]) [.string (B_ #[102,117,101,110,102,122,101,104,110])] from rfl) (Reps.one (show Kd.M Kd.string _ _ _ (B_ #[115,101,99,104,122,101,104,110]) [.string (B_ #[115,101,99,104,122,101,104,110])] from rfl) (Reps.one (show Kd.M Kd.string _ _ _ (B_ #[115,105,101,98,122,101,104,110]) [.string (B_ #[115,105,101,98,122,101,104,110])] from rfl) (Reps.one (show Kd.M Kd.string _ _ _ (B_ #[97,99,104,116,122,101,104,110]) [.string (B_ #[97,99,104,116,122,101,104,110])] from rfl) (Reps.one (show Kd.M Kd.string _ _ _ (B_ #[110,101,117,110,122,101,104,110]) [.string (B_ #[110,101,117,110,122,101,104,110])] from rfl) (Reps.none _ _)))))))))))))))))))))); intro v102 w3 ho4 hb hg_ hnew_; clear hg_ hnew_; (first | rw [← Ny101.out] at ho4 | (simp only [Int.reduceToNat] at ho4; rw [← Ny101.out] at ho4)); have HO103 := am (Kd.R_lower ho4 (below_size (bes HB.out))); replace HB := bsp HB hb; clear hb ho4))
  go_ret
  exact ⟨_, er, by exact R_st HO103.out, by exact bes HB.out⟩
 rw [if_neg c2] at H
 have c2b0 := bF c2
 have c2b1 := nT c2
 by_cases c5 : a0 = 3
 ·rw [if_pos c5] at H
  have c5b0 := bT c5
  have c5b1 := nF c5; clear c5; obtain ⟨y104, hy104⟩ : ∃ y_ : List ByteArray, y_ = (([(B_ #[99,101,114,111]), (B_ #[117,110,111]), (B_ #[100,111,115]), (B_ #[116,114,101,115]), (B_ #[99,117,97,116,114,111]), (B_ #[99,105,110,99,111]), (B_ #[115,101,105,115]), (B_ #[115,105,101,116,101]), (B_ #[111,99,104,111]), (B_ #[110,117,101,118,101]), (B_ #[100,105,101,122]), (B_ #[111,110,99,101]), (B_ #[100,111,99,101]), (B_ #[116,114,101,99,101]), (B_ #[99,97,116,111,114,99,101]), (B_ #[113,117,105,110,99,101]), (B_ #[100,105,101,99,105,115,101,105,115]), (B_ #[100,105,101,99,105,115,105,101,116,101]), (B_ #[100,105,101,99,105,111,99,104,111]), (B_ #[100,105,101,99,105,110,117,101,118,101])] : List ByteArray)) := ⟨_, rfl⟩; replace H : (some y104) = some r := by first | (rw [hy104]; with_reducible exact H) | (have H2_ := (Option.bind_some _ _).symm.trans H; rw [hy104]; with_reducible exact H2_) | (have H2_ := (Option.bind_some _ _).symm.trans H; with_reducible exact H2_) | with_reducible exact H | (rw [hy104]; exact H) | exact H
  have Ny104 := am hy104; clear hy104; obtain rfl := Option.some.inj H
  go_enter Tryd.func32, Tryd.ntmps32
  go_wp2_with (first | ((with_reducible refine gate_dst (N := 9) rfl ?_); refine Kd.R_lit Kd.string _ 9 ?hg (N := 9) ?hd (xs := ([(B_ #[99,101,114,111]), (B_ #[117,110,111]), (B_ #[100,111,115]), (B_ #[116,114,101,115]), (B_ #[99,117,97,116,114,111]), (B_ #[99,105,110,99,111]), (B_ #[115,101,105,115]), (B_ #[115,105,101,116,101]), (B_ #[111,99,104,111]), (B_ #[110,117,101,118,101]), (B_ #[100,105,101,122]), (B_ #[111,110,99,101]), (B_ #[100,111,99,101]), (B_ #[116,114,101,99,101]), (B_ #[99,97,116,111,114,99,101]), (B_ #[113,117,105,110,99,101]), (B_ #[100,105,101,99,105,115,101,105,115]), (B_ #[100,105,101,99,105,115,105,101,116,101]), (B_ #[100,105,101,99,105,111,99,104,111]), (B_ #[100,105,101,99,105,110,117,101,118,101])] : List ByteArray)) (inner := [.string (B_ #[99,101,114,111]), .string (B_ #[117,110,111]), .string (B_ #[100,111,115]), .string (B_ #[116,114,101,115]), .string (B_ #[99,117,97,116,114,111]), .string (B_ #[99,105,110,99,111]), .string (B_ #[115,101,105,115]), .string (B_ #[115,105,101,116,101]), .string (B_ #[111,99,104,111]), .string (B_ #[110,117,101,118,101]), .string (B_ #[100,105,101,122]), .string (B_ #[111,110,99,101]), .string (B_ #[100,111,99,101]), .string (B_ #[116,114,101,99,101]), .string (B_ #[99,97,116,111,114,99,101]), .string (B_ #[113,117,105,110,99,101]), .string (B_ #[100,105,101,99,105,115,101,105,115]), .string (B_ #[100,105,101,99,105,115,105,101,116,101]), .string (B_ #[100,105,101,99,105,111,99,104,111]), .string (B_ #[100,105,101,99,105,110,117,101,118,101])]) (ok := fun _ => True) (okp := fun _ => True) ?hr ?hp (fun _ hk => hk) trivial (Below.refl _ _) (Nat.le_refl _) (by simp) ?_; (case hd => rfl); (case hg => rfl); (case hr => first | (go_simp; done) | (go_simp; rfl)); (case hp => exact (Reps.one (show Kd.M Kd.string _ _ _ (B_ #[99,101,114,111]) [.string (B_ #[99,101,114,111])] from rfl) (Reps.one (show Kd.M Kd.string _ _ _ (B_ #[117,110,111]) [.string (B_ #[117,110,111])] from rfl) (Reps.one (show Kd.M Kd.string _ _ _ (B_ #[100,111,115]) [.string (B_ #[100,111,115])] from rfl) (Reps.one (show Kd.M Kd.string _ _ _ (B_ #[116,114,101,115]) [.string (B_ #[116,114,101,115])] from rfl) (Reps.one (show Kd.M Kd.string _ _ _ (B_ #[99,117,97,116,114,111]) [.string (B_ #[99,117,97,116,114,111])] from rfl) (Reps.one (show Kd.M Kd.string _ _ _ (B_ #[99,105,110,99,111]) [.string (B_ #[99,105,110,99,111])] from rfl) (Reps.one (show Kd.M Kd.string _ _ _ (B_ #[115,101,105,115]) [.string (B_ #[115,101,105,115])] from rfl) (Reps.one (show Kd.M Kd.string _ _ _ (B_ #[115,105,101,116,101]) [.string (B_ #[115,105,101,116,101])] from rfl) (Reps.one (show Kd.M Kd.string _ _ _ (B_ #[111,99,104,111]) [.string (B_ #[111,99,104,111])] from rfl) (Reps.one (show Kd.M Kd.string _ _ _ (B_ #[110,117,101,118,101]) [.string (B_ #[110,117,101,118,101])] from rfl) (Reps.one (show Kd.M Kd.string _ _ _ (B_ #[100,105,101,122]) [.string (B_ #[100,105,101,122])] from rfl) (Reps.one (show Kd.M Kd.string _ _ _ (B_ #[111,110,99,101]) [.string (B_ #[111,110,99,101])] from rfl) (Reps.one (show Kd.M Kd.string _ _ _ (B_ #[100,111,99,101]) [.string (B_ #[100,111,99,101])] from rfl) (Reps.one (show Kd.M Kd.string _ _ _ (B_ #[116,114,101,99,101]) [.string (B_ #[116,114,101,99,101])] from rfl) (Reps.one (show Kd.M Kd.string _ _ _ (B_ #[99,97,116,111,114,99,101]) [.string (B_ #[99,97,116,111,114,99,101])] from rfl) (Reps.one (show Kd.M Kd.string _ _ _ (B_ #[113,117,105,110,99,101]) [.string (B_ #[113,117,105,110,99,101])] from rfl) (Reps.one (show Kd.M Kd.string _ _ _ (B_ #[100,105,101,99,105,115,101,105,115]) [.string (B_ #[100,105,101,99,105,115,101,105,115])] from rfl) (Reps.one (show Kd.M Kd.string _ _ _ (B_ #[100,105,101,99,105,115,105,101,116,101]) [.string (B_ #[100,105,101,99,105,115,105,101,116,101])] from rfl) (Reps.one (show Kd.M Kd.string _ _ _ (B_ #[100,105,101,99,105,111,99,104,111]) [.string (B_ #[100,105,101,99,105,111,99,104,111])] from rfl) (Reps.one (show Kd.M Kd.string _ _ _ (B_ #[100,105,101,99,105,110,117,101,118,101]) [.string (B_ #[100,105,101,99,105,110,117,101,118,101])] from rfl) (Reps.none _ _)))))))))))))))))))))); intro v105 w6 ho7 hb hg_ hnew_; clear hg_ hnew_; (first | rw [← Ny104.out] at ho7 | (simp only [Int.reduceToNat] at ho7; rw [← Ny104.out] at ho7)); have HO106 := am (Kd.R_lower ho7 (below_size (bes HB.out))); replace HB := bsp HB hb; clear hb ho7))
  go_ret
  exact ⟨_, er, by exact R_st HO106.out, by exact bes HB.out⟩
 rw [if_neg c5] at H
 have c5b0 := bF c5
 have c5b1 := nT c5; obtain ⟨y107, hy107⟩ : ∃ y_ : List ByteArray, y_ = (([(B_ #[122,101,114,111]), (B_ #[111,110,101]), (B_ #[116,119,111]), (B_ #[116,104,114,101,101]), (B_ #[102,111,117,114]), (B_ #[102,105,118,101]), (B_ #[115,105,120]), (B_ #[115,101,118,101,110]), (B_ #[101,105,103,104,116]), (B_ #[110,105,110,101]), (B_ #[116,101,110]), (B_ #[101,108,101,118,101,110]), (B_ #[116,119,101,108,118,101]), (B_ #[116,104,105,114,116,101,101,110]), (B_ #[102,111,117,114,116,101,101,110]), (B_ #[102,105,102,116,101,101,110]), (B_ #[115,105,120,116,101,101,110]), (B_ #[115,101,118,101,110,116,101,101,110]), (B_ #[101,105,103,104,116,101,101,110]), (B_ #[110,105,110,101,116,101,101,110])] : List ByteArray)) := ⟨_, rfl⟩; replace H : (some y107) = some r := by first | (rw [hy107]; with_reducible exact H) | (have H2_ := (Option.bind_some _ _).symm.trans H; rw [hy107]; with_reducible exact H2_) | (have H2_ := (Option.bind_some _ _).symm.trans H; with_reducible exact H2_) | with_reducible exact H | (rw [hy107]; exact H) | exact H
 have Ny107 := am hy107; clear hy107; obtain rfl := Option.some.inj H
 go_enter Tryd.func32, Tryd.ntmps32
 go_wp2_with (first | ((with_reducible refine gate_dst (N := 10) rfl ?_); refine Kd.R_lit Kd.string _ 9 ?hg (N := 10) ?hd (xs := ([(B_ #[122,101,114,111]), (B_ #[111,110,101]), (B_ #[116,119,111]), (B_ #[116,104,114,101,101]), (B_ #[102,111,117,114]), (B_ #[102,105,118,101]), (B_ #[115,105,120]), (B_ #[115,101,118,101,110]), (B_ #[101,105,103,104,116]), (B_ #[110,105,110,101]), (B_ #[116,101,110]), (B_ #[101,108,101,118,101,110]), (B_ #[116,119,101,108,118,101]), (B_ #[116,104,105,114,116,101,101,110]), (B_ #[102,111,117,114,116,101,101,110]), (B_ #[102,105,102,116,101,101,110]), (B_ #[115,105,120,116,101,101,110]), (B_ #[115,101,118,101,110,116,101,101,110]), (B_ #[101,105,103,104,116,101,101,110]), (B_ #[110,105,110,101,116,101,101,110])] : List ByteArray)) (inner := [.string (B_ #[122,101,114,111]), .string (B_ #[111,110,101]), .string (B_ #[116,119,111]), .string (B_ #[116,104,114,101,101]), .string (B_ #[102,111,117,114]), .string (B_ #[102,105,118,101]), .string (B_ #[115,105,120]), .string (B_ #[115,101,118,101,110]), .string (B_ #[101,105,103,104,116]), .string (B_ #[110,105,110,101]), .string (B_ #[116,101,110]), .string (B_ #[101,108,101,118,101,110]), .string (B_ #[116,119,101,108,118,101]), .string (B_ #[116,104,105,114,116,101,101,110]), .string (B_ #[102,111,117,114,116,101,101,110]), .string (B_ #[102,105,102,116,101,101,110]), .string (B_ #[115,105,120,116,101,101,110]), .string (B_ #[115,101,118,101,110,116,101,101,110]), .string (B_ #[101,105,103,104,116,101,101,110]), .string (B_ #[110,105,110,101,116,101,101,110])]) (ok := fun _ => True) (okp := fun _ => True) ?hr ?hp (fun _ hk => hk) trivial (Below.refl _ _) (Nat.le_refl _) (by simp) ?_; (case hd => rfl); (case hg => rfl); (case hr => first | (go_simp; done) | (go_simp; rfl)); (case hp => exact (Reps.one (show Kd.M Kd.string _ _ _ (B_ #[122,101,114,111]) [.string (B_ #[122,101,114,111])] from rfl) (Reps.one (show Kd.M Kd.string _ _ _ (B_ #[111,110,101]) [.string (B_ #[111,110,101])] from rfl) (Reps.one (show Kd.M Kd.string _ _ _ (B_ #[116,119,111]) [.string (B_ #[116,119,111])] from rfl) (Reps.one (show Kd.M Kd.string _ _ _ (B_ #[116,104,114,101,101]) [.string (B_ #[116,104,114,101,101])] from rfl) (Reps.one (show Kd.M Kd.string _ _ _ (B_ #[102,111,117,114]) [.string (B_ #[102,111,117,114])] from rfl) (Reps.one (show Kd.M Kd.string _ _ _ (B_ #[102,105,118,101]) [.string (B_ #[102,105,118,101])] from rfl) (Reps.one (show Kd.M Kd.string _ _ _ (B_ #[115,105,120]) [.string (B_ #[115,105,120])] from rfl) (Reps.one (show Kd.M Kd.string _ _ _ (B_ #[115,101,118,101,110]) [.string (B_ #[115,101,118,101,110])] from rfl) (Reps.one (show Kd.M Kd.string _ _ _ (B_ #[101,105,103,104,116]) [.string (B_ #[101,105,103,104,116])] from rfl) (Reps.one (show Kd.M Kd.string _ _ _ (B_ #[110,105,110,101]) [.string (B_ #[110,105,110,101])] from rfl) (Reps.one (show Kd.M Kd.string _ _ _ (B_ #[116,101,110]) [.string (B_ #[116,101,110])] from rfl) (Reps.one (show Kd.M Kd.string _ _ _ (B_ #[101,108,101,118,101,110]) [.string (B_ #[101,108,101,118,101,110])] from rfl) (Reps.one (show Kd.M Kd.string _ _ _ (B_ #[116,119,101,108,118,101]) [.string (B_ #[116,119,101,108,118,101])] from rfl) (Reps.one (show Kd.M Kd.string _ _ _ (B_ #[116,104,105,114,116,101,101,110]) [.string (B_ #[116,104,105,114,116,101,101,110])] from rfl) (Reps.one (show Kd.M Kd.string _ _ _ (B_ #[102,111,117,114,116,101,101,110]) [.string (B_ #[102,111,117,114,116,101,101,110])] from rfl) (Reps.one (show Kd.M Kd.string _ _ _ (B_ #[102,105,102,116,101,101,110]) [.string (B_ #[102,105,102,116,101,101,110])] from rfl) (Reps.one (show Kd.M Kd.string _ _ _ (B_ #[115,105,120,116,101,101,110]) [.string (B_ #[115,105,120,116,101,101,110])] from rfl) (Reps.one (show Kd.M Kd.string _ _ _ (B_ #[115,101,118,101,110,116,101,101,110]) [.string (B_ #[115,101,118,101,110,116,101,101,110])] from rfl) (Reps.one (show Kd.M Kd.string _ _ _ (B_ #[101,105,103,104,116,101,101,110]) [.string (B_ #[101,105,103,104,116,101,101,110])] from rfl) (Reps.one (show Kd.M Kd.string _ _ _ (B_ #[110,105,110,101,116,101,101,110]) [.string (B_ #[110,105,110,101,116,101,101,110])] from rfl) (Reps.none _ _)))))))))))))))))))))); intro v108 w8 ho9 hb hg_ hnew_; clear hg_ hnew_; (first | rw [← Ny107.out] at ho9 | (simp only [Int.reduceToNat] at ho9; rw [← Ny107.out] at ho9)); have HO109 := am (Kd.R_lower ho9 (below_size (bes HB.out))); replace HB := bsp HB hb; clear hb ho9))
 go_ret
 exact ⟨_, er, by exact R_st HO109.out, by exact bes HB.out⟩

/-! ### newswireref11_tens: function 78 -/
def newswireref11_tens.f (a0 : Int) : Option (List ByteArray) := if a0 = 2 then (some (([(B_ #[]), (B_ #[]), (B_ #[122,119,97,110,122,105,103]), (B_ #[100,114,101,105,115,115,105,103]), (B_ #[118,105,101,114,122,105,103]), (B_ #[102,117,101,110,102,122,105,103]), (B_ #[115,101,99,104,122,105,103]), (B_ #[115,105,101,98,122,105,103]), (B_ #[97,99,104,116,122,105,103]), (B_ #[110,101,117,110,122,105,103])] : List ByteArray))) else (if a0 = 3 then (some (([(B_ #[]), (B_ #[]), (B_ #[118,101,105,110,116,101]), (B_ #[116,114,101,105,110,116,97]), (B_ #[99,117,97,114,101,110,116,97]), (B_ #[99,105,110,99,117,101,110,116,97]), (B_ #[115,101,115,101,110,116,97]), (B_ #[115,101,116,101,110,116,97]), (B_ #[111,99,104,101,110,116,97]), (B_ #[110,111,118,101,110,116,97])] : List ByteArray))) else (some (([(B_ #[]), (B_ #[]), (B_ #[116,119,101,110,116,121]), (B_ #[116,104,105,114,116,121]), (B_ #[102,111,114,116,121]), (B_ #[102,105,102,116,121]), (B_ #[115,105,120,116,121]), (B_ #[115,101,118,101,110,116,121]), (B_ #[101,105,103,104,116,121]), (B_ #[110,105,110,101,116,121])] : List ByteArray))))
theorem newswireref11_tens.calls (a0 : Int) (r : List ByteArray) (w : World) (h : newswireref11_tens.f a0 = some r) :
  Calls Tryd.prog 78 #[.int .i64 a0] w fun e w' => ∃ v0_ : Value, e = .returned (v0_) ∧ Kd.R Kd.string 9 w' w.heap.size (fun _ => True) v0_ r ∧ Below w.heap.size w w' := by
 have HB := am (Below.refl w.heap.size w)
 have H := h; clear h; unfold newswireref11_tens.f at H
 by_cases c2 : a0 = 2
 ·rw [if_pos c2] at H
  have c2b0 := bT c2
  have c2b1 := nF c2; clear c2; obtain ⟨y110, hy110⟩ : ∃ y_ : List ByteArray, y_ = (([(B_ #[]), (B_ #[]), (B_ #[122,119,97,110,122,105,103]), (B_ #[100,114,101,105,115,115,105,103]), (B_ #[118,105,101,114,122,105,103]), (B_ #[102,117,101,110,102,122,105,103]), (B_ #[115,101,99,104,122,105,103]), (B_ #[115,105,101,98,122,105,103]), (B_ #[97,99,104,116,122,105,103]), (B_ #[110,101,117,110,122,105,103])] : List ByteArray)) := ⟨_, rfl⟩; replace H : (some y110) = some r := by first | (rw [hy110]; with_reducible exact H) | (have H2_ := (Option.bind_some _ _).symm.trans H; rw [hy110]; with_reducible exact H2_) | (have H2_ := (Option.bind_some _ _).symm.trans H; with_reducible exact H2_) | with_reducible exact H | (rw [hy110]; exact H) | exact H
  have Ny110 := am hy110; clear hy110; obtain rfl := Option.some.inj H
  go_enter Tryd.func78, Tryd.ntmps78
  go_wp2_with (first | ((with_reducible refine gate_dst (N := 6) rfl ?_); refine Kd.R_lit Kd.string _ 9 ?hg (N := 6) ?hd (xs := ([(B_ #[]), (B_ #[]), (B_ #[122,119,97,110,122,105,103]), (B_ #[100,114,101,105,115,115,105,103]), (B_ #[118,105,101,114,122,105,103]), (B_ #[102,117,101,110,102,122,105,103]), (B_ #[115,101,99,104,122,105,103]), (B_ #[115,105,101,98,122,105,103]), (B_ #[97,99,104,116,122,105,103]), (B_ #[110,101,117,110,122,105,103])] : List ByteArray)) (inner := [.string (B_ #[]), .string (B_ #[]), .string (B_ #[122,119,97,110,122,105,103]), .string (B_ #[100,114,101,105,115,115,105,103]), .string (B_ #[118,105,101,114,122,105,103]), .string (B_ #[102,117,101,110,102,122,105,103]), .string (B_ #[115,101,99,104,122,105,103]), .string (B_ #[115,105,101,98,122,105,103]), .string (B_ #[97,99,104,116,122,105,103]), .string (B_ #[110,101,117,110,122,105,103])]) (ok := fun _ => True) (okp := fun _ => True) ?hr ?hp (fun _ hk => hk) trivial (Below.refl _ _) (Nat.le_refl _) (by simp) ?_; (case hd => rfl); (case hg => rfl); (case hr => first | (go_simp; done) | (go_simp; rfl)); (case hp => exact (Reps.one (show Kd.M Kd.string _ _ _ (B_ #[]) [.string (B_ #[])] from rfl) (Reps.one (show Kd.M Kd.string _ _ _ (B_ #[]) [.string (B_ #[])] from rfl) (Reps.one (show Kd.M Kd.string _ _ _ (B_ #[122,119,97,110,122,105,103]) [.string (B_ #[122,119,97,110,122,105,103])] from rfl) (Reps.one (show Kd.M Kd.string _ _ _ (B_ #[100,114,101,105,115,115,105,103]) [.string (B_ #[100,114,101,105,115,115,105,103])] from rfl) (Reps.one (show Kd.M Kd.string _ _ _ (B_ #[118,105,101,114,122,105,103]) [.string (B_ #[118,105,101,114,122,105,103])] from rfl) (Reps.one (show Kd.M Kd.string _ _ _ (B_ #[102,117,101,110,102,122,105,103]) [.string (B_ #[102,117,101,110,102,122,105,103])] from rfl) (Reps.one (show Kd.M Kd.string _ _ _ (B_ #[115,101,99,104,122,105,103]) [.string (B_ #[115,101,99,104,122,105,103])] from rfl) (Reps.one (show Kd.M Kd.string _ _ _ (B_ #[115,105,101,98,122,105,103]) [.string (B_ #[115,105,101,98,122,105,103])] from rfl) (Reps.one (show Kd.M Kd.string _ _ _ (B_ #[97,99,104,116,122,105,103]) [.string (B_ #[97,99,104,116,122,105,103])] from rfl) (Reps.one (show Kd.M Kd.string _ _ _ (B_ #[110,101,117,110,122,105,103]) [.string (B_ #[110,101,117,110,122,105,103])] from rfl) (Reps.none _ _)))))))))))); intro v111 w3 ho4 hb hg_ hnew_; clear hg_ hnew_; (first | rw [← Ny110.out] at ho4 | (simp only [Int.reduceToNat] at ho4; rw [← Ny110.out] at ho4)); have HO112 := am (Kd.R_lower ho4 (below_size (bes HB.out))); replace HB := bsp HB hb; clear hb ho4))
  go_ret
  exact ⟨_, er, by exact R_st HO112.out, by exact bes HB.out⟩
 rw [if_neg c2] at H
 have c2b0 := bF c2
 have c2b1 := nT c2
 by_cases c5 : a0 = 3
 ·rw [if_pos c5] at H
  have c5b0 := bT c5
  have c5b1 := nF c5; clear c5; obtain ⟨y113, hy113⟩ : ∃ y_ : List ByteArray, y_ = (([(B_ #[]), (B_ #[]), (B_ #[118,101,105,110,116,101]), (B_ #[116,114,101,105,110,116,97]), (B_ #[99,117,97,114,101,110,116,97]), (B_ #[99,105,110,99,117,101,110,116,97]), (B_ #[115,101,115,101,110,116,97]), (B_ #[115,101,116,101,110,116,97]), (B_ #[111,99,104,101,110,116,97]), (B_ #[110,111,118,101,110,116,97])] : List ByteArray)) := ⟨_, rfl⟩; replace H : (some y113) = some r := by first | (rw [hy113]; with_reducible exact H) | (have H2_ := (Option.bind_some _ _).symm.trans H; rw [hy113]; with_reducible exact H2_) | (have H2_ := (Option.bind_some _ _).symm.trans H; with_reducible exact H2_) | with_reducible exact H | (rw [hy113]; exact H) | exact H
  have Ny113 := am hy113; clear hy113; obtain rfl := Option.some.inj H
  go_enter Tryd.func78, Tryd.ntmps78
  go_wp2_with (first | ((with_reducible refine gate_dst (N := 9) rfl ?_); refine Kd.R_lit Kd.string _ 9 ?hg (N := 9) ?hd (xs := ([(B_ #[]), (B_ #[]), (B_ #[118,101,105,110,116,101]), (B_ #[116,114,101,105,110,116,97]), (B_ #[99,117,97,114,101,110,116,97]), (B_ #[99,105,110,99,117,101,110,116,97]), (B_ #[115,101,115,101,110,116,97]), (B_ #[115,101,116,101,110,116,97]), (B_ #[111,99,104,101,110,116,97]), (B_ #[110,111,118,101,110,116,97])] : List ByteArray)) (inner := [.string (B_ #[]), .string (B_ #[]), .string (B_ #[118,101,105,110,116,101]), .string (B_ #[116,114,101,105,110,116,97]), .string (B_ #[99,117,97,114,101,110,116,97]), .string (B_ #[99,105,110,99,117,101,110,116,97]), .string (B_ #[115,101,115,101,110,116,97]), .string (B_ #[115,101,116,101,110,116,97]), .string (B_ #[111,99,104,101,110,116,97]), .string (B_ #[110,111,118,101,110,116,97])]) (ok := fun _ => True) (okp := fun _ => True) ?hr ?hp (fun _ hk => hk) trivial (Below.refl _ _) (Nat.le_refl _) (by simp) ?_; (case hd => rfl); (case hg => rfl); (case hr => first | (go_simp; done) | (go_simp; rfl)); (case hp => exact (Reps.one (show Kd.M Kd.string _ _ _ (B_ #[]) [.string (B_ #[])] from rfl) (Reps.one (show Kd.M Kd.string _ _ _ (B_ #[]) [.string (B_ #[])] from rfl) (Reps.one (show Kd.M Kd.string _ _ _ (B_ #[118,101,105,110,116,101]) [.string (B_ #[118,101,105,110,116,101])] from rfl) (Reps.one (show Kd.M Kd.string _ _ _ (B_ #[116,114,101,105,110,116,97]) [.string (B_ #[116,114,101,105,110,116,97])] from rfl) (Reps.one (show Kd.M Kd.string _ _ _ (B_ #[99,117,97,114,101,110,116,97]) [.string (B_ #[99,117,97,114,101,110,116,97])] from rfl) (Reps.one (show Kd.M Kd.string _ _ _ (B_ #[99,105,110,99,117,101,110,116,97]) [.string (B_ #[99,105,110,99,117,101,110,116,97])] from rfl) (Reps.one (show Kd.M Kd.string _ _ _ (B_ #[115,101,115,101,110,116,97]) [.string (B_ #[115,101,115,101,110,116,97])] from rfl) (Reps.one (show Kd.M Kd.string _ _ _ (B_ #[115,101,116,101,110,116,97]) [.string (B_ #[115,101,116,101,110,116,97])] from rfl) (Reps.one (show Kd.M Kd.string _ _ _ (B_ #[111,99,104,101,110,116,97]) [.string (B_ #[111,99,104,101,110,116,97])] from rfl) (Reps.one (show Kd.M Kd.string _ _ _ (B_ #[110,111,118,101,110,116,97]) [.string (B_ #[110,111,118,101,110,116,97])] from rfl) (Reps.none _ _)))))))))))); intro v114 w6 ho7 hb hg_ hnew_; clear hg_ hnew_; (first | rw [← Ny113.out] at ho7 | (simp only [Int.reduceToNat] at ho7; rw [← Ny113.out] at ho7)); have HO115 := am (Kd.R_lower ho7 (below_size (bes HB.out))); replace HB := bsp HB hb; clear hb ho7))
  go_ret
  exact ⟨_, er, by exact R_st HO115.out, by exact bes HB.out⟩
 rw [if_neg c5] at H
 have c5b0 := bF c5
 have c5b1 := nT c5; obtain ⟨y116, hy116⟩ : ∃ y_ : List ByteArray, y_ = (([(B_ #[]), (B_ #[]), (B_ #[116,119,101,110,116,121]), (B_ #[116,104,105,114,116,121]), (B_ #[102,111,114,116,121]), (B_ #[102,105,102,116,121]), (B_ #[115,105,120,116,121]), (B_ #[115,101,118,101,110,116,121]), (B_ #[101,105,103,104,116,121]), (B_ #[110,105,110,101,116,121])] : List ByteArray)) := ⟨_, rfl⟩; replace H : (some y116) = some r := by first | (rw [hy116]; with_reducible exact H) | (have H2_ := (Option.bind_some _ _).symm.trans H; rw [hy116]; with_reducible exact H2_) | (have H2_ := (Option.bind_some _ _).symm.trans H; with_reducible exact H2_) | with_reducible exact H | (rw [hy116]; exact H) | exact H
 have Ny116 := am hy116; clear hy116; obtain rfl := Option.some.inj H
 go_enter Tryd.func78, Tryd.ntmps78
 go_wp2_with (first | ((with_reducible refine gate_dst (N := 10) rfl ?_); refine Kd.R_lit Kd.string _ 9 ?hg (N := 10) ?hd (xs := ([(B_ #[]), (B_ #[]), (B_ #[116,119,101,110,116,121]), (B_ #[116,104,105,114,116,121]), (B_ #[102,111,114,116,121]), (B_ #[102,105,102,116,121]), (B_ #[115,105,120,116,121]), (B_ #[115,101,118,101,110,116,121]), (B_ #[101,105,103,104,116,121]), (B_ #[110,105,110,101,116,121])] : List ByteArray)) (inner := [.string (B_ #[]), .string (B_ #[]), .string (B_ #[116,119,101,110,116,121]), .string (B_ #[116,104,105,114,116,121]), .string (B_ #[102,111,114,116,121]), .string (B_ #[102,105,102,116,121]), .string (B_ #[115,105,120,116,121]), .string (B_ #[115,101,118,101,110,116,121]), .string (B_ #[101,105,103,104,116,121]), .string (B_ #[110,105,110,101,116,121])]) (ok := fun _ => True) (okp := fun _ => True) ?hr ?hp (fun _ hk => hk) trivial (Below.refl _ _) (Nat.le_refl _) (by simp) ?_; (case hd => rfl); (case hg => rfl); (case hr => first | (go_simp; done) | (go_simp; rfl)); (case hp => exact (Reps.one (show Kd.M Kd.string _ _ _ (B_ #[]) [.string (B_ #[])] from rfl) (Reps.one (show Kd.M Kd.string _ _ _ (B_ #[]) [.string (B_ #[])] from rfl) (Reps.one (show Kd.M Kd.string _ _ _ (B_ #[116,119,101,110,116,121]) [.string (B_ #[116,119,101,110,116,121])] from rfl) (Reps.one (show Kd.M Kd.string _ _ _ (B_ #[116,104,105,114,116,121]) [.string (B_ #[116,104,105,114,116,121])] from rfl) (Reps.one (show Kd.M Kd.string _ _ _ (B_ #[102,111,114,116,121]) [.string (B_ #[102,111,114,116,121])] from rfl) (Reps.one (show Kd.M Kd.string _ _ _ (B_ #[102,105,102,116,121]) [.string (B_ #[102,105,102,116,121])] from rfl) (Reps.one (show Kd.M Kd.string _ _ _ (B_ #[115,105,120,116,121]) [.string (B_ #[115,105,120,116,121])] from rfl) (Reps.one (show Kd.M Kd.string _ _ _ (B_ #[115,101,118,101,110,116,121]) [.string (B_ #[115,101,118,101,110,116,121])] from rfl) (Reps.one (show Kd.M Kd.string _ _ _ (B_ #[101,105,103,104,116,121]) [.string (B_ #[101,105,103,104,116,121])] from rfl) (Reps.one (show Kd.M Kd.string _ _ _ (B_ #[110,105,110,101,116,121]) [.string (B_ #[110,105,110,101,116,121])] from rfl) (Reps.none _ _)))))))))))); intro v117 w8 ho9 hb hg_ hnew_; clear hg_ hnew_; (first | rw [← Ny116.out] at ho9 | (simp only [Int.reduceToNat] at ho9; rw [← Ny116.out] at ho9)); have HO118 := am (Kd.R_lower ho9 (below_size (bes HB.out))); replace HB := bsp HB hb; clear hb ho9))
 go_ret
 exact ⟨_, er, by exact R_st HO118.out, by exact bes HB.out⟩

/-! ### newswireref11_below: function 55 -/
mutual
def newswireref11_below.j0 : Nat → Int → Int → Bool → Int → ByteArray → Bool → Option (List ByteArray)
 | 0, _, _, _, _, _, _ => none
 | k + 1, x0, x1, x2, x7, x8, x25 => if x25 = true then (newswireref11_below.j1 k x0 x1 x2 x7 (B_ #[101,105,110])) else (newswireref11_below.j1 k x0 x1 x2 x7 x8)
def newswireref11_below.j1 : Nat → Int → Int → Bool → Int → ByteArray → Option (List ByteArray)
 | 0, _, _, _, _, _ => none
 | k + 1, x0, x1, x2, x7, x8 => if x7 = 1 then (if x0 = 3 then (newswireref11_below.j2 k x0 x1 x7 x8 (!x2)) else (newswireref11_below.j2 k x0 x1 x7 x8 false)) else (newswireref11_below.j2 k x0 x1 x7 x8 false)
def newswireref11_below.j2 : Nat → Int → Int → Int → ByteArray → Bool → Option (List ByteArray)
 | 0, _, _, _, _, _ => none
 | k + 1, x0, x1, x7, x8, x35 => if x35 = true then (newswireref11_below.j3 k x0 x1 x7 (B_ #[117,110])) else (newswireref11_below.j3 k x0 x1 x7 x8)
def newswireref11_below.j3 : Nat → Int → Int → Int → ByteArray → Option (List ByteArray)
 | 0, _, _, _, _ => none
 | k + 1, x0, x1, x7, x8 => if x1 = 1 then (some (([x8] : List ByteArray))) else (if x1 < 20 then ((newswireref11_units.f x0).bind fun t126 => (if 0 ≤ x1 then (if x1 < (t126.length : Int) then (some (([rdOf ByteArray.empty t126 x1] : List ByteArray))) else (none)) else (none))) else (if x7 = 0 then ((newswireref11_tens.f x0).bind fun t133 => (if 0 ≤ (wrap64 (Int.tdiv x1 10)) then (if (wrap64 (Int.tdiv x1 10)) < (t133.length : Int) then (some (([rdOf ByteArray.empty t133 (wrap64 (Int.tdiv x1 10))] : List ByteArray))) else (none)) else (none))) else (if x0 = 2 then (if x7 = 1 then (newswireref11_below.j4 k x0 x1 (B_ #[101,105,110])) else (newswireref11_below.j4 k x0 x1 x8)) else (if x0 = 3 then (newswireref11_below.j5 k x0 x1 x8 (decide (x1 < 30))) else (newswireref11_below.j5 k x0 x1 x8 false)))))
def newswireref11_below.j4 : Nat → Int → Int → ByteArray → Option (List ByteArray)
 | 0, _, _, _ => none
 | k + 1, x0, x1, x8 => if x8.size + 3 ≤ 9223372036854775807 then ((newswireref11_tens.f x0).bind fun t140 => (if 0 ≤ (wrap64 (Int.tdiv x1 10)) then (if (wrap64 (Int.tdiv x1 10)) < (t140.length : Int) then (if (x8 ++ (B_ #[117,110,100])).size + (rdOf ByteArray.empty t140 (wrap64 (Int.tdiv x1 10))).size ≤ 9223372036854775807 then (some (([(x8 ++ (B_ #[117,110,100])) ++ (rdOf ByteArray.empty t140 (wrap64 (Int.tdiv x1 10)))] : List ByteArray))) else (none)) else (none)) else (none))) else (none)
def newswireref11_below.j5 : Nat → Int → Int → ByteArray → Bool → Option (List ByteArray)
 | 0, _, _, _, _ => none
 | k + 1, x0, x1, x8, x75 => if x75 = true then (if 6 + x8.size ≤ 9223372036854775807 then (some (([(B_ #[118,101,105,110,116,105]) ++ x8] : List ByteArray))) else (none)) else (if x0 = 3 then ((newswireref11_tens.f x0).bind fun t150 => (if 0 ≤ (wrap64 (Int.tdiv x1 10)) then (if (wrap64 (Int.tdiv x1 10)) < (t150.length : Int) then (some (([rdOf ByteArray.empty t150 (wrap64 (Int.tdiv x1 10)), (B_ #[121]), x8] : List ByteArray))) else (none)) else (none))) else ((newswireref11_tens.f x0).bind fun t157 => (if 0 ≤ (wrap64 (Int.tdiv x1 10)) then (if (wrap64 (Int.tdiv x1 10)) < (t157.length : Int) then (if (rdOf ByteArray.empty t157 (wrap64 (Int.tdiv x1 10))).size + 1 ≤ 9223372036854775807 then (if ((rdOf ByteArray.empty t157 (wrap64 (Int.tdiv x1 10))) ++ (B_ #[45])).size + x8.size ≤ 9223372036854775807 then (some (([((rdOf ByteArray.empty t157 (wrap64 (Int.tdiv x1 10))) ++ (B_ #[45])) ++ x8] : List ByteArray))) else (none)) else (none)) else (none)) else (none))))
end
def newswireref11_below.f (k : Nat) (a0 : Int) (a1 : Int) (a2 : Bool) : Option (List ByteArray) := (newswireref11_units.f a0).bind fun t119 => (if 0 ≤ (Int.tmod a1 10) then (if (Int.tmod a1 10) < (t119.length : Int) then (if (Int.tmod a1 10) = 1 then (if a0 = 2 then (newswireref11_below.j0 k a0 a1 a2 (Int.tmod a1 10) (rdOf ByteArray.empty t119 (Int.tmod a1 10)) (!a2)) else (newswireref11_below.j0 k a0 a1 a2 (Int.tmod a1 10) (rdOf ByteArray.empty t119 (Int.tmod a1 10)) false)) else (newswireref11_below.j0 k a0 a1 a2 (Int.tmod a1 10) (rdOf ByteArray.empty t119 (Int.tmod a1 10)) false)) else (none)) else (none))
theorem newswireref11_below.mono_l : ∀ k, (∀ y0 y1 y2 y3 y4 y5, LeO (newswireref11_below.j0 k y0 y1 y2 y3 y4 y5) (newswireref11_below.j0 (k + 1) y0 y1 y2 y3 y4 y5)) ∧ (∀ y0 y1 y2 y3 y4, LeO (newswireref11_below.j1 k y0 y1 y2 y3 y4) (newswireref11_below.j1 (k + 1) y0 y1 y2 y3 y4)) ∧ (∀ y0 y1 y2 y3 y4, LeO (newswireref11_below.j2 k y0 y1 y2 y3 y4) (newswireref11_below.j2 (k + 1) y0 y1 y2 y3 y4)) ∧ (∀ y0 y1 y2 y3, LeO (newswireref11_below.j3 k y0 y1 y2 y3) (newswireref11_below.j3 (k + 1) y0 y1 y2 y3)) ∧ (∀ y0 y1 y2, LeO (newswireref11_below.j4 k y0 y1 y2) (newswireref11_below.j4 (k + 1) y0 y1 y2)) ∧ (∀ y0 y1 y2 y3, LeO (newswireref11_below.j5 k y0 y1 y2 y3) (newswireref11_below.j5 (k + 1) y0 y1 y2 y3))
 | 0 => ⟨fun _ _ _ _ _ _ r h => by simp [newswireref11_below.j0] at h, fun _ _ _ _ _ r h => by simp [newswireref11_below.j1] at h, fun _ _ _ _ _ r h => by simp [newswireref11_below.j2] at h, fun _ _ _ _ r h => by simp [newswireref11_below.j3] at h, fun _ _ _ r h => by simp [newswireref11_below.j4] at h, fun _ _ _ _ r h => by simp [newswireref11_below.j5] at h⟩
 | k + 1 => by
  obtain ⟨ih0, ih1, ih2, ih3, ih4, ih5⟩ := newswireref11_below.mono_l k
  refine ⟨?_, ?_, ?_, ?_, ?_, ?_⟩
  all_goals
   intros; first | unfold newswireref11_below.j0 | unfold newswireref11_below.j1 | unfold newswireref11_below.j2 | unfold newswireref11_below.j3 | unfold newswireref11_below.j4 | unfold newswireref11_below.j5
   repeat' first
   | (with_reducible exact ih0 _ _ _ _ _ _)
   | (with_reducible exact ih1 _ _ _ _ _)
   | (with_reducible exact ih2 _ _ _ _ _)
   | (with_reducible exact ih3 _ _ _ _)
   | (with_reducible exact ih4 _ _ _)
   | (with_reducible exact ih5 _ _ _ _)
   | (with_reducible exact LeO.refl _)
   | (with_reducible exact LeO.none _)
   | (with_reducible refine LeO.ite ?_ ?_)
   | (with_reducible refine LeO.bind ?_ (fun _ => ?_))
theorem newswireref11_below.mono : ∀ a0 a1 a2 k, LeO (newswireref11_below.f k a0 a1 a2) (newswireref11_below.f (k + 1) a0 a1 a2) := by
 intro a0 a1 a2 k; obtain ⟨ih0, ih1, ih2, ih3, ih4, ih5⟩ := newswireref11_below.mono_l k
 unfold newswireref11_below.f
 repeat' first
   | (with_reducible exact ih0 _ _ _ _ _ _)
   | (with_reducible exact ih1 _ _ _ _ _)
   | (with_reducible exact ih2 _ _ _ _ _)
   | (with_reducible exact ih3 _ _ _ _)
   | (with_reducible exact ih4 _ _ _)
   | (with_reducible exact ih5 _ _ _ _)
   | (with_reducible exact LeO.refl _)
   | (with_reducible exact LeO.none _)
   | (with_reducible refine LeO.ite ?_ ?_)
   | (with_reducible refine LeO.bind ?_ (fun _ => ?_))
theorem newswireref11_below.calls (k : Nat) (a0 : Int) (a1 : Int) (a2 : Bool) (r : List ByteArray) (w : World) (h : newswireref11_below.f k a0 a1 a2 = some r) :
  Calls Tryd.prog 55 #[.int .i64 a0, .int .i64 a1, .bool a2] w fun e w' => ∃ v0_ : Value, e = .returned (v0_) ∧ Kd.R Kd.string 9 w' w.heap.size (fun _ => True) v0_ r ∧ Below w.heap.size w w' := by
 have HB := am (Below.refl w.heap.size w)
 have H := h; clear h; unfold newswireref11_below.f at H; replace H := bm H; obtain ⟨t119, A4, H⟩ := H; replace A4 := am A4; obtain ⟨ji5, hji5⟩ : ∃ j_ : Int, (Int.tmod a1 10) = j_ := ⟨_, rfl⟩; replace H : (if 0 ≤ (ji5) then (if (ji5) < (t119.length : Int) then (if (ji5) = 1 then (if a0 = 2 then (newswireref11_below.j0 k a0 a1 a2 ji5 (rdOf ByteArray.empty t119 (ji5)) (!a2)) else (newswireref11_below.j0 k a0 a1 a2 ji5 (rdOf ByteArray.empty t119 (ji5)) false)) else (newswireref11_below.j0 k a0 a1 a2 ji5 (rdOf ByteArray.empty t119 (ji5)) false)) else (none)) else (none)) = some r := by first | (rw [hji5] at H; exact H) | (simp only [hji5] at H ⊢; exact H)
 (try rw [hji5] at A4)
 by_cases c6 : 0 ≤ (ji5); rotate_left
 ·rw [if_neg c6] at H
  exact absurd H (by simp)
 rw [if_pos c6] at H
 have c6b0 := dT c6; clear c6
 by_cases c7 : (ji5) < (t119.length : Int); rotate_left
 ·rw [if_neg c7] at H
  exact absurd H (by simp)
 rw [if_pos c7] at H
 have c7b0 := dT c7; clear c7; have HC8 := am H; clear H
 go_enter Tryd.func55, Tryd.ntmps55
 go_upto_region 3 with (first | ((with_reducible refine gate_callee (f := 32) rfl ?_); refine gL (some 12) rfl rfl Tryd.func32 #[.int .i64 a0] ?_; (refine (newswireref11_units.calls a0 t119 _ A4.out).mono ?_); rintro e w9 ⟨v120, rfl, ho0, hb⟩; refine ⟨_, rfl, ?_⟩; have HO121 := am (Kd.R_lower ho0 (below_size (bes HB.out))); replace HB := bsp HB hb; (try clear hb); (try clear ho0); obtain ⟨Ao10, co10, eo10⟩ := Kd.R_slice HO121.out; subst eo10; have p122 : 0 ≤ ((ji5) : Int) := of_decide_eq_true (by assumption); have q122 : (ji5) < (t119.length : Int) := of_decide_eq_true (by assumption); obtain ⟨ad122, e122, hx122_0⟩ := Kd.at_string (Kd.R_reads' HO121.out).2.2 (ji5) p122 q122; cases e122; replace p122 := eq_true p122; replace q122 := eq_true q122))
 (try simp only [Act.put, sa_, s0_, s1_])
 go_cut [25] (fun v25 wc => ∃ (kq : Nat) (x25_7 : Bool), v25 = .bool x25_7 ∧ Aside0 (newswireref11_below.j0 kq a0 a1 a2 ji5 (rdOf ByteArray.empty t119 (ji5)) x25_7 = some r) ∧ Aside0 (kq ≤ k) ∧ Aside0 (Below w.heap.size w wc))
 case first =>
  have H := HC8.out; clear HC8
  by_cases c11 : (ji5) = 1; rotate_left
  ·rw [if_neg c11] at H
   have c11b0 := bF c11
   have c11b1 := nT c11
   (first | rw [c11b0] | (simp only [i64_w, i32_w]; rw [c11b0]) | skip)
   have H' := am H; clear H
   go_wp2
   go_meet
   case rel => exact ⟨_, (false), cd, H', ⟨om⟩, ⟨by exact bes HB.out⟩⟩
  rw [if_pos c11] at H
  have c11b0 := bT c11
  have c11b1 := nF c11; clear c11
  (first | rw [c11b0] | (simp only [i64_w, i32_w]; rw [c11b0]) | skip)
  by_cases c12 : a0 = 2
  ·rw [if_pos c12] at H
   have c12b0 := bT c12
   have c12b1 := nF c12; clear c12
   have H' := am H; clear H
   go_wp2
   go_meet
   case rel => exact ⟨_, (!a2), cd, H', ⟨om⟩, ⟨by exact bes HB.out⟩⟩
  rw [if_neg c12] at H
  have c12b0 := bF c12
  have c12b1 := nT c12
  have H' := am H; clear H
  go_wp2
  go_meet
  case rel => exact ⟨_, (false), cd, H', ⟨om⟩, ⟨by exact bes HB.out⟩⟩
 clear HC8
 try clear c1
 try clear p1
 try clear q1
 try clear hx1
 try clear p2
 try clear c3
 try clear c5
 try clear c6
 try clear c6b0
 try clear c7
 try clear c7b0
 try clear c11
 try clear c11b0
 try clear c11b1
 try clear c12
 try clear c12b0
 try clear c12b1
 try clear p12
 try clear q12
 try clear hx12
 try clear hx122_0
 try clear p122
 try clear q122
 obtain ⟨kq, x25_7, rfl, HA, HJ7, HB⟩ := hcut
 cases kq with
 | zero => exact absurd HA.out (by simp [newswireref11_below.j0])
 | succ kj7 =>
  have H := HA.out; clear HA; simp only [newswireref11_below.j0] at H; have HC13 := am H; clear H
  go_upto_if 25 with (fail)
  go_cut [8] (fun v8 wc => ∃ (kq : Nat) (x8_12 : ByteArray), v8 = .string x8_12 ∧ Aside0 (newswireref11_below.j1 kq a0 a1 a2 ji5 x8_12 = some r) ∧ Aside0 (kq ≤ kj7) ∧ Aside0 (Below w.heap.size w wc))
  case first =>
   have H := HC13.out; clear HC13
   by_cases c14 : x25_7 = true
   ·subst c14
    replace H := ip H
    have H' := am H; clear H
    go_wp2
    go_meet
    case rel => exact ⟨_, ((B_ #[101,105,110])), cd, H', ⟨by have := HJ7.out; first | omega | exact Nat.le_refl _⟩, ⟨by exact bes HB.out⟩⟩
   replace c14 := Bool.eq_false_iff.mpr c14; subst c14; replace H := inn H
   have H' := am H; clear H
   go_wp2
   go_meet
   case rel => exact ⟨_, ((rdOf ByteArray.empty t119 (ji5))), (by first | rfl | (simp; done) | (simp only [← hji5] <;> (first | rfl | simp)) | (simp [*]; done)), H', ⟨by have := HJ7.out; first | omega | exact Nat.le_refl _⟩, ⟨by exact bes HB.out⟩⟩
  clear HC13
  try clear c1
  try clear p1
  try clear q1
  try clear hx1
  try clear p2
  try clear c3
  try clear c5
  try clear c6
  try clear c6b0
  try clear c7
  try clear c7b0
  try clear c11
  try clear c11b0
  try clear c11b1
  try clear c12
  try clear c12b0
  try clear c12b1
  try clear p12
  try clear q12
  try clear hx12
  try clear c14
  try clear hx122_0
  try clear p1
  try clear p12
  try clear p122
  try clear p2
  try clear q1
  try clear q12
  try clear q122
  obtain ⟨kq, x8_12, rfl, HA, HJ12, HB⟩ := hcut
  cases kq with
  | zero => exact absurd HA.out (by simp [newswireref11_below.j1])
  | succ kj12 =>
   have H := HA.out; clear HA; simp only [newswireref11_below.j1] at H; have HC15 := am H; clear H
   go_upto_region 5 with (fail)
   go_cut [35] (fun v35 wc => ∃ (kq : Nat) (x35_14 : Bool), v35 = .bool x35_14 ∧ Aside0 (newswireref11_below.j2 kq a0 a1 ji5 x8_12 x35_14 = some r) ∧ Aside0 (kq ≤ kj12) ∧ Aside0 (Below w.heap.size w wc))
   case first =>
    have H := HC15.out; clear HC15
    by_cases c16 : ji5 = 1; rotate_left
    ·rw [if_neg c16] at H
     have c16b0 := bF c16
     have c16b1 := nT c16
     (first | rw [c16b0] | (simp only [i64_w, i32_w]; rw [c16b0]) | skip)
     have H' := am H; clear H
     go_wp2
     go_meet
     case rel => exact ⟨_, (false), cd, H', ⟨by have := HJ7.out; have := HJ12.out; first | omega | exact Nat.le_refl _⟩, ⟨by exact bes HB.out⟩⟩
    rw [if_pos c16] at H
    have c16b0 := bT c16
    have c16b1 := nF c16; clear c16
    (first | rw [c16b0] | (simp only [i64_w, i32_w]; rw [c16b0]) | skip)
    by_cases c17 : a0 = 3
    ·rw [if_pos c17] at H
     have c17b0 := bT c17
     have c17b1 := nF c17; clear c17
     have H' := am H; clear H
     go_wp2
     go_meet
     case rel => exact ⟨_, (!a2), cd, H', ⟨by have := HJ7.out; have := HJ12.out; first | omega | exact Nat.le_refl _⟩, ⟨by exact bes HB.out⟩⟩
    rw [if_neg c17] at H
    have c17b0 := bF c17
    have c17b1 := nT c17
    have H' := am H; clear H
    go_wp2
    go_meet
    case rel => exact ⟨_, (false), cd, H', ⟨by have := HJ7.out; have := HJ12.out; first | omega | exact Nat.le_refl _⟩, ⟨by exact bes HB.out⟩⟩
   clear HC15
   try clear c1
   try clear p1
   try clear q1
   try clear hx1
   try clear p2
   try clear c3
   try clear c5
   try clear c6
   try clear c6b0
   try clear c7
   try clear c7b0
   try clear c11
   try clear c11b0
   try clear c11b1
   try clear c12
   try clear c12b0
   try clear c12b1
   try clear p12
   try clear q12
   try clear hx12
   try clear c14
   try clear c16
   try clear c16b0
   try clear c16b1
   try clear c17
   try clear c17b0
   try clear c17b1
   try clear hx122_0
   try clear p1
   try clear p12
   try clear p122
   try clear p2
   try clear q1
   try clear q12
   try clear q122
   obtain ⟨kq, x35_14, rfl, HA, HJ14, HB⟩ := hcut
   cases kq with
   | zero => exact absurd HA.out (by simp [newswireref11_below.j2])
   | succ kj14 =>
    have H := HA.out; clear HA; simp only [newswireref11_below.j2] at H; have HC18 := am H; clear H
    go_upto_if 35 with (fail)
    go_cut [8] (fun v8 wc => ∃ (kq : Nat) (x8_17 : ByteArray), v8 = .string x8_17 ∧ Aside0 (newswireref11_below.j3 kq a0 a1 ji5 x8_17 = some r) ∧ Aside0 (kq ≤ kj14) ∧ Aside0 (Below w.heap.size w wc))
    case first =>
     have H := HC18.out; clear HC18
     by_cases c19 : x35_14 = true
     ·subst c19
      replace H := ip H
      have H' := am H; clear H
      go_wp2
      go_meet
      case rel => exact ⟨_, ((B_ #[117,110])), cd, H', ⟨by have := HJ7.out; have := HJ12.out; have := HJ14.out; first | omega | exact Nat.le_refl _⟩, ⟨by exact bes HB.out⟩⟩
     replace c19 := Bool.eq_false_iff.mpr c19; subst c19; replace H := inn H
     have H' := am H; clear H
     go_wp2
     go_meet
     case rel => exact ⟨_, (x8_12), cd, H', ⟨by have := HJ7.out; have := HJ12.out; have := HJ14.out; first | omega | exact Nat.le_refl _⟩, ⟨by exact bes HB.out⟩⟩
    clear HC18
    try clear c1
    try clear p1
    try clear q1
    try clear hx1
    try clear p2
    try clear c3
    try clear c5
    try clear c6
    try clear c6b0
    try clear c7
    try clear c7b0
    try clear c11
    try clear c11b0
    try clear c11b1
    try clear c12
    try clear c12b0
    try clear c12b1
    try clear p12
    try clear q12
    try clear hx12
    try clear c14
    try clear c16
    try clear c16b0
    try clear c16b1
    try clear c17
    try clear c17b0
    try clear c17b1
    try clear c19
    try clear hx122_0
    try clear p1
    try clear p12
    try clear p122
    try clear p2
    try clear q1
    try clear q12
    try clear q122
    obtain ⟨kq, x8_17, rfl, HA, HJ17, HB⟩ := hcut
    cases kq with
    | zero => exact absurd HA.out (by simp [newswireref11_below.j3])
    | succ kj17 =>
     have H := HA.out; clear HA; simp only [newswireref11_below.j3] at H
     by_cases c20 : a1 = 1
     ·rw [if_pos c20] at H
      have c20b0 := bT c20
      have c20b1 := nF c20; clear c20; obtain ⟨y123, hy123⟩ : ∃ y_ : List ByteArray, y_ = (([x8_17] : List ByteArray)) := ⟨_, rfl⟩; replace H : (some y123) = some r := by first | (rw [hy123]; with_reducible exact H) | (have H2_ := (Option.bind_some _ _).symm.trans H; rw [hy123]; with_reducible exact H2_) | (have H2_ := (Option.bind_some _ _).symm.trans H; with_reducible exact H2_) | with_reducible exact H | (rw [hy123]; exact H) | exact H
      have Ny123 := am hy123; clear hy123; obtain rfl := Option.some.inj H
      go_wp2_with (first | ((with_reducible refine gate_dst (N := 40) rfl ?_); refine Kd.R_lit Kd.string _ 9 ?hg (N := 40) ?hd (xs := ([x8_17] : List ByteArray)) (inner := [.string x8_17]) (ok := fun _ => True) (okp := fun _ => True) ?hr ?hp (fun _ hk => hk) trivial (Below.refl _ _) (Nat.le_refl _) (by simp) ?_; (case hd => rfl); (case hg => rfl); (case hr => first | (go_simp; done) | (go_simp; rfl)); (case hp => exact (Reps.one (show Kd.M Kd.string _ _ _ x8_17 [.string x8_17] from rfl) (Reps.none _ _))); intro v124 w21 ho22 hb hg_ hnew_; clear hg_ hnew_; (first | rw [← Ny123.out] at ho22 | (simp only [Int.reduceToNat] at ho22; rw [← Ny123.out] at ho22)); have HO125 := am (Kd.R_lower ho22 (below_size (bes HB.out))); replace HB := bsp HB hb; clear hb ho22))
      go_ret
      exact ⟨_, by first | rfl | (simp [errW_none, errW_some] <;> rfl) | (simp only [← hji5]; first | rfl | (simp [errW_none, errW_some] <;> rfl)) | (simp [*, errW_none, errW_some] <;> rfl), by exact R_st HO125.out, by exact bes HB.out⟩
     rw [if_neg c20] at H
     have c20b0 := bF c20
     have c20b1 := nT c20
     by_cases c23 : a1 < 20
     ·rw [if_pos c23] at H
      have c23b0 := dT c23; clear c23; replace H := bm H; obtain ⟨t126, A24, H⟩ := H; replace A24 := am A24
      by_cases c25 : 0 ≤ a1; rotate_left
      ·rw [if_neg c25] at H
       exact absurd H (by simp)
      rw [if_pos c25] at H
      have c25b0 := dT c25; clear c25
      by_cases c26 : a1 < (t126.length : Int)
      ·rw [if_pos c26] at H
       have c26b0 := dT c26; clear c26; obtain ⟨y130, hy130⟩ : ∃ y_ : List ByteArray, y_ = (([rdOf ByteArray.empty t126 a1] : List ByteArray)) := ⟨_, rfl⟩; replace H : (some y130) = some r := by first | (rw [hy130]; with_reducible exact H) | (have H2_ := (Option.bind_some _ _).symm.trans H; rw [hy130]; with_reducible exact H2_) | (have H2_ := (Option.bind_some _ _).symm.trans H; with_reducible exact H2_) | with_reducible exact H | (rw [hy130]; exact H) | exact H
       have Ny130 := am hy130; clear hy130; obtain rfl := Option.some.inj H
       go_wp2_with (first | ((with_reducible refine gate_callee (f := 32) rfl ?_); refine gL (some 45) rfl rfl Tryd.func32 #[.int .i64 a0] ?_; (refine (newswireref11_units.calls a0 t126 _ A24.out).mono ?_); rintro e w27 ⟨v127, rfl, ho0, hb⟩; refine ⟨_, rfl, ?_⟩; have HO128 := am (Kd.R_lower ho0 (below_size (bes HB.out))); replace HB := bsp HB hb; (try clear hb); (try clear ho0); obtain ⟨Ao28, co28, eo28⟩ := Kd.R_slice HO128.out; subst eo28; have p129 : 0 ≤ (a1 : Int) := of_decide_eq_true (by assumption); have q129 : a1 < (t126.length : Int) := of_decide_eq_true (by assumption); obtain ⟨ad129, e129, hx129_0⟩ := Kd.at_string (Kd.R_reads' HO128.out).2.2 a1 p129 q129; cases e129; replace p129 := eq_true p129; replace q129 := eq_true q129) | ((with_reducible refine gate_dst (N := 49) rfl ?_); refine Kd.R_lit Kd.string _ 9 ?hg (N := 49) ?hd (xs := ([rdOf ByteArray.empty t126 a1] : List ByteArray)) (inner := [.string (rdOf ByteArray.empty t126 a1)]) (ok := fun _ => True) (okp := fun _ => True) ?hr ?hp (fun _ hk => hk) trivial (Below.refl _ _) (Nat.le_refl _) (by simp) ?_; (case hd => rfl); (case hg => rfl); (case hr => first | (go_simp; done) | (go_simp; rfl)); (case hp => exact (Reps.one (show Kd.M Kd.string _ _ _ (rdOf ByteArray.empty t126 a1) [.string (rdOf ByteArray.empty t126 a1)] from rfl) (Reps.none _ _))); intro v131 w29 ho30 hb hg_ hnew_; clear hg_ hnew_; (first | rw [← Ny130.out] at ho30 | (simp only [Int.reduceToNat] at ho30; rw [← Ny130.out] at ho30)); have HO132 := am (Kd.R_lower (Kd.R_new' ho30 (Kd.R_lt (R_st HO128.out))) (below_size (bes HB.out))); replace HO128 := am (Kd.R_elder' (R_st HO128.out) (Kd.R_base ho30) hb); replace HB := bsp HB hb; clear hb ho30))
       go_ret
       exact ⟨_, by first | rfl | (simp [errW_none, errW_some] <;> rfl) | (simp only [← hji5]; first | rfl | (simp [errW_none, errW_some] <;> rfl)) | (simp [*, errW_none, errW_some] <;> rfl), by exact R_st (Kd.R_mono HO132.out (fun _ hk => trivial)), by exact bes HB.out⟩
      rw [if_neg c26] at H
      exact absurd H (by simp)
     rw [if_neg c23] at H
     have c23b0 := dF c23; clear c23
     by_cases c31 : ji5 = 0
     ·rw [if_pos c31] at H
      have c31b0 := bT c31
      have c31b1 := nF c31; clear c31; replace H := bm H; obtain ⟨t133, A32, H⟩ := H; replace A32 := am A32; obtain ⟨ji33, hji33⟩ : ∃ j_ : Int, (wrap64 (Int.tdiv a1 10)) = j_ := ⟨_, rfl⟩; replace H : (if 0 ≤ (ji33) then (if (ji33) < (t133.length : Int) then (some (([rdOf ByteArray.empty t133 (ji33)] : List ByteArray))) else (none)) else (none)) = some r := by first | (rw [hji33] at H; exact H) | (simp only [hji33] at H ⊢; exact H)
      (try rw [hji33] at A32)
      have hji33w : (IntKind.i64.wrap (Int.tdiv a1 10)) = ji33 := (i64_w _).trans hji33
      by_cases c34 : 0 ≤ (ji33); rotate_left
      ·rw [if_neg c34] at H
       exact absurd H (by simp)
      rw [if_pos c34] at H
      have c34b0 := dT c34; clear c34
      by_cases c35 : (ji33) < (t133.length : Int)
      ·rw [if_pos c35] at H
       have c35b0 := dT c35; clear c35; obtain ⟨y137, hy137⟩ : ∃ y_ : List ByteArray, y_ = (([rdOf ByteArray.empty t133 (ji33)] : List ByteArray)) := ⟨_, rfl⟩; replace H : (some y137) = some r := by first | (rw [hy137]; with_reducible exact H) | (have H2_ := (Option.bind_some _ _).symm.trans H; rw [hy137]; with_reducible exact H2_) | (have H2_ := (Option.bind_some _ _).symm.trans H; with_reducible exact H2_) | with_reducible exact H | (rw [hy137]; exact H) | exact H
       have Ny137 := am hy137; clear hy137; obtain rfl := Option.some.inj H
       go_wp2_with (first | ((with_reducible refine gate_callee (f := 78) rfl ?_); refine gL (some 54) rfl rfl Tryd.func78 #[.int .i64 a0] ?_; (refine (newswireref11_tens.calls a0 t133 _ A32.out).mono ?_); rintro e w36 ⟨v134, rfl, ho0, hb⟩; refine ⟨_, rfl, ?_⟩; have HO135 := am (Kd.R_lower ho0 (below_size (bes HB.out))); replace HB := bsp HB hb; (try clear hb); (try clear ho0); obtain ⟨Ao37, co37, eo37⟩ := Kd.R_slice HO135.out; subst eo37; have p136 : 0 ≤ ((ji33) : Int) := of_decide_eq_true (by assumption); have q136 : (ji33) < (t133.length : Int) := of_decide_eq_true (by assumption); obtain ⟨ad136, e136, hx136_0⟩ := Kd.at_string (Kd.R_reads' HO135.out).2.2 (ji33) p136 q136; cases e136; replace p136 := eq_true p136; replace q136 := eq_true q136) | ((with_reducible refine gate_dst (N := 59) rfl ?_); refine Kd.R_lit Kd.string _ 9 ?hg (N := 59) ?hd (xs := ([rdOf ByteArray.empty t133 (ji33)] : List ByteArray)) (inner := [.string (rdOf ByteArray.empty t133 (ji33))]) (ok := fun _ => True) (okp := fun _ => True) ?hr ?hp (fun _ hk => hk) trivial (Below.refl _ _) (Nat.le_refl _) (by simp) ?_; (case hd => rfl); (case hg => rfl); (case hr => first | (go_simp; done) | (go_simp; rfl)); (case hp => exact (Reps.one (show Kd.M Kd.string _ _ _ (rdOf ByteArray.empty t133 (ji33)) [.string (rdOf ByteArray.empty t133 (ji33))] from rfl) (Reps.none _ _))); intro v138 w38 ho39 hb hg_ hnew_; clear hg_ hnew_; (first | rw [← Ny137.out] at ho39 | (simp only [Int.reduceToNat] at ho39; rw [← Ny137.out] at ho39)); have HO139 := am (Kd.R_lower (Kd.R_new' ho39 (Kd.R_lt (R_st HO135.out))) (below_size (bes HB.out))); replace HO135 := am (Kd.R_elder' (R_st HO135.out) (Kd.R_base ho39) hb); replace HB := bsp HB hb; clear hb ho39))
       go_ret
       exact ⟨_, by first | rfl | (simp [errW_none, errW_some] <;> rfl) | (simp only [← hji5, ← hji33]; first | rfl | (simp [errW_none, errW_some] <;> rfl)) | (simp [*, errW_none, errW_some] <;> rfl), by exact R_st (Kd.R_mono HO139.out (fun _ hk => trivial)), by exact bes HB.out⟩
      rw [if_neg c35] at H
      exact absurd H (by simp)
     rw [if_neg c31] at H
     have c31b0 := bF c31
     have c31b1 := nT c31
     by_cases c40 : a0 = 2
     ·rw [if_pos c40] at H
      have c40b0 := bT c40
      have c40b1 := nF c40; clear c40; have HC41 := am H; clear H
      go_upto_if 64 with (fail)
      go_cut [8] (fun v8 wc => ∃ (kq : Nat) (x8_40 : ByteArray), v8 = .string x8_40 ∧ Aside0 (newswireref11_below.j4 kq a0 a1 x8_40 = some r) ∧ Aside0 (kq ≤ kj17) ∧ Aside0 (Below w.heap.size w wc))
      case first =>
       have H := HC41.out; clear HC41
       by_cases c42 : ji5 = 1
       ·rw [if_pos c42] at H
        have c42b0 := bT c42
        have c42b1 := nF c42; clear c42
        (first | rw [c42b0] | (simp only [i64_w, i32_w]; rw [c42b0]) | skip)
        have H' := am H; clear H
        go_wp2
        go_meet
        case rel => exact ⟨_, ((B_ #[101,105,110])), cd, H', ⟨by have := HJ7.out; have := HJ12.out; have := HJ14.out; have := HJ17.out; first | omega | exact Nat.le_refl _⟩, ⟨by exact bes HB.out⟩⟩
       rw [if_neg c42] at H
       have c42b0 := bF c42
       have c42b1 := nT c42
       (first | rw [c42b0] | (simp only [i64_w, i32_w]; rw [c42b0]) | skip)
       have H' := am H; clear H
       go_wp2
       go_meet
       case rel => exact ⟨_, (x8_17), cd, H', ⟨by have := HJ7.out; have := HJ12.out; have := HJ14.out; have := HJ17.out; first | omega | exact Nat.le_refl _⟩, ⟨by exact bes HB.out⟩⟩
      clear HC41
      try clear c1
      try clear p1
      try clear q1
      try clear hx1
      try clear c2
      try clear p2
      try clear c3
      try clear c4
      try clear c5
      try clear c6
      try clear c6b0
      try clear p6
      try clear c7
      try clear c7b0
      try clear c11
      try clear c11b0
      try clear c11b1
      try clear c12
      try clear c12b0
      try clear c12b1
      try clear p12
      try clear q12
      try clear hx12
      try clear p13
      try clear q13
      try clear hx13
      try clear c14
      try clear c16
      try clear c16b0
      try clear c16b1
      try clear c17
      try clear c17b0
      try clear c17b1
      try clear c19
      try clear c20
      try clear c20b0
      try clear c20b1
      try clear c23
      try clear c23b0
      try clear c25
      try clear c25b0
      try clear c26
      try clear c26b0
      try clear c31
      try clear c31b0
      try clear c31b1
      try clear c32
      try clear c34
      try clear c34b0
      try clear c35
      try clear c35b0
      try clear c40
      try clear c40b0
      try clear c40b1
      try clear c42
      try clear c42b0
      try clear c42b1
      try clear hx122_0
      try clear hx129_0
      try clear hx136_0
      try clear p1
      try clear p12
      try clear p122
      try clear p129
      try clear p136
      try clear p2
      try clear q1
      try clear q12
      try clear q122
      try clear q129
      try clear q136
      obtain ⟨kq, x8_40, rfl, HA, HJ40, HB⟩ := hcut
      cases kq with
      | zero => exact absurd HA.out (by simp [newswireref11_below.j4])
      | succ kj40 =>
       have H := HA.out; clear HA; simp only [newswireref11_below.j4] at H
       by_cases c43 : x8_40.size + 3 ≤ 9223372036854775807; rotate_left
       ·rw [if_neg c43] at H
        exact absurd H (by simp)
       rw [if_pos c43] at H; have c43b0 := eq_true c43
       have c43b1 := dT c43
       try have c43b2 := eF c43
       replace H := bm H; obtain ⟨t140, A44, H⟩ := H; replace A44 := am A44; obtain ⟨ji45, hji45⟩ : ∃ j_ : Int, (wrap64 (Int.tdiv a1 10)) = j_ := ⟨_, rfl⟩; replace H : (if 0 ≤ (ji45) then (if (ji45) < (t140.length : Int) then (if (x8_40 ++ (B_ #[117,110,100])).size + (rdOf ByteArray.empty t140 (ji45)).size ≤ 9223372036854775807 then (some (([(x8_40 ++ (B_ #[117,110,100])) ++ (rdOf ByteArray.empty t140 (ji45))] : List ByteArray))) else (none)) else (none)) else (none)) = some r := by first | (rw [hji45] at H; exact H) | (simp only [hji45] at H ⊢; exact H)
       (try rw [hji45] at A44)
       have hji45w : (IntKind.i64.wrap (Int.tdiv a1 10)) = ji45 := (i64_w _).trans hji45
       by_cases c46 : 0 ≤ (ji45); rotate_left
       ·rw [if_neg c46] at H
        exact absurd H (by simp)
       rw [if_pos c46] at H
       have c46b0 := dT c46; clear c46
       by_cases c47 : (ji45) < (t140.length : Int); rotate_left
       ·rw [if_neg c47] at H
        exact absurd H (by simp)
       rw [if_pos c47] at H
       have c47b0 := dT c47; clear c47
       by_cases c48 : (x8_40 ++ (B_ #[117,110,100])).size + (rdOf ByteArray.empty t140 (ji45)).size ≤ 9223372036854775807; rotate_left
       ·rw [if_neg c48] at H
        exact absurd H (by simp)
       rw [if_pos c48] at H; have c48b0 := eq_true c48
       have c48b1 := dT c48
       try have c48b2 := eF c48
       have c48n : x8_40.size + 3 + (rdOf ByteArray.empty t140 (ji45)).size ≤ 9223372036854775807 := by have h_ := c48; (try simp only [ByteArray.size_append] at h_); first | exact h_ | omega
       have c48n0 := eq_true c48n; have c48n1 := decide_eq_true c48n; have c48n2 := eq_false (Nat.not_lt.2 c48n); obtain ⟨y144, hy144⟩ : ∃ y_ : List ByteArray, y_ = (([(x8_40 ++ (B_ #[117,110,100])) ++ (rdOf ByteArray.empty t140 (ji45))] : List ByteArray)) := ⟨_, rfl⟩; replace H : (some y144) = some r := by first | (rw [hy144]; with_reducible exact H) | (have H2_ := (Option.bind_some _ _).symm.trans H; rw [hy144]; with_reducible exact H2_) | (have H2_ := (Option.bind_some _ _).symm.trans H; with_reducible exact H2_) | with_reducible exact H | (rw [hy144]; exact H) | exact H
       have Ny144 := am hy144; clear hy144; obtain rfl := Option.some.inj H
       go_wp2_with (first | ((with_reducible refine gate_callee (f := 78) rfl ?_); refine gL (some 68) rfl rfl Tryd.func78 #[.int .i64 a0] ?_; (refine (newswireref11_tens.calls a0 t140 _ A44.out).mono ?_); rintro e w49 ⟨v141, rfl, ho0, hb⟩; refine ⟨_, rfl, ?_⟩; have HO142 := am (Kd.R_lower ho0 (below_size (bes HB.out))); replace HB := bsp HB hb; (try clear hb); (try clear ho0); obtain ⟨Ao50, co50, eo50⟩ := Kd.R_slice HO142.out; subst eo50; have p143 : 0 ≤ ((ji45) : Int) := of_decide_eq_true (by assumption); have q143 : (ji45) < (t140.length : Int) := of_decide_eq_true (by assumption); obtain ⟨ad143, e143, hx143_0⟩ := Kd.at_string (Kd.R_reads' HO142.out).2.2 (ji45) p143 q143; cases e143; replace p143 := eq_true p143; replace q143 := eq_true q143) | ((with_reducible refine gate_dst (N := 74) rfl ?_); refine Kd.R_lit Kd.string _ 9 ?hg (N := 74) ?hd (xs := ([(x8_40 ++ (B_ #[117,110,100])) ++ (rdOf ByteArray.empty t140 (ji45))] : List ByteArray)) (inner := [.string ((x8_40 ++ (B_ #[117,110,100])) ++ (rdOf ByteArray.empty t140 (ji45)))]) (ok := fun _ => True) (okp := fun _ => True) ?hr ?hp (fun _ hk => hk) trivial (Below.refl _ _) (Nat.le_refl _) (by simp) ?_; (case hd => rfl); (case hg => rfl); (case hr => first | (go_simp; done) | (go_simp; rfl)); (case hp => exact (Reps.one (show Kd.M Kd.string _ _ _ ((x8_40 ++ (B_ #[117,110,100])) ++ (rdOf ByteArray.empty t140 (ji45))) [.string ((x8_40 ++ (B_ #[117,110,100])) ++ (rdOf ByteArray.empty t140 (ji45)))] from rfl) (Reps.none _ _))); intro v145 w51 ho52 hb hg_ hnew_; clear hg_ hnew_; (first | rw [← Ny144.out] at ho52 | (simp only [Int.reduceToNat] at ho52; rw [← Ny144.out] at ho52)); have HO146 := am (Kd.R_lower (Kd.R_new' ho52 (Kd.R_lt (R_st HO142.out))) (below_size (bes HB.out))); replace HO142 := am (Kd.R_elder' (R_st HO142.out) (Kd.R_base ho52) hb); replace HB := bsp HB hb; clear hb ho52))
       go_ret
       exact ⟨_, by first | rfl | (simp [errW_none, errW_some] <;> rfl) | (simp only [← hji5, ← hji45]; first | rfl | (simp [errW_none, errW_some] <;> rfl)) | (simp [*, errW_none, errW_some] <;> rfl), by exact R_st (Kd.R_mono HO146.out (fun _ hk => trivial)), by exact bes HB.out⟩
     rw [if_neg c40] at H
     have c40b0 := bF c40
     have c40b1 := nT c40; have HC53 := am H; clear H
     go_upto_region 17 with (fail)
     go_cut [75] (fun v75 wc => ∃ (kq : Nat) (x75_52 : Bool), v75 = .bool x75_52 ∧ Aside0 (newswireref11_below.j5 kq a0 a1 x8_17 x75_52 = some r) ∧ Aside0 (kq ≤ kj17) ∧ Aside0 (Below w.heap.size w wc))
     case first =>
      have H := HC53.out; clear HC53
      by_cases c54 : a0 = 3
      ·rw [if_pos c54] at H
       have c54b0 := bT c54
       have c54b1 := nF c54; clear c54
       (first | rw [c54b0] | (simp only [i64_w, i32_w]; rw [c54b0]) | skip)
       have H' := am H; clear H
       go_wp2
       go_meet
       case rel => exact ⟨_, (decide (a1 < 30)), cd, H', ⟨by have := HJ7.out; have := HJ12.out; have := HJ14.out; have := HJ17.out; first | omega | exact Nat.le_refl _⟩, ⟨by exact bes HB.out⟩⟩
      rw [if_neg c54] at H
      have c54b0 := bF c54
      have c54b1 := nT c54
      (first | rw [c54b0] | (simp only [i64_w, i32_w]; rw [c54b0]) | skip)
      have H' := am H; clear H
      go_wp2
      go_meet
      case rel => exact ⟨_, (false), cd, H', ⟨by have := HJ7.out; have := HJ12.out; have := HJ14.out; have := HJ17.out; first | omega | exact Nat.le_refl _⟩, ⟨by exact bes HB.out⟩⟩
     clear HC53
     try clear c1
     try clear p1
     try clear q1
     try clear hx1
     try clear c2
     try clear p2
     try clear c3
     try clear c4
     try clear c5
     try clear c6
     try clear c6b0
     try clear p6
     try clear c7
     try clear c7b0
     try clear c11
     try clear c11b0
     try clear c11b1
     try clear c12
     try clear c12b0
     try clear c12b1
     try clear p12
     try clear q12
     try clear hx12
     try clear p13
     try clear q13
     try clear hx13
     try clear c14
     try clear p14
     try clear q14
     try clear hx14
     try clear c16
     try clear c16b0
     try clear c16b1
     try clear c17
     try clear c17b0
     try clear c17b1
     try clear c19
     try clear c20
     try clear c20b0
     try clear c20b1
     try clear c23
     try clear c23b0
     try clear c25
     try clear c25b0
     try clear c26
     try clear c26b0
     try clear c31
     try clear c31b0
     try clear c31b1
     try clear c32
     try clear c34
     try clear c34b0
     try clear c35
     try clear c35b0
     try clear c40
     try clear c40b0
     try clear c40b1
     try clear c42
     try clear c42b0
     try clear c42b1
     try clear c43
     try clear c43b0
     try clear c43b1
     try clear c43b2
     try clear c46
     try clear c46b0
     try clear c47
     try clear c47b0
     try clear c48
     try clear c48b0
     try clear c48b1
     try clear c48b2
     try clear c54
     try clear c54b0
     try clear c54b1
     try clear hx122_0
     try clear hx129_0
     try clear hx136_0
     try clear hx143_0
     try clear p1
     try clear p12
     try clear p122
     try clear p129
     try clear p13
     try clear p136
     try clear p143
     try clear p2
     try clear p6
     try clear q1
     try clear q12
     try clear q122
     try clear q129
     try clear q13
     try clear q136
     try clear q143
     obtain ⟨kq, x75_52, rfl, HA, HJ52, HB⟩ := hcut
     cases kq with
     | zero => exact absurd HA.out (by simp [newswireref11_below.j5])
     | succ kj52 =>
      have H := HA.out; clear HA; simp only [newswireref11_below.j5] at H
      by_cases c55 : x75_52 = true
      ·subst c55
       replace H := ip H
       by_cases c56 : 6 + x8_17.size ≤ 9223372036854775807
       ·rw [if_pos c56] at H
        have c56b0 := eq_true c56
        have c56b1 := dT c56
        try have c56b2 := eF c56
        obtain ⟨y147, hy147⟩ : ∃ y_ : List ByteArray, y_ = (([(B_ #[118,101,105,110,116,105]) ++ x8_17] : List ByteArray)) := ⟨_, rfl⟩; replace H : (some y147) = some r := by first | (rw [hy147]; with_reducible exact H) | (have H2_ := (Option.bind_some _ _).symm.trans H; rw [hy147]; with_reducible exact H2_) | (have H2_ := (Option.bind_some _ _).symm.trans H; with_reducible exact H2_) | with_reducible exact H | (rw [hy147]; exact H) | exact H
        have Ny147 := am hy147; clear hy147; obtain rfl := Option.some.inj H
        go_wp2_with (first | ((with_reducible refine gate_dst (N := 84) rfl ?_); refine Kd.R_lit Kd.string _ 9 ?hg (N := 84) ?hd (xs := ([(B_ #[118,101,105,110,116,105]) ++ x8_17] : List ByteArray)) (inner := [.string ((B_ #[118,101,105,110,116,105]) ++ x8_17)]) (ok := fun _ => True) (okp := fun _ => True) ?hr ?hp (fun _ hk => hk) trivial (Below.refl _ _) (Nat.le_refl _) (by simp) ?_; (case hd => rfl); (case hg => rfl); (case hr => first | (go_simp; done) | (go_simp; rfl)); (case hp => exact (Reps.one (show Kd.M Kd.string _ _ _ ((B_ #[118,101,105,110,116,105]) ++ x8_17) [.string ((B_ #[118,101,105,110,116,105]) ++ x8_17)] from rfl) (Reps.none _ _))); intro v148 w57 ho58 hb hg_ hnew_; clear hg_ hnew_; (first | rw [← Ny147.out] at ho58 | (simp only [Int.reduceToNat] at ho58; rw [← Ny147.out] at ho58)); have HO149 := am (Kd.R_lower ho58 (below_size (bes HB.out))); replace HB := bsp HB hb; clear hb ho58))
        go_ret
        exact ⟨_, by first | rfl | (simp [errW_none, errW_some] <;> rfl) | (simp only [← hji5]; first | rfl | (simp [errW_none, errW_some] <;> rfl)) | (simp [*, errW_none, errW_some] <;> rfl), by exact R_st HO149.out, by exact bes HB.out⟩
       rw [if_neg c56] at H
       exact absurd H (by simp)
      replace c55 := Bool.eq_false_iff.mpr c55; subst c55; replace H := inn H
      by_cases c59 : a0 = 3
      ·rw [if_pos c59] at H
       have c59b0 := bT c59
       have c59b1 := nF c59; clear c59; replace H := bm H; obtain ⟨t150, A60, H⟩ := H; replace A60 := am A60; obtain ⟨ji61, hji61⟩ : ∃ j_ : Int, (wrap64 (Int.tdiv a1 10)) = j_ := ⟨_, rfl⟩; replace H : (if 0 ≤ (ji61) then (if (ji61) < (t150.length : Int) then (some (([rdOf ByteArray.empty t150 (ji61), (B_ #[121]), x8_17] : List ByteArray))) else (none)) else (none)) = some r := by first | (rw [hji61] at H; exact H) | (simp only [hji61] at H ⊢; exact H)
       (try rw [hji61] at A60)
       have hji61w : (IntKind.i64.wrap (Int.tdiv a1 10)) = ji61 := (i64_w _).trans hji61
       by_cases c62 : 0 ≤ (ji61); rotate_left
       ·rw [if_neg c62] at H
        exact absurd H (by simp)
       rw [if_pos c62] at H
       have c62b0 := dT c62; clear c62
       by_cases c63 : (ji61) < (t150.length : Int)
       ·rw [if_pos c63] at H
        have c63b0 := dT c63; clear c63; obtain ⟨y154, hy154⟩ : ∃ y_ : List ByteArray, y_ = (([rdOf ByteArray.empty t150 (ji61), (B_ #[121]), x8_17] : List ByteArray)) := ⟨_, rfl⟩; replace H : (some y154) = some r := by first | (rw [hy154]; with_reducible exact H) | (have H2_ := (Option.bind_some _ _).symm.trans H; rw [hy154]; with_reducible exact H2_) | (have H2_ := (Option.bind_some _ _).symm.trans H; with_reducible exact H2_) | with_reducible exact H | (rw [hy154]; exact H) | exact H
        have Ny154 := am hy154; clear hy154; obtain rfl := Option.some.inj H
        go_wp2_with (first | ((with_reducible refine gate_callee (f := 78) rfl ?_); refine gL (some 89) rfl rfl Tryd.func78 #[.int .i64 a0] ?_; (refine (newswireref11_tens.calls a0 t150 _ A60.out).mono ?_); rintro e w64 ⟨v151, rfl, ho0, hb⟩; refine ⟨_, rfl, ?_⟩; have HO152 := am (Kd.R_lower ho0 (below_size (bes HB.out))); replace HB := bsp HB hb; (try clear hb); (try clear ho0); obtain ⟨Ao65, co65, eo65⟩ := Kd.R_slice HO152.out; subst eo65; have p153 : 0 ≤ ((ji61) : Int) := of_decide_eq_true (by assumption); have q153 : (ji61) < (t150.length : Int) := of_decide_eq_true (by assumption); obtain ⟨ad153, e153, hx153_0⟩ := Kd.at_string (Kd.R_reads' HO152.out).2.2 (ji61) p153 q153; cases e153; replace p153 := eq_true p153; replace q153 := eq_true q153) | ((with_reducible refine gate_dst (N := 95) rfl ?_); refine Kd.R_lit Kd.string _ 9 ?hg (N := 95) ?hd (xs := ([rdOf ByteArray.empty t150 (ji61), (B_ #[121]), x8_17] : List ByteArray)) (inner := [.string (rdOf ByteArray.empty t150 (ji61)), .string (B_ #[121]), .string x8_17]) (ok := fun _ => True) (okp := fun _ => True) ?hr ?hp (fun _ hk => hk) trivial (Below.refl _ _) (Nat.le_refl _) (by simp) ?_; (case hd => rfl); (case hg => rfl); (case hr => first | (go_simp; done) | (go_simp; rfl)); (case hp => exact (Reps.one (show Kd.M Kd.string _ _ _ (rdOf ByteArray.empty t150 (ji61)) [.string (rdOf ByteArray.empty t150 (ji61))] from rfl) (Reps.one (show Kd.M Kd.string _ _ _ (B_ #[121]) [.string (B_ #[121])] from rfl) (Reps.one (show Kd.M Kd.string _ _ _ x8_17 [.string x8_17] from rfl) (Reps.none _ _))))); intro v155 w66 ho67 hb hg_ hnew_; clear hg_ hnew_; (first | rw [← Ny154.out] at ho67 | (simp only [Int.reduceToNat] at ho67; rw [← Ny154.out] at ho67)); have HO156 := am (Kd.R_lower (Kd.R_new' ho67 (Kd.R_lt (R_st HO152.out))) (below_size (bes HB.out))); replace HO152 := am (Kd.R_elder' (R_st HO152.out) (Kd.R_base ho67) hb); replace HB := bsp HB hb; clear hb ho67))
        go_ret
        exact ⟨_, by first | rfl | (simp [errW_none, errW_some] <;> rfl) | (simp only [← hji5, ← hji61]; first | rfl | (simp [errW_none, errW_some] <;> rfl)) | (simp [*, errW_none, errW_some] <;> rfl), by exact R_st (Kd.R_mono HO156.out (fun _ hk => trivial)), by exact bes HB.out⟩
       rw [if_neg c63] at H
       exact absurd H (by simp)
      rw [if_neg c59] at H
      have c59b0 := bF c59
      have c59b1 := nT c59; replace H := bm H; obtain ⟨t157, A68, H⟩ := H; replace A68 := am A68; obtain ⟨ji69, hji69⟩ : ∃ j_ : Int, (wrap64 (Int.tdiv a1 10)) = j_ := ⟨_, rfl⟩; replace H : (if 0 ≤ (ji69) then (if (ji69) < (t157.length : Int) then (if (rdOf ByteArray.empty t157 (ji69)).size + 1 ≤ 9223372036854775807 then (if ((rdOf ByteArray.empty t157 (ji69)) ++ (B_ #[45])).size + x8_17.size ≤ 9223372036854775807 then (some (([((rdOf ByteArray.empty t157 (ji69)) ++ (B_ #[45])) ++ x8_17] : List ByteArray))) else (none)) else (none)) else (none)) else (none)) = some r := by first | (rw [hji69] at H; exact H) | (simp only [hji69] at H ⊢; exact H)
      (try rw [hji69] at A68)
      have hji69w : (IntKind.i64.wrap (Int.tdiv a1 10)) = ji69 := (i64_w _).trans hji69
      by_cases c70 : 0 ≤ (ji69); rotate_left
      ·rw [if_neg c70] at H
       exact absurd H (by simp)
      rw [if_pos c70] at H
      have c70b0 := dT c70; clear c70
      by_cases c71 : (ji69) < (t157.length : Int); rotate_left
      ·rw [if_neg c71] at H
       exact absurd H (by simp)
      rw [if_pos c71] at H
      have c71b0 := dT c71; clear c71
      by_cases c72 : (rdOf ByteArray.empty t157 (ji69)).size + 1 ≤ 9223372036854775807; rotate_left
      ·rw [if_neg c72] at H
       exact absurd H (by simp)
      rw [if_pos c72] at H; have c72b0 := eq_true c72
      have c72b1 := dT c72
      try have c72b2 := eF c72
      by_cases c73 : ((rdOf ByteArray.empty t157 (ji69)) ++ (B_ #[45])).size + x8_17.size ≤ 9223372036854775807; rotate_left
      ·rw [if_neg c73] at H
       exact absurd H (by simp)
      rw [if_pos c73] at H; have c73b0 := eq_true c73
      have c73b1 := dT c73
      try have c73b2 := eF c73
      have c73n : (rdOf ByteArray.empty t157 (ji69)).size + 1 + x8_17.size ≤ 9223372036854775807 := by have h_ := c73; (try simp only [ByteArray.size_append] at h_); first | exact h_ | omega
      have c73n0 := eq_true c73n; have c73n1 := decide_eq_true c73n; have c73n2 := eq_false (Nat.not_lt.2 c73n); obtain ⟨y161, hy161⟩ : ∃ y_ : List ByteArray, y_ = (([((rdOf ByteArray.empty t157 (ji69)) ++ (B_ #[45])) ++ x8_17] : List ByteArray)) := ⟨_, rfl⟩; replace H : (some y161) = some r := by first | (rw [hy161]; with_reducible exact H) | (have H2_ := (Option.bind_some _ _).symm.trans H; rw [hy161]; with_reducible exact H2_) | (have H2_ := (Option.bind_some _ _).symm.trans H; with_reducible exact H2_) | with_reducible exact H | (rw [hy161]; exact H) | exact H
      have Ny161 := am hy161; clear hy161; obtain rfl := Option.some.inj H
      go_wp2_with (first | ((with_reducible refine gate_callee (f := 78) rfl ?_); refine gL (some 97) rfl rfl Tryd.func78 #[.int .i64 a0] ?_; (refine (newswireref11_tens.calls a0 t157 _ A68.out).mono ?_); rintro e w74 ⟨v158, rfl, ho0, hb⟩; refine ⟨_, rfl, ?_⟩; have HO159 := am (Kd.R_lower ho0 (below_size (bes HB.out))); replace HB := bsp HB hb; (try clear hb); (try clear ho0); obtain ⟨Ao75, co75, eo75⟩ := Kd.R_slice HO159.out; subst eo75; have p160 : 0 ≤ ((ji69) : Int) := of_decide_eq_true (by assumption); have q160 : (ji69) < (t157.length : Int) := of_decide_eq_true (by assumption); obtain ⟨ad160, e160, hx160_0⟩ := Kd.at_string (Kd.R_reads' HO159.out).2.2 (ji69) p160 q160; cases e160; replace p160 := eq_true p160; replace q160 := eq_true q160) | ((with_reducible refine gate_dst (N := 105) rfl ?_); refine Kd.R_lit Kd.string _ 9 ?hg (N := 105) ?hd (xs := ([((rdOf ByteArray.empty t157 (ji69)) ++ (B_ #[45])) ++ x8_17] : List ByteArray)) (inner := [.string (((rdOf ByteArray.empty t157 (ji69)) ++ (B_ #[45])) ++ x8_17)]) (ok := fun _ => True) (okp := fun _ => True) ?hr ?hp (fun _ hk => hk) trivial (Below.refl _ _) (Nat.le_refl _) (by simp) ?_; (case hd => rfl); (case hg => rfl); (case hr => first | (go_simp; done) | (go_simp; rfl)); (case hp => exact (Reps.one (show Kd.M Kd.string _ _ _ (((rdOf ByteArray.empty t157 (ji69)) ++ (B_ #[45])) ++ x8_17) [.string (((rdOf ByteArray.empty t157 (ji69)) ++ (B_ #[45])) ++ x8_17)] from rfl) (Reps.none _ _))); intro v162 w76 ho77 hb hg_ hnew_; clear hg_ hnew_; (first | rw [← Ny161.out] at ho77 | (simp only [Int.reduceToNat] at ho77; rw [← Ny161.out] at ho77)); have HO163 := am (Kd.R_lower (Kd.R_new' ho77 (Kd.R_lt (R_st HO159.out))) (below_size (bes HB.out))); replace HO159 := am (Kd.R_elder' (R_st HO159.out) (Kd.R_base ho77) hb); replace HB := bsp HB hb; clear hb ho77))
      go_ret
      exact ⟨_, by first | rfl | (simp [errW_none, errW_some] <;> rfl) | (simp only [← hji5, ← hji69]; first | rfl | (simp [errW_none, errW_some] <;> rfl)) | (simp [*, errW_none, errW_some] <;> rfl), by exact R_st (Kd.R_mono HO163.out (fun _ hk => trivial)), by exact bes HB.out⟩

/-! ### newswireref11_hundreds: function 56 -/
def newswireref11_hundreds.f  : Option (List ByteArray) := some (([(B_ #[]), (B_ #[99,105,101,110,116,111]), (B_ #[100,111,115,99,105,101,110,116,111,115]), (B_ #[116,114,101,115,99,105,101,110,116,111,115]), (B_ #[99,117,97,116,114,111,99,105,101,110,116,111,115]), (B_ #[113,117,105,110,105,101,110,116,111,115]), (B_ #[115,101,105,115,99,105,101,110,116,111,115]), (B_ #[115,101,116,101,99,105,101,110,116,111,115]), (B_ #[111,99,104,111,99,105,101,110,116,111,115]), (B_ #[110,111,118,101,99,105,101,110,116,111,115])] : List ByteArray))
theorem newswireref11_hundreds.calls  (r : List ByteArray) (w : World) (h : newswireref11_hundreds.f  = some r) :
  Calls Tryd.prog 56 #[] w fun e w' => ∃ v0_ : Value, e = .returned (v0_) ∧ Kd.R Kd.string 9 w' w.heap.size (fun _ => True) v0_ r ∧ Below w.heap.size w w' := by
 have HB := am (Below.refl w.heap.size w)
 have H := h; clear h; unfold newswireref11_hundreds.f at H; obtain ⟨y164, hy164⟩ : ∃ y_ : List ByteArray, y_ = (([(B_ #[]), (B_ #[99,105,101,110,116,111]), (B_ #[100,111,115,99,105,101,110,116,111,115]), (B_ #[116,114,101,115,99,105,101,110,116,111,115]), (B_ #[99,117,97,116,114,111,99,105,101,110,116,111,115]), (B_ #[113,117,105,110,105,101,110,116,111,115]), (B_ #[115,101,105,115,99,105,101,110,116,111,115]), (B_ #[115,101,116,101,99,105,101,110,116,111,115]), (B_ #[111,99,104,111,99,105,101,110,116,111,115]), (B_ #[110,111,118,101,99,105,101,110,116,111,115])] : List ByteArray)) := ⟨_, rfl⟩; replace H : (some y164) = some r := by first | (rw [hy164]; with_reducible exact H) | (have H2_ := (Option.bind_some _ _).symm.trans H; rw [hy164]; with_reducible exact H2_) | (have H2_ := (Option.bind_some _ _).symm.trans H; with_reducible exact H2_) | with_reducible exact H | (rw [hy164]; exact H) | exact H
 have Ny164 := am hy164; clear hy164; obtain rfl := Option.some.inj H
 go_enter Tryd.func56, Tryd.ntmps56
 go_wp2_with (first | ((with_reducible refine gate_dst (N := 1) rfl ?_); refine Kd.R_lit Kd.string _ 9 ?hg (N := 1) ?hd (xs := ([(B_ #[]), (B_ #[99,105,101,110,116,111]), (B_ #[100,111,115,99,105,101,110,116,111,115]), (B_ #[116,114,101,115,99,105,101,110,116,111,115]), (B_ #[99,117,97,116,114,111,99,105,101,110,116,111,115]), (B_ #[113,117,105,110,105,101,110,116,111,115]), (B_ #[115,101,105,115,99,105,101,110,116,111,115]), (B_ #[115,101,116,101,99,105,101,110,116,111,115]), (B_ #[111,99,104,111,99,105,101,110,116,111,115]), (B_ #[110,111,118,101,99,105,101,110,116,111,115])] : List ByteArray)) (inner := [.string (B_ #[]), .string (B_ #[99,105,101,110,116,111]), .string (B_ #[100,111,115,99,105,101,110,116,111,115]), .string (B_ #[116,114,101,115,99,105,101,110,116,111,115]), .string (B_ #[99,117,97,116,114,111,99,105,101,110,116,111,115]), .string (B_ #[113,117,105,110,105,101,110,116,111,115]), .string (B_ #[115,101,105,115,99,105,101,110,116,111,115]), .string (B_ #[115,101,116,101,99,105,101,110,116,111,115]), .string (B_ #[111,99,104,111,99,105,101,110,116,111,115]), .string (B_ #[110,111,118,101,99,105,101,110,116,111,115])]) (ok := fun _ => True) (okp := fun _ => True) ?hr ?hp (fun _ hk => hk) trivial (Below.refl _ _) (Nat.le_refl _) (by simp) ?_; (case hd => rfl); (case hg => rfl); (case hr => first | (go_simp; done) | (go_simp; rfl)); (case hp => exact (Reps.one (show Kd.M Kd.string _ _ _ (B_ #[]) [.string (B_ #[])] from rfl) (Reps.one (show Kd.M Kd.string _ _ _ (B_ #[99,105,101,110,116,111]) [.string (B_ #[99,105,101,110,116,111])] from rfl) (Reps.one (show Kd.M Kd.string _ _ _ (B_ #[100,111,115,99,105,101,110,116,111,115]) [.string (B_ #[100,111,115,99,105,101,110,116,111,115])] from rfl) (Reps.one (show Kd.M Kd.string _ _ _ (B_ #[116,114,101,115,99,105,101,110,116,111,115]) [.string (B_ #[116,114,101,115,99,105,101,110,116,111,115])] from rfl) (Reps.one (show Kd.M Kd.string _ _ _ (B_ #[99,117,97,116,114,111,99,105,101,110,116,111,115]) [.string (B_ #[99,117,97,116,114,111,99,105,101,110,116,111,115])] from rfl) (Reps.one (show Kd.M Kd.string _ _ _ (B_ #[113,117,105,110,105,101,110,116,111,115]) [.string (B_ #[113,117,105,110,105,101,110,116,111,115])] from rfl) (Reps.one (show Kd.M Kd.string _ _ _ (B_ #[115,101,105,115,99,105,101,110,116,111,115]) [.string (B_ #[115,101,105,115,99,105,101,110,116,111,115])] from rfl) (Reps.one (show Kd.M Kd.string _ _ _ (B_ #[115,101,116,101,99,105,101,110,116,111,115]) [.string (B_ #[115,101,116,101,99,105,101,110,116,111,115])] from rfl) (Reps.one (show Kd.M Kd.string _ _ _ (B_ #[111,99,104,111,99,105,101,110,116,111,115]) [.string (B_ #[111,99,104,111,99,105,101,110,116,111,115])] from rfl) (Reps.one (show Kd.M Kd.string _ _ _ (B_ #[110,111,118,101,99,105,101,110,116,111,115]) [.string (B_ #[110,111,118,101,99,105,101,110,116,111,115])] from rfl) (Reps.none _ _)))))))))))); intro v165 w1 ho2 hb hg_ hnew_; clear hg_ hnew_; (first | rw [← Ny164.out] at ho2 | (simp only [Int.reduceToNat] at ho2; rw [← Ny164.out] at ho2)); have HO166 := am (Kd.R_lower ho2 (below_size (bes HB.out))); replace HB := bsp HB hb; clear hb ho2))
 go_ret
 exact ⟨_, er, by exact R_st HO166.out, by exact bes HB.out⟩

/-! ### newswireref11_small: function 34 -/
def newswireref11_small.j0 : Nat → Int → Int → List ByteArray → Option (List ByteArray)
 | 0, _, _, _ => none
 | k + 1, x0, x1, x7 => if x1 < 100 then (some x7) else (if x0 = 2 then ((newswireref11_below.f k x0 (wrap64 (Int.tdiv x1 100)) false).bind fun t170 => (if 0 < (t170.length : Int) then (if (rdOf ByteArray.empty t170 0).size + 7 ≤ 9223372036854775807 then (if (x7.length : Int) > 0 then (if 0 < (x7.length : Int) then (if ((rdOf ByteArray.empty t170 0) ++ (B_ #[104,117,110,100,101,114,116])).size + (rdOf ByteArray.empty x7 0).size ≤ 9223372036854775807 then (some (([((rdOf ByteArray.empty t170 0) ++ (B_ #[104,117,110,100,101,114,116])) ++ (rdOf ByteArray.empty x7 0)] : List ByteArray))) else (none)) else (none)) else (some (([(rdOf ByteArray.empty t170 0) ++ (B_ #[104,117,110,100,101,114,116])] : List ByteArray)))) else (none)) else (none))) else (if x0 = 3 then (if x1 = 100 then (some (([(B_ #[99,105,101,110])] : List ByteArray))) else ((newswireref11_hundreds.f).bind fun t184 => (if 0 ≤ (wrap64 (Int.tdiv x1 100)) then (if (wrap64 (Int.tdiv x1 100)) < (t184.length : Int) then ((some (([rdOf ByteArray.empty t184 (wrap64 (Int.tdiv x1 100))] : List ByteArray) : List ByteArray)).bind fun y188 => (if y188.length + x7.length < 8796093022208 then (some (y188 ++ x7)) else (none))) else (none)) else (none)))) else ((newswireref11_units.f x0).bind fun t194 => (if 0 ≤ (wrap64 (Int.tdiv x1 100)) then (if (wrap64 (Int.tdiv x1 100)) < (t194.length : Int) then ((some (([rdOf ByteArray.empty t194 (wrap64 (Int.tdiv x1 100)), (B_ #[104,117,110,100,114,101,100])] : List ByteArray) : List ByteArray)).bind fun y198 => (if y198.length + x7.length < 8796093022208 then (some (y198 ++ x7)) else (none))) else (none)) else (none)))))
def newswireref11_small.f (k : Nat) (a0 : Int) (a1 : Int) (a2 : Bool) : Option (List ByteArray) := if (Int.tmod a1 100) > 0 then ((newswireref11_below.f k a0 (Int.tmod a1 100) a2).bind fun t167 => (newswireref11_small.j0 k a0 a1 t167)) else (newswireref11_small.j0 k a0 a1 ([] : List ByteArray))
theorem newswireref11_small.mono_l : ∀ k, (∀ y0 y1 y2, LeO (newswireref11_small.j0 k y0 y1 y2) (newswireref11_small.j0 (k + 1) y0 y1 y2))
 | 0 => fun _ _ _ r h => by simp [newswireref11_small.j0] at h
 | k + 1 => by
  have ih0 := newswireref11_small.mono_l k
  intro y0 y1 y2
  unfold newswireref11_small.j0
  repeat' first
  | (with_reducible exact ih0 _ _ _)
  | (with_reducible exact newswireref11_below.mono _ _ _ _)
  | (with_reducible exact LeO.refl _)
  | (with_reducible exact LeO.none _)
  | (with_reducible refine LeO.ite ?_ ?_)
  | (with_reducible refine LeO.bind ?_ (fun _ => ?_))
theorem newswireref11_small.mono : ∀ a0 a1 a2 k, LeO (newswireref11_small.f k a0 a1 a2) (newswireref11_small.f (k + 1) a0 a1 a2) := by
 intro a0 a1 a2 k; have ih0 := newswireref11_small.mono_l k
 unfold newswireref11_small.f
 repeat' first
   | (with_reducible exact ih0 _ _ _)
   | (with_reducible exact newswireref11_below.mono _ _ _ _)
   | (with_reducible exact LeO.refl _)
   | (with_reducible exact LeO.none _)
   | (with_reducible refine LeO.ite ?_ ?_)
   | (with_reducible refine LeO.bind ?_ (fun _ => ?_))
theorem newswireref11_small.calls (k : Nat) (a0 : Int) (a1 : Int) (a2 : Bool) (r : List ByteArray) (w : World) (h : newswireref11_small.f k a0 a1 a2 = some r) :
  Calls Tryd.prog 34 #[.int .i64 a0, .int .i64 a1, .bool a2] w fun e w' => ∃ v0_ : Value, e = .returned (v0_) ∧ Kd.R Kd.string 9 w' w.heap.size (fun _ => True) v0_ r ∧ Below w.heap.size w w' := by
 have HB := am (Below.refl w.heap.size w)
 have H := h; clear h; unfold newswireref11_small.f at H; have HC4 := am H; clear H
 go_enter Tryd.func34, Tryd.ntmps34
 go_upto_if 11 with (fail)
 go_cut [7] (fun v7 wc => ∃ (kq : Nat) (x7_3 : List ByteArray), Aside0 (newswireref11_small.j0 kq a0 a1 x7_3 = some r) ∧ Aside0 (kq ≤ k) ∧ Aside0 (Kd.R Kd.string 9 wc w.heap.size (fun _ => True) v7 x7_3) ∧ Aside0 (Below w.heap.size w wc))
 case first =>
  have H := HC4.out; clear HC4
  by_cases c5 : (Int.tmod a1 100) > 0
  ·rw [if_pos c5] at H
   have c5b0 := dT c5; clear c5
   (first | rw [c5b0] | (simp only [i64_w, i32_w]; rw [c5b0]) | skip); replace H := bm H; obtain ⟨t167, A6, H⟩ := H; replace A6 := am A6
   have H' := am H; clear H
   go_wp2_with (first | ((with_reducible refine gate_callee (f := 55) rfl ?_); refine gL (some 16) rfl rfl Tryd.func55 #[.int .i64 a0, .int .i64 (Int.tmod a1 100), .bool a2] ?_; (refine (newswireref11_below.calls k a0 (Int.tmod a1 100) a2 t167 _ A6.out).mono ?_); rintro e w7 ⟨v168, rfl, ho0, hb⟩; refine ⟨_, rfl, ?_⟩; have HO169 := am (Kd.R_lower ho0 (below_size (bes HB.out))); replace HB := bsp HB hb; (try clear hb); (try clear ho0)))
   go_meet
   case rel => exact ⟨_, (t167), H', ⟨om⟩, ⟨by exact R_st HO169.out⟩, ⟨by exact bes HB.out⟩⟩
  rw [if_neg c5] at H
  have c5b0 := dF c5; clear c5
  (first | rw [c5b0] | (simp only [i64_w, i32_w]; rw [c5b0]) | skip)
  have H' := am H; clear H
  go_wp2
  go_meet
  case rel => exact ⟨_, (([] : List ByteArray)), H', ⟨om⟩, ⟨nil0⟩, ⟨by exact bes HB.out⟩⟩
 clear HC4
 try clear p2
 try clear c3
 try clear c5
 try clear c5b0
 obtain ⟨kq, x7_3, HA, HJ3, O0, HB⟩ := hcut
 cases kq with
 | zero => exact absurd HA.out (by simp [newswireref11_small.j0])
 | succ kj3 =>
  have H := HA.out; clear HA; simp only [newswireref11_small.j0] at H
  by_cases c8 : a1 < 100
  ·rw [if_pos c8] at H
   have c8b0 := dT c8; clear c8; obtain rfl := Option.some.inj H
   go_wp2
   go_ret
   exact ⟨_, er, by exact R_st O0.out, by exact bes HB.out⟩
  rw [if_neg c8] at H
  have c8b0 := dF c8; clear c8
  by_cases c9 : a0 = 2
  ·rw [if_pos c9] at H
   have c9b0 := bT c9
   have c9b1 := nF c9; clear c9; replace H := bm H; obtain ⟨t170, A10, H⟩ := H; replace A10 := am A10
   by_cases c11 : 0 < (t170.length : Int); rotate_left
   ·rw [if_neg c11] at H
    exact absurd H (by simp)
   rw [if_pos c11] at H
   have c11b0 := dT c11
   have c11b1 : decide (0 < t170.length) = true := decide_eq_true (by omega); clear c11
   by_cases c12 : (rdOf ByteArray.empty t170 0).size + 7 ≤ 9223372036854775807; rotate_left
   ·rw [if_neg c12] at H
    exact absurd H (by simp)
   rw [if_pos c12] at H; have c12b0 := eq_true c12
   have c12b1 := dT c12
   try have c12b2 := eF c12
   by_cases c13 : (x7_3.length : Int) > 0; rotate_left
   ·rw [if_neg c13] at H
    have c13b0 := dF c13
    have c13b1 : decide (0 < x7_3.length) = false := decide_eq_false (by omega); clear c13; obtain ⟨y178, hy178⟩ : ∃ y_ : List ByteArray, y_ = (([(rdOf ByteArray.empty t170 0) ++ (B_ #[104,117,110,100,101,114,116])] : List ByteArray)) := ⟨_, rfl⟩; replace H : (some y178) = some r := by first | (rw [hy178]; with_reducible exact H) | (have H2_ := (Option.bind_some _ _).symm.trans H; rw [hy178]; with_reducible exact H2_) | (have H2_ := (Option.bind_some _ _).symm.trans H; with_reducible exact H2_) | with_reducible exact H | (rw [hy178]; exact H) | exact H
    have Ny178 := am hy178; clear hy178; obtain rfl := Option.some.inj H
    go_wp2_with (first | ((with_reducible refine gate_callee (f := 55) rfl ?_); refine gL (some 26) rfl rfl Tryd.func55 #[.int .i64 a0, .int .i64 (wrap64 (Int.tdiv a1 100)), .bool false] ?_; (refine (newswireref11_below.calls kj3 a0 (wrap64 (Int.tdiv a1 100)) false t170 _ A10.out).mono ?_); rintro e w21 ⟨v171, rfl, ho0, hb⟩; refine ⟨_, rfl, ?_⟩; have HO172 := am (Kd.R_lower (Kd.R_new' ho0 (Kd.R_lt (R_st O0.out))) (below_size (bes HB.out))); replace O0 := am (Kd.R_elder' (R_st O0.out) (Kd.R_base ho0) hb); replace HB := bsp HB hb; (try clear hb); (try clear ho0); obtain ⟨Ao22, co22, eo22⟩ := Kd.R_slice HO172.out; subst eo22; have p173 : 0 ≤ (0 : Int) := (by omega); have q173 : 0 < (t170.length : Int) := of_decide_eq_true (by assumption); obtain ⟨ad173, e173, hx173_0⟩ := Kd.at_string (Kd.R_reads' HO172.out).2.2 0 p173 q173; cases e173; have qi173 : (0 < t170.length) = True := eq_true (by omega); (try rw [show ((0 : Int)).toNat = 0 from rfl] at hx173_0); (try rw [Addr.add_zero'] at hx173_0); replace p173 := eq_true p173; replace q173 := eq_true q173; obtain ⟨Ao23, co23, eo23⟩ := Kd.R_slice O0.out; subst eo23) | ((with_reducible refine gate_dst (N := 39) rfl ?_); refine Kd.R_lit Kd.string _ 9 ?hg (N := 39) ?hd (xs := ([(rdOf ByteArray.empty t170 0) ++ (B_ #[104,117,110,100,101,114,116])] : List ByteArray)) (inner := [.string ((rdOf ByteArray.empty t170 0) ++ (B_ #[104,117,110,100,101,114,116]))]) (ok := fun _ => True) (okp := fun _ => True) ?hr ?hp (fun _ hk => hk) trivial (Below.refl _ _) (Nat.le_refl _) (by simp) ?_; (case hd => rfl); (case hg => rfl); (case hr => first | (go_simp; done) | (go_simp; rfl)); (case hp => exact (Reps.one (show Kd.M Kd.string _ _ _ ((rdOf ByteArray.empty t170 0) ++ (B_ #[104,117,110,100,101,114,116])) [.string ((rdOf ByteArray.empty t170 0) ++ (B_ #[104,117,110,100,101,114,116]))] from rfl) (Reps.none _ _))); intro v179 w24 ho25 hb hg_ hnew_; clear hg_ hnew_; (first | rw [← Ny178.out] at ho25 | (simp only [Int.reduceToNat] at ho25; rw [← Ny178.out] at ho25)); have HO180 := am (Kd.R_lower (Kd.R_new' (Kd.R_new' ho25 (Kd.R_lt (R_st O0.out))) (Kd.R_lt (R_st HO172.out))) (below_size (bes HB.out))); replace O0 := am (Kd.R_elder' (R_st O0.out) (Kd.R_base ho25) hb); replace HO172 := am (Kd.R_elder' (R_st HO172.out) (Kd.R_base ho25) hb); replace HB := bsp HB hb; clear hb ho25))
    go_ret
    exact ⟨_, er, by exact R_st (Kd.R_mono HO180.out (fun _ hk => trivial)), by exact bes HB.out⟩
   rw [if_pos c13] at H
   have c13b0 := dT c13
   have c13b1 : decide (0 < x7_3.length) = true := decide_eq_true (by omega); clear c13
   by_cases c14 : 0 < (x7_3.length : Int); rotate_left
   ·rw [if_neg c14] at H
    exact absurd H (by simp)
   rw [if_pos c14] at H
   have c14b0 := dT c14
   have c14b1 : decide (0 < x7_3.length) = true := decide_eq_true (by omega); clear c14
   by_cases c15 : ((rdOf ByteArray.empty t170 0) ++ (B_ #[104,117,110,100,101,114,116])).size + (rdOf ByteArray.empty x7_3 0).size ≤ 9223372036854775807; rotate_left
   ·rw [if_neg c15] at H
    exact absurd H (by simp)
   rw [if_pos c15] at H; have c15b0 := eq_true c15
   have c15b1 := dT c15
   try have c15b2 := eF c15
   have c15n : (rdOf ByteArray.empty t170 0).size + 7 + (rdOf ByteArray.empty x7_3 0).size ≤ 9223372036854775807 := by have h_ := c15; (try simp only [ByteArray.size_append] at h_); first | exact h_ | omega
   have c15n0 := eq_true c15n; have c15n1 := decide_eq_true c15n; have c15n2 := eq_false (Nat.not_lt.2 c15n); obtain ⟨y175, hy175⟩ : ∃ y_ : List ByteArray, y_ = (([((rdOf ByteArray.empty t170 0) ++ (B_ #[104,117,110,100,101,114,116])) ++ (rdOf ByteArray.empty x7_3 0)] : List ByteArray)) := ⟨_, rfl⟩; replace H : (some y175) = some r := by first | (rw [hy175]; with_reducible exact H) | (have H2_ := (Option.bind_some _ _).symm.trans H; rw [hy175]; with_reducible exact H2_) | (have H2_ := (Option.bind_some _ _).symm.trans H; with_reducible exact H2_) | with_reducible exact H | (rw [hy175]; exact H) | exact H
   have Ny175 := am hy175; clear hy175; obtain rfl := Option.some.inj H
   go_wp2_with (first | ((with_reducible refine gate_callee (f := 55) rfl ?_); refine gL (some 26) rfl rfl Tryd.func55 #[.int .i64 a0, .int .i64 (wrap64 (Int.tdiv a1 100)), .bool false] ?_; (refine (newswireref11_below.calls kj3 a0 (wrap64 (Int.tdiv a1 100)) false t170 _ A10.out).mono ?_); rintro e w16 ⟨v171, rfl, ho0, hb⟩; refine ⟨_, rfl, ?_⟩; have HO172 := am (Kd.R_lower (Kd.R_new' ho0 (Kd.R_lt (R_st O0.out))) (below_size (bes HB.out))); replace O0 := am (Kd.R_elder' (R_st O0.out) (Kd.R_base ho0) hb); replace HB := bsp HB hb; (try clear hb); (try clear ho0); obtain ⟨Ao17, co17, eo17⟩ := Kd.R_slice HO172.out; subst eo17; have p173 : 0 ≤ (0 : Int) := (by omega); have q173 : 0 < (t170.length : Int) := of_decide_eq_true (by assumption); obtain ⟨ad173, e173, hx173_0⟩ := Kd.at_string (Kd.R_reads' HO172.out).2.2 0 p173 q173; cases e173; have qi173 : (0 < t170.length) = True := eq_true (by omega); (try rw [show ((0 : Int)).toNat = 0 from rfl] at hx173_0); (try rw [Addr.add_zero'] at hx173_0); replace p173 := eq_true p173; replace q173 := eq_true q173; obtain ⟨Ao18, co18, eo18⟩ := Kd.R_slice O0.out; subst eo18; have p174 : 0 ≤ (0 : Int) := (by omega); have q174 : 0 < (x7_3.length : Int) := of_decide_eq_true (by assumption); obtain ⟨ad174, e174, hx174_0⟩ := Kd.at_string (Kd.R_reads' O0.out).2.2 0 p174 q174; cases e174; have qi174 : (0 < x7_3.length) = True := eq_true (by omega); (try rw [show ((0 : Int)).toNat = 0 from rfl] at hx174_0); (try rw [Addr.add_zero'] at hx174_0); replace p174 := eq_true p174; replace q174 := eq_true q174) | ((with_reducible refine gate_dst (N := 39) rfl ?_); refine Kd.R_lit Kd.string _ 9 ?hg (N := 39) ?hd (xs := ([((rdOf ByteArray.empty t170 0) ++ (B_ #[104,117,110,100,101,114,116])) ++ (rdOf ByteArray.empty x7_3 0)] : List ByteArray)) (inner := [.string (((rdOf ByteArray.empty t170 0) ++ (B_ #[104,117,110,100,101,114,116])) ++ (rdOf ByteArray.empty x7_3 0))]) (ok := fun _ => True) (okp := fun _ => True) ?hr ?hp (fun _ hk => hk) trivial (Below.refl _ _) (Nat.le_refl _) (by simp) ?_; (case hd => rfl); (case hg => rfl); (case hr => first | (go_simp; done) | (go_simp; rfl)); (case hp => exact (Reps.one (show Kd.M Kd.string _ _ _ (((rdOf ByteArray.empty t170 0) ++ (B_ #[104,117,110,100,101,114,116])) ++ (rdOf ByteArray.empty x7_3 0)) [.string (((rdOf ByteArray.empty t170 0) ++ (B_ #[104,117,110,100,101,114,116])) ++ (rdOf ByteArray.empty x7_3 0))] from rfl) (Reps.none _ _))); intro v176 w19 ho20 hb hg_ hnew_; clear hg_ hnew_; (first | rw [← Ny175.out] at ho20 | (simp only [Int.reduceToNat] at ho20; rw [← Ny175.out] at ho20)); have HO177 := am (Kd.R_lower (Kd.R_new' (Kd.R_new' ho20 (Kd.R_lt (R_st O0.out))) (Kd.R_lt (R_st HO172.out))) (below_size (bes HB.out))); replace O0 := am (Kd.R_elder' (R_st O0.out) (Kd.R_base ho20) hb); replace HO172 := am (Kd.R_elder' (R_st HO172.out) (Kd.R_base ho20) hb); replace HB := bsp HB hb; clear hb ho20))
   go_ret
   exact ⟨_, er, by exact R_st (Kd.R_mono HO177.out (fun _ hk => trivial)), by exact bes HB.out⟩
  rw [if_neg c9] at H
  have c9b0 := bF c9
  have c9b1 := nT c9
  by_cases c26 : a0 = 3; rotate_left
  ·rw [if_neg c26] at H
   have c26b0 := bF c26
   have c26b1 := nT c26; replace H := bm H; obtain ⟨t194, A41, H⟩ := H; replace A41 := am A41; obtain ⟨ji42, hji42⟩ : ∃ j_ : Int, (wrap64 (Int.tdiv a1 100)) = j_ := ⟨_, rfl⟩; replace H : (if 0 ≤ (ji42) then (if (ji42) < (t194.length : Int) then ((some (([rdOf ByteArray.empty t194 (ji42), (B_ #[104,117,110,100,114,101,100])] : List ByteArray) : List ByteArray)).bind fun y198 => (if y198.length + x7_3.length < 8796093022208 then (some (y198 ++ x7_3)) else (none))) else (none)) else (none)) = some r := by first | (rw [hji42] at H; exact H) | (simp only [hji42] at H ⊢; exact H)
   (try rw [hji42] at A41)
   have hji42w : (IntKind.i64.wrap (Int.tdiv a1 100)) = ji42 := (i64_w _).trans hji42
   by_cases c43 : 0 ≤ (ji42); rotate_left
   ·rw [if_neg c43] at H
    exact absurd H (by simp)
   rw [if_pos c43] at H
   have c43b0 := dT c43; clear c43
   by_cases c44 : (ji42) < (t194.length : Int); rotate_left
   ·rw [if_neg c44] at H
    exact absurd H (by simp)
   rw [if_pos c44] at H
   have c44b0 := dT c44; clear c44; obtain ⟨y198, hy198⟩ : ∃ y_ : List ByteArray, y_ = (([rdOf ByteArray.empty t194 (ji42), (B_ #[104,117,110,100,114,101,100])] : List ByteArray)) := ⟨_, rfl⟩; replace H : (if y198.length + x7_3.length < 8796093022208 then (some (y198 ++ x7_3)) else (none)) = some r := by first | (rw [hy198]; with_reducible exact H) | (have H2_ := (Option.bind_some _ _).symm.trans H; rw [hy198]; with_reducible exact H2_) | (have H2_ := (Option.bind_some _ _).symm.trans H; with_reducible exact H2_) | with_reducible exact H | (rw [hy198]; exact H) | exact H
   have Ny198 := am hy198; clear hy198
   by_cases c45 : y198.length + x7_3.length < 8796093022208
   ·rw [if_pos c45] at H
    have LMc45 := am c45; clear c45; obtain ⟨y201, hy201⟩ : ∃ y_ : List ByteArray, y_ = (y198 ++ x7_3) := ⟨_, rfl⟩; replace H : (some y201) = some r := by first | (rw [hy201]; with_reducible exact H) | (have H2_ := (Option.bind_some _ _).symm.trans H; rw [hy201]; with_reducible exact H2_) | (have H2_ := (Option.bind_some _ _).symm.trans H; with_reducible exact H2_) | with_reducible exact H | (rw [hy201]; exact H) | exact H
    have Ny201 := am hy201; clear hy201; obtain rfl := Option.some.inj H
    go_wp2_with (first | ((with_reducible refine gate_callee (f := 32) rfl ?_); refine gL (some 54) rfl rfl Tryd.func32 #[.int .i64 a0] ?_; (refine (newswireref11_units.calls a0 t194 _ A41.out).mono ?_); rintro e w46 ⟨v195, rfl, ho0, hb⟩; refine ⟨_, rfl, ?_⟩; have HO196 := am (Kd.R_lower (Kd.R_new' ho0 (Kd.R_lt (R_st O0.out))) (below_size (bes HB.out))); replace O0 := am (Kd.R_elder' (R_st O0.out) (Kd.R_base ho0) hb); replace HB := bsp HB hb; (try clear hb); (try clear ho0); obtain ⟨Ao47, co47, eo47⟩ := Kd.R_slice HO196.out; subst eo47; have p197 : 0 ≤ ((ji42) : Int) := of_decide_eq_true (by assumption); have q197 : (ji42) < (t194.length : Int) := of_decide_eq_true (by assumption); obtain ⟨ad197, e197, hx197_0⟩ := Kd.at_string (Kd.R_reads' HO196.out).2.2 (ji42) p197 q197; cases e197; replace p197 := eq_true p197; replace q197 := eq_true q197) | ((with_reducible refine gate_dst (N := 59) rfl ?_); refine Kd.R_lit Kd.string _ 9 ?hg (N := 59) ?hd (xs := ([rdOf ByteArray.empty t194 (ji42), (B_ #[104,117,110,100,114,101,100])] : List ByteArray)) (inner := [.string (rdOf ByteArray.empty t194 (ji42)), .string (B_ #[104,117,110,100,114,101,100])]) (ok := fun _ => True) (okp := fun _ => True) ?hr ?hp (fun _ hk => hk) trivial (Below.refl _ _) (Nat.le_refl _) (by simp) ?_; (case hd => rfl); (case hg => rfl); (case hr => first | (go_simp; done) | (go_simp; rfl)); (case hp => exact (Reps.one (show Kd.M Kd.string _ _ _ (rdOf ByteArray.empty t194 (ji42)) [.string (rdOf ByteArray.empty t194 (ji42))] from rfl) (Reps.one (show Kd.M Kd.string _ _ _ (B_ #[104,117,110,100,114,101,100]) [.string (B_ #[104,117,110,100,114,101,100])] from rfl) (Reps.none _ _)))); intro v199 w48 ho49 hb hg_ hnew_; clear hg_ hnew_; (first | rw [← Ny198.out] at ho49 | (simp only [Int.reduceToNat] at ho49; rw [← Ny198.out] at ho49)); have HO200 := am (Kd.R_lower (Kd.R_new' (Kd.R_new' ho49 (Kd.R_lt (R_st O0.out))) (Kd.R_lt (R_st HO196.out))) (below_size (bes HB.out))); replace O0 := am (Kd.R_elder' (R_st O0.out) (Kd.R_base ho49) hb); replace HO196 := am (Kd.R_elder' (R_st HO196.out) (Kd.R_base ho49) hb); replace HB := bsp HB hb; clear hb ho49; obtain ⟨Ao51, co51, eo51⟩ := Kd.R_slice O0.out; subst eo51) | ((with_reducible refine gate_builtin (b := .append) (xs := #[.tmp 59, .tmp 60]) rfl ?_); at_builtin; refine Kd.R_append_rows Kd.string (w0 := w) w.heap.size rfl (.tmp 59) (.tmp 60) 22 9 (.string ⟨#[]⟩) 16 rfl Tryd.underlying22 info9 rfl (by decide) (by omega) v199 y198 x7_3 _ _ _ (fun k_ => some k_ ≠ (.slice Ao51 x7_3.length co51 : Value).ownBlock ∧ some k_ ≠ (.slice (some ad197) t194.length co47 : Value).ownBlock) (fun _ => False) rfl rfl ?aO ?aR (fun _ _ h => h) (fun _ h => h.elim) ?aF ?aB ?aS ?aL ?_; (case aR => exact C_st ((Kd.R_reads' O0.out).2.2)); (case aB => exact (bes HB.out)); (case aF => exact (fun k_ hk => ⟨Kd.fresh' (Kd.R_lt (R_st O0.out)) k_ hk, Kd.fresh' (Kd.R_lt (R_st HO196.out)) k_ hk⟩)); (case aO => exact (by exact R_st (Kd.R_mono HO200.out (fun _ hk => ⟨hk.1.2, hk.2⟩)))); (case aS => exact (below_size (bes HB.out))); (case aL => have := LMc45.out; omega); intro v202 w50 ho hb hg hat; rw [← Ny201.out] at ho; have n0_ := am (Kd.R_after (ok := (fun k_ => some k_ ≠ (.slice (some ad197) t194.length co47 : Value).ownBlock)) (by exact R_st (Kd.R_mono O0.out (fun _ hk => ⟨hk.1.2, hk.2⟩))) hg hat); have n1_ := am (Kd.R_after (ok := (fun k_ => some k_ ≠ (.slice Ao51 x7_3.length co51 : Value).ownBlock)) (by exact R_st (Kd.R_mono HO196.out (fun _ hk => ⟨hk.1.2, hk.2⟩))) hg hat); have n2_ := am (hb); have n3_ := am (ho); clear O0; clear HO196; clear HB; clear HO200; have O0 := n0_; have HO196 := n1_; have HB := n2_; have HO203 := n3_; clear n0_ n1_ n2_ n3_; clear ho hb hg hat))
    go_ret
    exact ⟨_, by first | rfl | (simp [errW_none, errW_some] <;> rfl) | (simp only [← hji42]; first | rfl | (simp [errW_none, errW_some] <;> rfl)) | (simp [*, errW_none, errW_some] <;> rfl), by exact R_st (Kd.R_mono HO203.out (fun _ hk => trivial)), by exact bes HB.out⟩
   rw [if_neg c45] at H
   exact absurd H (by simp)
  rw [if_pos c26] at H
  have c26b0 := bT c26
  have c26b1 := nF c26; clear c26
  by_cases c27 : a1 = 100
  ·rw [if_pos c27] at H
   have c27b0 := bT c27
   have c27b1 := nF c27; clear c27; obtain ⟨y181, hy181⟩ : ∃ y_ : List ByteArray, y_ = (([(B_ #[99,105,101,110])] : List ByteArray)) := ⟨_, rfl⟩; replace H : (some y181) = some r := by first | (rw [hy181]; with_reducible exact H) | (have H2_ := (Option.bind_some _ _).symm.trans H; rw [hy181]; with_reducible exact H2_) | (have H2_ := (Option.bind_some _ _).symm.trans H; with_reducible exact H2_) | with_reducible exact H | (rw [hy181]; exact H) | exact H
   have Ny181 := am hy181; clear hy181; obtain rfl := Option.some.inj H
   go_wp2_with (first | ((with_reducible refine gate_dst (N := 44) rfl ?_); refine Kd.R_lit Kd.string _ 9 ?hg (N := 44) ?hd (xs := ([(B_ #[99,105,101,110])] : List ByteArray)) (inner := [.string (B_ #[99,105,101,110])]) (ok := fun _ => True) (okp := fun _ => True) ?hr ?hp (fun _ hk => hk) trivial (Below.refl _ _) (Nat.le_refl _) (by simp) ?_; (case hd => rfl); (case hg => rfl); (case hr => first | (go_simp; done) | (go_simp; rfl)); (case hp => exact (Reps.one (show Kd.M Kd.string _ _ _ (B_ #[99,105,101,110]) [.string (B_ #[99,105,101,110])] from rfl) (Reps.none _ _))); intro v182 w28 ho29 hb hg_ hnew_; clear hg_ hnew_; (first | rw [← Ny181.out] at ho29 | (simp only [Int.reduceToNat] at ho29; rw [← Ny181.out] at ho29)); have HO183 := am (Kd.R_lower (Kd.R_new' ho29 (Kd.R_lt (R_st O0.out))) (below_size (bes HB.out))); replace O0 := am (Kd.R_elder' (R_st O0.out) (Kd.R_base ho29) hb); replace HB := bsp HB hb; clear hb ho29))
   go_ret
   exact ⟨_, er, by exact R_st (Kd.R_mono HO183.out (fun _ hk => trivial)), by exact bes HB.out⟩
  rw [if_neg c27] at H
  have c27b0 := bF c27
  have c27b1 := nT c27; replace H := bm H; obtain ⟨t184, A30, H⟩ := H; replace A30 := am A30; obtain ⟨ji31, hji31⟩ : ∃ j_ : Int, (wrap64 (Int.tdiv a1 100)) = j_ := ⟨_, rfl⟩; replace H : (if 0 ≤ (ji31) then (if (ji31) < (t184.length : Int) then ((some (([rdOf ByteArray.empty t184 (ji31)] : List ByteArray) : List ByteArray)).bind fun y188 => (if y188.length + x7_3.length < 8796093022208 then (some (y188 ++ x7_3)) else (none))) else (none)) else (none)) = some r := by first | (rw [hji31] at H; exact H) | (simp only [hji31] at H ⊢; exact H)
  (try rw [hji31] at A30)
  have hji31w : (IntKind.i64.wrap (Int.tdiv a1 100)) = ji31 := (i64_w _).trans hji31
  by_cases c32 : 0 ≤ (ji31); rotate_left
  ·rw [if_neg c32] at H
   exact absurd H (by simp)
  rw [if_pos c32] at H
  have c32b0 := dT c32; clear c32
  by_cases c33 : (ji31) < (t184.length : Int); rotate_left
  ·rw [if_neg c33] at H
   exact absurd H (by simp)
  rw [if_pos c33] at H
  have c33b0 := dT c33; clear c33; obtain ⟨y188, hy188⟩ : ∃ y_ : List ByteArray, y_ = (([rdOf ByteArray.empty t184 (ji31)] : List ByteArray)) := ⟨_, rfl⟩; replace H : (if y188.length + x7_3.length < 8796093022208 then (some (y188 ++ x7_3)) else (none)) = some r := by first | (rw [hy188]; with_reducible exact H) | (have H2_ := (Option.bind_some _ _).symm.trans H; rw [hy188]; with_reducible exact H2_) | (have H2_ := (Option.bind_some _ _).symm.trans H; with_reducible exact H2_) | with_reducible exact H | (rw [hy188]; exact H) | exact H
  have Ny188 := am hy188; clear hy188
  by_cases c34 : y188.length + x7_3.length < 8796093022208
  ·rw [if_pos c34] at H
   have LMc34 := am c34; clear c34; obtain ⟨y191, hy191⟩ : ∃ y_ : List ByteArray, y_ = (y188 ++ x7_3) := ⟨_, rfl⟩; replace H : (some y191) = some r := by first | (rw [hy191]; with_reducible exact H) | (have H2_ := (Option.bind_some _ _).symm.trans H; rw [hy191]; with_reducible exact H2_) | (have H2_ := (Option.bind_some _ _).symm.trans H; with_reducible exact H2_) | with_reducible exact H | (rw [hy191]; exact H) | exact H
   have Ny191 := am hy191; clear hy191; obtain rfl := Option.some.inj H
   go_wp2_with (first | ((with_reducible refine gate_callee (f := 56) rfl ?_); refine gL (some 45) rfl rfl Tryd.func56 #[] ?_; (refine (newswireref11_hundreds.calls  t184 _ A30.out).mono ?_); rintro e w35 ⟨v185, rfl, ho0, hb⟩; refine ⟨_, rfl, ?_⟩; have HO186 := am (Kd.R_lower (Kd.R_new' ho0 (Kd.R_lt (R_st O0.out))) (below_size (bes HB.out))); replace O0 := am (Kd.R_elder' (R_st O0.out) (Kd.R_base ho0) hb); replace HB := bsp HB hb; (try clear hb); (try clear ho0); obtain ⟨Ao36, co36, eo36⟩ := Kd.R_slice HO186.out; subst eo36; have p187 : 0 ≤ ((ji31) : Int) := of_decide_eq_true (by assumption); have q187 : (ji31) < (t184.length : Int) := of_decide_eq_true (by assumption); obtain ⟨ad187, e187, hx187_0⟩ := Kd.at_string (Kd.R_reads' HO186.out).2.2 (ji31) p187 q187; cases e187; replace p187 := eq_true p187; replace q187 := eq_true q187) | ((with_reducible refine gate_dst (N := 50) rfl ?_); refine Kd.R_lit Kd.string _ 9 ?hg (N := 50) ?hd (xs := ([rdOf ByteArray.empty t184 (ji31)] : List ByteArray)) (inner := [.string (rdOf ByteArray.empty t184 (ji31))]) (ok := fun _ => True) (okp := fun _ => True) ?hr ?hp (fun _ hk => hk) trivial (Below.refl _ _) (Nat.le_refl _) (by simp) ?_; (case hd => rfl); (case hg => rfl); (case hr => first | (go_simp; done) | (go_simp; rfl)); (case hp => exact (Reps.one (show Kd.M Kd.string _ _ _ (rdOf ByteArray.empty t184 (ji31)) [.string (rdOf ByteArray.empty t184 (ji31))] from rfl) (Reps.none _ _))); intro v189 w37 ho38 hb hg_ hnew_; clear hg_ hnew_; (first | rw [← Ny188.out] at ho38 | (simp only [Int.reduceToNat] at ho38; rw [← Ny188.out] at ho38)); have HO190 := am (Kd.R_lower (Kd.R_new' (Kd.R_new' ho38 (Kd.R_lt (R_st O0.out))) (Kd.R_lt (R_st HO186.out))) (below_size (bes HB.out))); replace O0 := am (Kd.R_elder' (R_st O0.out) (Kd.R_base ho38) hb); replace HO186 := am (Kd.R_elder' (R_st HO186.out) (Kd.R_base ho38) hb); replace HB := bsp HB hb; clear hb ho38; obtain ⟨Ao40, co40, eo40⟩ := Kd.R_slice O0.out; subst eo40) | ((with_reducible refine gate_builtin (b := .append) (xs := #[.tmp 50, .tmp 51]) rfl ?_); at_builtin; refine Kd.R_append_rows Kd.string (w0 := w) w.heap.size rfl (.tmp 50) (.tmp 51) 22 9 (.string ⟨#[]⟩) 16 rfl Tryd.underlying22 info9 rfl (by decide) (by omega) v189 y188 x7_3 _ _ _ (fun k_ => some k_ ≠ (.slice Ao40 x7_3.length co40 : Value).ownBlock ∧ some k_ ≠ (.slice (some ad187) t184.length co36 : Value).ownBlock) (fun _ => False) rfl rfl ?aO ?aR (fun _ _ h => h) (fun _ h => h.elim) ?aF ?aB ?aS ?aL ?_; (case aR => exact C_st ((Kd.R_reads' O0.out).2.2)); (case aB => exact (bes HB.out)); (case aF => exact (fun k_ hk => ⟨Kd.fresh' (Kd.R_lt (R_st O0.out)) k_ hk, Kd.fresh' (Kd.R_lt (R_st HO186.out)) k_ hk⟩)); (case aO => exact (by exact R_st (Kd.R_mono HO190.out (fun _ hk => ⟨hk.1.2, hk.2⟩)))); (case aS => exact (below_size (bes HB.out))); (case aL => have := LMc34.out; omega); intro v192 w39 ho hb hg hat; rw [← Ny191.out] at ho; have n0_ := am (Kd.R_after (ok := (fun k_ => some k_ ≠ (.slice (some ad187) t184.length co36 : Value).ownBlock)) (by exact R_st (Kd.R_mono O0.out (fun _ hk => ⟨hk.1.2, hk.2⟩))) hg hat); have n1_ := am (Kd.R_after (ok := (fun k_ => some k_ ≠ (.slice Ao40 x7_3.length co40 : Value).ownBlock)) (by exact R_st (Kd.R_mono HO186.out (fun _ hk => ⟨hk.1.2, hk.2⟩))) hg hat); have n2_ := am (hb); have n3_ := am (ho); clear O0; clear HO186; clear HB; clear HO190; have O0 := n0_; have HO186 := n1_; have HB := n2_; have HO193 := n3_; clear n0_ n1_ n2_ n3_; clear ho hb hg hat))
   go_ret
   exact ⟨_, by first | rfl | (simp [errW_none, errW_some] <;> rfl) | (simp only [← hji31]; first | rfl | (simp [errW_none, errW_some] <;> rfl)) | (simp [*, errW_none, errW_some] <;> rfl), by exact R_st (Kd.R_mono HO193.out (fun _ hk => trivial)), by exact bes HB.out⟩
  rw [if_neg c34] at H
  exact absurd H (by simp)

end Go.Proofs.YtjgobfbjmlacjaaDoor.XM
