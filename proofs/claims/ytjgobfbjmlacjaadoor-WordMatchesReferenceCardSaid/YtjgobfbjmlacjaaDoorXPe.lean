/-
 What the kernel sees at each number from 1 to 999.
-/
import Derived.Test.YtjgobfbjmlacjaaDoorXPd
set_option linter.unusedSimpArgs false
set_option linter.unusedVariables false
set_option maxRecDepth 100000
namespace Go.Proofs.YtjgobfbjmlacjaaDoor.XP
open Go.RowKit Go.Proofs.YtjgobfbjmlacjaaDoorW.PrintWords Go.Proofs.YtjgobfbjmlacjaaDoorW.PrintLast Go.Proofs.YtjgobfbjmlacjaaDoorW.PrintMore
/-! ### What is seen at each number from 1 to 999 -/
theorem back1_1 : (List.range' 1 250).all (backAt 1) = true := by decide +kernel
theorem back1_251 : (List.range' 251 250).all (backAt 1) = true := by decide +kernel
theorem back1_501 : (List.range' 501 250).all (backAt 1) = true := by decide +kernel
theorem back1_751 : (List.range' 751 249).all (backAt 1) = true := by decide +kernel
theorem back2_1 : (List.range' 1 250).all (backAt 2) = true := by decide +kernel
theorem back2_251 : (List.range' 251 250).all (backAt 2) = true := by decide +kernel
theorem back2_501 : (List.range' 501 250).all (backAt 2) = true := by decide +kernel
theorem back2_751 : (List.range' 751 249).all (backAt 2) = true := by decide +kernel
theorem back3_1 : (List.range' 1 250).all (backAt 3) = true := by decide +kernel
theorem back3_251 : (List.range' 251 250).all (backAt 3) = true := by decide +kernel
theorem back3_501 : (List.range' 501 250).all (backAt 3) = true := by decide +kernel
theorem back3_751 : (List.range' 751 249).all (backAt 3) = true := by decide +kernel
theorem all_range {f : Nat → Bool} {a n : Nat} (h : (List.range' a n).all f = true) {q : Nat} (h1 : a ≤ q) (h2 : q < a + n) : f q = true := List.all_eq_true.mp h q (List.mem_range'_1.mpr ⟨h1, h2⟩)
theorem all_999 {f : Nat → Nat → Bool} {l : Nat} (a : (List.range' 1 250).all (f l) = true) (b : (List.range' 251 250).all (f l) = true) (c : (List.range' 501 250).all (f l) = true) (d : (List.range' 751 249).all (f l) = true) {q : Nat} (h1 : 1 ≤ q) (h2 : q < 1000) : f l q = true := by
 by_cases h3 : q < 251
 ·exact all_range a h1 (by omega)
 by_cases h4 : q < 501
 ·exact all_range b (by omega) (by omega)
 by_cases h5 : q < 751
 ·exact all_range c (by omega) (by omega)
 ·exact all_range d (by omega) (by omega)
theorem value_small {l : Nat} (h0 : 0 < l) (h4 : l < 4) {n : Nat} (h1 : 1 ≤ n) (h2 : n < 1000) : value l (small l n) = some n := by
 have hb : backAt l n = true := by
  rcases langs h0 h4 with rfl | rfl | rfl
  ·exact all_999 back1_1 back1_251 back1_501 back1_751 h1 h2
  ·exact all_999 back2_1 back2_251 back2_501 back2_751 h1 h2
  ·exact all_999 back3_1 back3_251 back3_501 back3_751 h1 h2
 unfold backAt at hb
 rw [valueQ_eq h0 h4] at hb
 cases hv : value l (small l n) with
 | none => rw [hv] at hb; cases hb
 | some m => rw [hv] at hb; rw [Nat.eq_of_beq_eq_true hb]
def mark : Nat → S → Bool
 | 1, w => beqN w [116, 104, 111, 117, 115, 97, 110, 100]
 | 2, w => (prefN [100, 110, 101, 115, 117, 97, 116] w.reverse).isSome
 | _, w => beqN w sMil
def markEnd (l : Nat) : List S → Bool
 | [] => false
 | [w] => mark l w
 | w :: r => !mark l w && markEnd l r
def thl (l q : Nat) : S := thousands l (small l q) q
def chk1 (l q : Nat) : Bool := match Lib.fields (small l q) with | [] => false | w :: r => beqN (jn (w :: r)) (small l q) && (w :: r).all fun w => !mark l w
def chk2 (l q : Nat) : Bool := match Lib.fields (thl l q) with | [] => false | w :: r => beqN (jn (w :: r)) (thl l q) && markEnd l (w :: r)
def chk3 : Nat → Nat → Bool
 | 2, q => (prefN [110, 105, 101] (small 2 q).reverse).isNone
 | l, q => (prefN [110, 117] (small l q).reverse).isNone
theorem chk1_1_1 : (List.range' 1 250).all (chk1 1) = true := by decide +kernel
theorem chk1_1_251 : (List.range' 251 250).all (chk1 1) = true := by decide +kernel
theorem chk1_1_501 : (List.range' 501 250).all (chk1 1) = true := by decide +kernel
theorem chk1_1_751 : (List.range' 751 249).all (chk1 1) = true := by decide +kernel
theorem chk1_2_1 : (List.range' 1 250).all (chk1 2) = true := by decide +kernel
theorem chk1_2_251 : (List.range' 251 250).all (chk1 2) = true := by decide +kernel
theorem chk1_2_501 : (List.range' 501 250).all (chk1 2) = true := by decide +kernel
theorem chk1_2_751 : (List.range' 751 249).all (chk1 2) = true := by decide +kernel
theorem chk1_3_1 : (List.range' 1 250).all (chk1 3) = true := by decide +kernel
theorem chk1_3_251 : (List.range' 251 250).all (chk1 3) = true := by decide +kernel
theorem chk1_3_501 : (List.range' 501 250).all (chk1 3) = true := by decide +kernel
theorem chk1_3_751 : (List.range' 751 249).all (chk1 3) = true := by decide +kernel
theorem chk2_1_1 : (List.range' 1 250).all (chk2 1) = true := by decide +kernel
theorem chk2_1_251 : (List.range' 251 250).all (chk2 1) = true := by decide +kernel
theorem chk2_1_501 : (List.range' 501 250).all (chk2 1) = true := by decide +kernel
theorem chk2_1_751 : (List.range' 751 249).all (chk2 1) = true := by decide +kernel
theorem chk2_2_1 : (List.range' 1 250).all (chk2 2) = true := by decide +kernel
theorem chk2_2_251 : (List.range' 251 250).all (chk2 2) = true := by decide +kernel
theorem chk2_2_501 : (List.range' 501 250).all (chk2 2) = true := by decide +kernel
theorem chk2_2_751 : (List.range' 751 249).all (chk2 2) = true := by decide +kernel
theorem chk2_3_1 : (List.range' 1 250).all (chk2 3) = true := by decide +kernel
theorem chk2_3_251 : (List.range' 251 250).all (chk2 3) = true := by decide +kernel
theorem chk2_3_501 : (List.range' 501 250).all (chk2 3) = true := by decide +kernel
theorem chk2_3_751 : (List.range' 751 249).all (chk2 3) = true := by decide +kernel
theorem chk3_1_1 : (List.range' 1 250).all (chk3 1) = true := by decide +kernel
theorem chk3_1_251 : (List.range' 251 250).all (chk3 1) = true := by decide +kernel
theorem chk3_1_501 : (List.range' 501 250).all (chk3 1) = true := by decide +kernel
theorem chk3_1_751 : (List.range' 751 249).all (chk3 1) = true := by decide +kernel
theorem chk3_2_1 : (List.range' 1 250).all (chk3 2) = true := by decide +kernel
theorem chk3_2_251 : (List.range' 251 250).all (chk3 2) = true := by decide +kernel
theorem chk3_2_501 : (List.range' 501 250).all (chk3 2) = true := by decide +kernel
theorem chk3_2_751 : (List.range' 751 249).all (chk3 2) = true := by decide +kernel
theorem chk3_3_1 : (List.range' 1 250).all (chk3 3) = true := by decide +kernel
theorem chk3_3_251 : (List.range' 251 250).all (chk3 3) = true := by decide +kernel
theorem chk3_3_501 : (List.range' 501 250).all (chk3 3) = true := by decide +kernel
theorem chk3_3_751 : (List.range' 751 249).all (chk3 3) = true := by decide +kernel
theorem chk1_all {l : Nat} (h0 : 0 < l) (h4 : l < 4) {n : Nat} (h1 : 1 ≤ n) (h2 : n < 1000) : chk1 l n = true := by
 rcases langs h0 h4 with rfl | rfl | rfl
 ·exact all_999 chk1_1_1 chk1_1_251 chk1_1_501 chk1_1_751 h1 h2
 ·exact all_999 chk1_2_1 chk1_2_251 chk1_2_501 chk1_2_751 h1 h2
 ·exact all_999 chk1_3_1 chk1_3_251 chk1_3_501 chk1_3_751 h1 h2
theorem chk2_all {l : Nat} (h0 : 0 < l) (h4 : l < 4) {n : Nat} (h1 : 1 ≤ n) (h2 : n < 1000) : chk2 l n = true := by
 rcases langs h0 h4 with rfl | rfl | rfl
 ·exact all_999 chk2_1_1 chk2_1_251 chk2_1_501 chk2_1_751 h1 h2
 ·exact all_999 chk2_2_1 chk2_2_251 chk2_2_501 chk2_2_751 h1 h2
 ·exact all_999 chk2_3_1 chk2_3_251 chk2_3_501 chk2_3_751 h1 h2
theorem chk3_all {l : Nat} (h0 : 0 < l) (h4 : l < 4) {n : Nat} (h1 : 1 ≤ n) (h2 : n < 1000) : chk3 l n = true := by
 rcases langs h0 h4 with rfl | rfl | rfl
 ·exact all_999 chk3_1_1 chk3_1_251 chk3_1_501 chk3_1_751 h1 h2
 ·exact all_999 chk3_2_1 chk3_2_251 chk3_2_501 chk3_2_751 h1 h2
 ·exact all_999 chk3_3_1 chk3_3_251 chk3_3_501 chk3_3_751 h1 h2
end Go.Proofs.YtjgobfbjmlacjaaDoor.XP
