/-
 The number of a text, in a form that is quickly computed.
-/
import Derived.Test.YtjgobfbjmlacjaaDoorXPc
set_option linter.unusedSimpArgs false
set_option linter.unusedVariables false
set_option maxRecDepth 100000
namespace Go.Proofs.YtjgobfbjmlacjaaDoor.XP
open Go.RowKit Go.Proofs.YtjgobfbjmlacjaaDoorW.PrintWords Go.Proofs.YtjgobfbjmlacjaaDoorW.PrintLast Go.Proofs.YtjgobfbjmlacjaaDoorW.PrintMore
def hundLit : Nat → List (Nat × S × S)
 | 1 => [(1, [111, 110, 101, 32, 104, 117, 110, 100, 114, 101, 100], [111, 110, 101, 32, 104, 117, 110, 100, 114, 101, 100, 32]), (2, [116, 119, 111, 32, 104, 117, 110, 100, 114, 101, 100], [116, 119, 111, 32, 104, 117, 110, 100, 114, 101, 100, 32]), (3, [116, 104, 114, 101, 101, 32, 104, 117, 110, 100, 114, 101, 100], [116, 104, 114, 101, 101, 32, 104, 117, 110, 100, 114, 101, 100, 32]), (4, [102, 111, 117, 114, 32, 104, 117, 110, 100, 114, 101, 100], [102, 111, 117, 114, 32, 104, 117, 110, 100, 114, 101, 100, 32]), (5, [102, 105, 118, 101, 32, 104, 117, 110, 100, 114, 101, 100], [102, 105, 118, 101, 32, 104, 117, 110, 100, 114, 101, 100, 32]), (6, [115, 105, 120, 32, 104, 117, 110, 100, 114, 101, 100], [115, 105, 120, 32, 104, 117, 110, 100, 114, 101, 100, 32]), (7, [115, 101, 118, 101, 110, 32, 104, 117, 110, 100, 114, 101, 100], [115, 101, 118, 101, 110, 32, 104, 117, 110, 100, 114, 101, 100, 32]), (8, [101, 105, 103, 104, 116, 32, 104, 117, 110, 100, 114, 101, 100], [101, 105, 103, 104, 116, 32, 104, 117, 110, 100, 114, 101, 100, 32]), (9, [110, 105, 110, 101, 32, 104, 117, 110, 100, 114, 101, 100], [110, 105, 110, 101, 32, 104, 117, 110, 100, 114, 101, 100, 32])]
 | 2 => [(1, [101, 105, 110, 104, 117, 110, 100, 101, 114, 116], [101, 105, 110, 104, 117, 110, 100, 101, 114, 116]), (2, [122, 119, 101, 105, 104, 117, 110, 100, 101, 114, 116], [122, 119, 101, 105, 104, 117, 110, 100, 101, 114, 116]), (3, [100, 114, 101, 105, 104, 117, 110, 100, 101, 114, 116], [100, 114, 101, 105, 104, 117, 110, 100, 101, 114, 116]), (4, [118, 105, 101, 114, 104, 117, 110, 100, 101, 114, 116], [118, 105, 101, 114, 104, 117, 110, 100, 101, 114, 116]), (5, [102, 117, 101, 110, 102, 104, 117, 110, 100, 101, 114, 116], [102, 117, 101, 110, 102, 104, 117, 110, 100, 101, 114, 116]), (6, [115, 101, 99, 104, 115, 104, 117, 110, 100, 101, 114, 116], [115, 101, 99, 104, 115, 104, 117, 110, 100, 101, 114, 116]), (7, [115, 105, 101, 98, 101, 110, 104, 117, 110, 100, 101, 114, 116], [115, 105, 101, 98, 101, 110, 104, 117, 110, 100, 101, 114, 116]), (8, [97, 99, 104, 116, 104, 117, 110, 100, 101, 114, 116], [97, 99, 104, 116, 104, 117, 110, 100, 101, 114, 116]), (9, [110, 101, 117, 110, 104, 117, 110, 100, 101, 114, 116], [110, 101, 117, 110, 104, 117, 110, 100, 101, 114, 116])]
 | 3 => [(1, [99, 105, 101, 110], [99, 105, 101, 110, 116, 111, 32]), (2, [100, 111, 115, 99, 105, 101, 110, 116, 111, 115], [100, 111, 115, 99, 105, 101, 110, 116, 111, 115, 32]), (3, [116, 114, 101, 115, 99, 105, 101, 110, 116, 111, 115], [116, 114, 101, 115, 99, 105, 101, 110, 116, 111, 115, 32]), (4, [99, 117, 97, 116, 114, 111, 99, 105, 101, 110, 116, 111, 115], [99, 117, 97, 116, 114, 111, 99, 105, 101, 110, 116, 111, 115, 32]), (5, [113, 117, 105, 110, 105, 101, 110, 116, 111, 115], [113, 117, 105, 110, 105, 101, 110, 116, 111, 115, 32]), (6, [115, 101, 105, 115, 99, 105, 101, 110, 116, 111, 115], [115, 101, 105, 115, 99, 105, 101, 110, 116, 111, 115, 32]), (7, [115, 101, 116, 101, 99, 105, 101, 110, 116, 111, 115], [115, 101, 116, 101, 99, 105, 101, 110, 116, 111, 115, 32]), (8, [111, 99, 104, 111, 99, 105, 101, 110, 116, 111, 115], [111, 99, 104, 111, 99, 105, 101, 110, 116, 111, 115, 32]), (9, [110, 111, 118, 101, 99, 105, 101, 110, 116, 111, 115], [110, 111, 118, 101, 99, 105, 101, 110, 116, 111, 115, 32])]
 | _ => []
/-! ### The same, in a form that is quickly computed -/
def beqN : S → S → Bool
 | [], [] => true
 | a :: r, b :: t => match Nat.beq a.toNat b.toNat with
  | true => beqN r t
  | false => false
 | _, _ => false
theorem beqN_eq : ∀ a b : S, beqN a b = (a == b)
 | [], [] => rfl
 | [], _ :: _ => rfl
 | _ :: _, [] => rfl
 | a :: r, b :: t => by
  rw [beqN]
  by_cases h : a = b
  ·subst h
   rw [show Nat.beq a.toNat a.toNat = true from Nat.beq_refl _]
   show beqN r t = _
   rw [beqN_eq r t, Bool.eq_iff_iff]; simp
  ·have hn : Nat.beq a.toNat b.toNat = false := by
    rw [← Bool.not_eq_true, Nat.beq_eq]
    exact fun hh => h (UInt8.toNat_inj.mp hh)
   rw [hn]
   show false = _
   symm; rw [beq_eq_false_iff_ne]
   intro hh; exact h (List.cons.inj hh).1
def prefN : S → S → Option S   -- what is left behind a beginning
 | [], t => some t
 | a :: r, b :: t => match Nat.beq a.toNat b.toNat with
  | true => prefN r t
  | false => none
 | _ :: _, [] => none
theorem prefN_eq : ∀ a b : S, prefN a b = if a.isPrefixOf b then some (b.drop a.length) else none
 | [], t => by simp [prefN]
 | a :: r, [] => by simp [prefN]
 | a :: r, b :: t => by
  rw [prefN]
  by_cases h : a = b
  ·subst h
   rw [show Nat.beq a.toNat a.toNat = true from Nat.beq_refl _]
   show prefN r t = _
   rw [prefN_eq r t]; simp
  ·have hn : Nat.beq a.toNat b.toNat = false := by
    rw [← Bool.not_eq_true, Nat.beq_eq]
    exact fun hh => h (UInt8.toNat_inj.mp hh)
   rw [hn]
   simp [h]
def findN : List S → S → Nat → Option Nat
 | [], _, _ => none
 | a :: r, s, i => match beqN a s with
  | true => some i
  | false => findN r s (i + 1)
theorem findN_eq (s : S) : ∀ (u : List S) (i : Nat), findN u s i = (u.findIdx? (· == s)).map (· + i)
 | [], i => rfl
 | a :: r, i => by
  rw [findN, beqN_eq, List.findIdx?_cons]
  cases (a == s) with
  | true => simp
  | false =>
   show findN r s (i + 1) = _
   rw [findN_eq s r (i + 1)]
   cases List.findIdx? (fun x => x == s) r with
   | none => rfl
   | some j => simp; omega
def lookN : List (S × Nat) → S → Option Nat
 | [], _ => none
 | (a, n) :: r, s => match beqN a s with
  | true => some n
  | false => lookN r s
theorem lookN_eq (s : S) : ∀ u : List (S × Nat), lookN u s = (u.find? (·.1 == s)).map (·.2)
 | [] => rfl
 | (a, n) :: r => by
  rw [lookN, beqN_eq, List.find?_cons]
  cases h : (a == s) with
  | true => simp [h]
  | false => simp [h, lookN_eq s r]
def restQ (l : Nat) (s : S) : Option Nat :=
 match findN (units l) s 0 with
 | some (i + 1) => some (i + 1)
 | _ => match findN (tens l) s 0 with
  | some i => some (20 + 10 * i)
  | none => lookN (restTab l) s
def hundQ (l : Nat) (s : S) : List (Nat × S × S) → Option Nat
 | [] => none
 | (h, a, b) :: r => match beqN a s with
  | true => some (100 * h)
  | false => match prefN b s with
   | none => hundQ l s r
   | some t => match restQ l t with
    | some n => some (100 * h + n)
    | none => hundQ l s r
def valueQ (l : Nat) (s : S) : Option Nat :=
 match restQ l s with
 | some n => some n
 | none => hundQ l s (hundLit l)
theorem hundLit_eq : ∀ l < 4, 0 < l → (List.range' 1 9).map (fun h => (h, hundreds l h [], headOf l h)) = hundLit l := by
 intro l h4 h0
 rcases langs h0 h4 with rfl | rfl | rfl <;> rfl
theorem restQ_eq {l : Nat} (h0 : 0 < l) (h4 : l < 4) (s : S) : restQ l s = rest l s := by
 unfold restQ rest
 rw [findN_eq, findN_eq, lookN_eq]
 simp only [Nat.add_zero, Option.map_id']
 rfl
theorem hundQ_eq {l : Nat} (h0 : 0 < l) (h4 : l < 4) (s : S) : ∀ u : List (Nat × S × S), hundQ l s u = u.findSome? fun x => if x.2.1 = s then some (100 * x.1) else if x.2.2.isPrefixOf s then (rest l (s.drop x.2.2.length)).map (100 * x.1 + ·) else none
 | [] => rfl
 | (h, a, b) :: r => by
  rw [hundQ, List.findSome?_cons, beqN_eq, prefN_eq]
  by_cases e : a = s
  ·simp [e]
  ·simp only [beq_eq_false_iff_ne.mpr e, e, if_false]
   by_cases p : b.isPrefixOf s = true
   ·simp only [p, if_true, restQ_eq h0 h4]
    cases rest l (s.drop b.length) with
    | some n => rfl
    | none => exact hundQ_eq h0 h4 s r
   ·simp only [p, if_false]
    exact hundQ_eq h0 h4 s r
theorem findSome_map {α β γ : Type} (f : α → β) (g : β → Option γ) : ∀ l : List α, (l.map f).findSome? g = l.findSome? fun x => g (f x)
 | [] => rfl
 | x :: l => by rw [List.map_cons, List.findSome?_cons, List.findSome?_cons, findSome_map f g l]
theorem valueQ_eq {l : Nat} (h0 : 0 < l) (h4 : l < 4) (s : S) : valueQ l s = value l s := by
 unfold valueQ value
 rw [restQ_eq h0 h4, hundQ_eq h0 h4, ← hundLit_eq l h4 h0, findSome_map]
 rfl
def backAt (l n : Nat) : Bool := match valueQ l (small l n) with | some m => Nat.beq m n | none => false
/-- The texts of 1 to 999 are read back. -/
def back (l a : Nat) : Bool := (List.range' a 100).all (backAt l)
end Go.Proofs.YtjgobfbjmlacjaaDoor.XP
